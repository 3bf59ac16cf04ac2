/- DERIVED. The plain laws: what the models compute. -/
import Derived.Test.YtaebdcandpfmgaaGreatXc

set_option linter.all false
set_option linter.unusedVariables false
set_option linter.unusedSimpArgs false

namespace Go.Ev
open Go

theorem Ad {x:Int} (h:-9223372036854775808 <= x) (h':x < 9223372036854775808):W x = x:=Amw h h'

@[simp] theorem A2 {α β:Type} (r:β) (k:β->Option α):ob (some r) k = k r:=rfl

@[simp] theorem B9e {α β:Type} (k:β->Option α):ob (none:Option β) k = none:=rfl

@[simp] theorem Ih {α:Type} (x:Option α):gd true x = x:=rfl

@[simp] theorem B9b {α:Type} (x:Option α):gd false x = none:=rfl

theorem A4 {α:Type} {g:Bool} (h:g = true) (x:Option α):gd g x = x:=by rw [h];rfl

theorem Cx {α:Type} {l m:List α} {i:Nat} {d:α} (h:i < l.length):(l ++ m).getD i d = l.getD i d:=by
 simp [QH,QW h]

theorem Cy {α:Type} {l:List α} {x d:α}:(l ++ [x]).getD l.length d = x:=by
 simp [QH]

theorem O4 {α:Type} {l r:List α} {x d:α} {k:Nat} (h:l.drop k = x :: r):l.getD k d = x /\ k < l.length /\ l.drop (k + 1) = r:=by
 have hk:k < l.length:=by
  rcases XF k l.length with h' | h'
  . exact h'
  . rw [ZC h'] at h;cases h
 have:=XN hk;rw [h] at this;injection this with h1 h2
 exact ⟨by simp [QH,hk,h1],hk,h2.symm⟩

def vl:List Int->Int
 | []=>0
 | x :: r=>x + 10000 * vl r

def Lm (l:List Int):Prop:=∀ x ∈ l,0 <= x /\ x < 10000

def dg (n:Nat):List Int:=if n = 0 then [] else ((n % 10000:Nat):Int) :: dg (n / 10000)
termination_by n
decreasing_by omega

theorem C4:dg 0 = []:=by rw [dg];rfl

theorem E6 {n:Nat} (h:n ≠ 0):dg n = ((n % 10000:Nat):Int) :: dg (n / 10000):=by rw [dg,QK h]

theorem Lm.nil:Lm []:=fun _ h=>by cases h

theorem Lm.cons {x:Int} {l:List Int} (hx:0 <= x /\ x < 10000) (hl:Lm l):Lm (x :: l):=fun y hy=>by
 rcases QT.1 hy with rfl | hy
 . exact hx
 . exact hl y hy

theorem Lm.head {x:Int} {l:List Int} (h:Lm (x :: l)):0 <= x /\ x < 10000:=h x (by simp)

theorem Lm.tail {x:Int} {l:List Int} (h:Lm (x :: l)):Lm l:=fun y hy=>h y (by simp [hy])

theorem Lm.app {l m:List Int} (h:Lm l) (h':Lm m):Lm (l ++ m):=fun y hy=>(QF.1 hy).elim (h y) (h' y)

theorem Lm.take {l:List Int} (h:Lm l) (k:Nat):Lm (l.take k):=fun y hy=>h y (Qau hy)

theorem Lm.drop {l:List Int} (h:Lm l) (k:Nat):Lm (l.drop k):=fun y hy=>h y (Qas hy)

theorem Lm.set {l:List Int} (h:Lm l) (k:Nat) {x:Int} (hx:0 <= x /\ x < 10000):Lm (l.set k x):=fun y hy=>by
 rcases Qab hy with hy | rfl
 . exact h y hy
 . exact hx

theorem Lm.get {l:List Int} (h:Lm l) (k:Nat):0 <= l.getD k 0 /\ l.getD k 0 < 10000:=by
 rw [QH]
 cases e:l[k]? with
 | none=>simp
 | some x=>exact h x (QU e)

theorem Lm.rep (n:Nat):Lm (List.replicate n 0):=fun y hy=>by
 obtain rfl:=(List.mem_replicate.1 hy).2;omega

theorem D4 (n:Nat):Lm (dg n):=by
 induction n using Nat.strongRecOn with
 | _ n ih =>
  by_cases h:n = 0
  . subst h;rw [C4];exact Lm.nil
  . rw [E6 h]
    exact Lm.cons (by omega) (ih _ (by omega))

theorem Bc (n:Nat):vl (dg n) = n:=by
 induction n using Nat.strongRecOn with
 | _ n ih =>
  by_cases h:n = 0
  . subst h;rw [C4];rfl
  . rw [E6 h,vl,ih _ (by omega)]
    omega

theorem Ay {l:List Int} (h:Lm l):0 <= vl l:=by
 induction l with
 | nil=>exact JV _
 | cons x r ih =>
  have:=h.head;have:=ih h.tail;simp only [vl];omega

theorem Ep (k:Nat):(0:Int) < 10000 ^ k:=Int.pow_pos (by omega)

theorem Bk (k:Nat):(10000:Int) ^ (k + 1) = 10000 * 10000 ^ k:=by rw [Int.pow_succ,Int.mul_comm]

theorem Vh {i j:Nat} (h:i <= j):(10000:Int) ^ i <= 10000 ^ j:=by
 induction j with
 | zero => obtain rfl : i = 0 := by omega
           exact JV _
 | succ j ih =>
  by_cases e:i = j + 1
  . subst e;exact JV _
  . have:=ih (by omega)
    have:=Ep j;rw [Bk];omega

theorem Ajp {i j:Nat} (h:(10000:Int) ^ i < 10000 ^ j):i < j:=by
 rcases XF i j with h' | h'
 . exact h'
 . have:=Vh h';omega

theorem Ge {l:List Int} (h:Lm l):vl l < 10000 ^ l.length:=by
 induction l with
 | nil=>simp [vl]
 | cons x r ih =>
  have:=h.head;have:=ih h.tail;simp only [vl,ZA,Bk];omega

theorem A24 (l m:List Int):vl (l ++ m) = vl l + 10000 ^ l.length * vl m:=by
 induction l with
 | nil=>simp [vl]
 | cons x r ih=>simp only [YG,vl,ih,ZA,Bk];grind

theorem Nu (l:List Int) (x:Int):vl (l ++ [x]) = vl l + 10000 ^ l.length * x:=by rw [A24];simp [vl]

theorem T4 (n:Nat):vl (List.replicate n 0) = 0:=by
 induction n with
 | zero=>rfl
 | succ n ih=>simp [Qba,vl,ih]

theorem Bu {l:List Int} {k:Nat} (h:k < l.length):vl (l.take (k + 1)) = vl (l.take k) + 10000 ^ k * l.getD k 0:=by
 rw [KK h,Nu,YQ,JJ (by omega),QH,QN h]
 rfl

theorem Jd {l:List Int} {k:Nat} (x:Int) (h:k < l.length):vl (l.set k x) = vl l + 10000 ^ k * (x - l.getD k 0):=by
 induction l generalizing k with
 | nil=>simp at h
 | cons y r ih =>
  cases k with
  | zero=>simp [vl];omega
  | succ k =>
   have:=ih (k:=k) (by simpa using h)
   simp only [List.set_cons_succ,vl,this,Qbb,Bk];grind

def Cn (l:List Int):Prop:=Lm l /\ (l ≠ []->l.getD (l.length - 1) 0 ≠ 0)

theorem Fu (n:Nat):Cn (dg n):=by
 refine ⟨D4 n,?_⟩
 induction n using Nat.strongRecOn with
 | _ n ih =>
  by_cases h:n = 0
  . subst h;rw [C4];exact fun h=>absurd rfl h
  . rw [E6 h];intro _;by_cases e:dg (n / 10000) = []
    . rw [e]
      have h0:n / 10000 = 0:=by
       have:=Bc (n / 10000);rw [e] at this;simp only [vl] at this;omega
      simp;omega
    . have:=ih (n / 10000) (by omega) e
      have hl:0 < (dg (n / 10000)).length:=ZY.2 e;simp only [ZA,Qae]
      rw [show (dg (n / 10000)).length = ((dg (n / 10000)).length - 1) + 1 by omega,Qbb]
      exact this

theorem Cn.tail {x:Int} {l:List Int} (h:Cn (x :: l)):Cn l:=by
 refine ⟨h.1.tail,fun hn=>?_⟩
 have:=h.2 (by simp)
 have hl:0 < l.length:=ZY.2 hn;simp only [ZA,Qae] at this
 rw [show l.length = (l.length - 1) + 1 by omega,Qbb] at this
 exact this

theorem Cn.pos {l:List Int} (h:Cn l) (hn:l ≠ []):0 < vl l:=by
 induction l with
 | nil=>exact absurd rfl hn
 | cons x r ih =>
  have hx:=h.1.head;have hr:=Ay h.1.tail;by_cases e:r = []
  . subst e
    have:=h.2 (by simp)
    simp at this;simp only [vl];omega
  . have:=ih h.tail e;simp only [vl];omega

theorem Gi {l:List Int} (h:Cn l):dg (vl l).toNat = l:=by
 induction l with
 | nil=>exact C4
 | cons x r ih =>
  have hx:=h.1.head;have hr:=Ay h.1.tail
  have hp:=h.pos (by simp)
  have ih:=ih h.tail;simp only [vl] at hp ⊢
  rw [E6 (by omega)]
  congr 1
  . omega
  . rw [<- ih];congr 1;rw [ih];omega

theorem Cn.ge {l:List Int} (h:Cn l) (hn:l ≠ []):(10000:Int) ^ (l.length - 1) <= vl l:=by
 have hl:0 < l.length:=ZY.2 hn
 have h1:=Bu (l:=l) (k:=l.length - 1) (by omega)
 rw [show l.length - 1 + 1 = l.length by omega,YJ] at h1
 have h2:=h.2 hn;have h3:=h.1.get (l.length - 1);have h4:=Ay (h.1.take (l.length - 1));have h5:=Ep (l.length - 1)
 have h6:(10000:Int) ^ (l.length - 1) * 1 <= 10000 ^ (l.length - 1) * l.getD (l.length - 1) 0:=XK (by omega) (by omega)
 omega

theorem P4 {n k:Nat}:(dg n).length <= k ↔ (n:Int) < 10000 ^ k:=by
 constructor
 . intro h;have:=Ge (D4 n);rw [Bc] at this;exact Int.lt_of_lt_of_le this (Vh h)
 . intro h;by_cases e:dg n = []
   . rw [e];simp
   . have:=(Fu n).ge e;rw [Bc] at this;have:=Ajp (Int.lt_of_le_of_lt this h);have hl:0 < (dg n).length:=ZY.2 e;omega

theorem B79 {n:Nat}:dg n = [] ↔ n = 0:=by
 constructor
 . intro h;have:=Bc n;rw [h] at this;simp only [vl] at this;omega
 . rintro rfl;exact C4

theorem Bf {a b:Nat} (h:a <= b):(dg a).length <= (dg b).length:=by
 refine P4.2 ?_;have:=Ge (D4 b);rw [Bc] at this;omega

def cm (x y:Int):Int:=if x < y then -1 else if x = y then 0 else 1

theorem Rw {a b:List Int} (ha:Lm a) (hb:Lm b) {k:Nat} (h1:k < a.length) (h2:k < b.length) (h:a.getD k 0 < b.getD k 0):vl (a.take (k + 1)) < vl (b.take (k + 1)):=by
 rw [Bu h1,Bu h2];have q1:=Ge (ha.take k)
 rw [YQ,JJ (by omega)] at q1
 have q2:=Ay (hb.take k)
 have q3:(10000:Int) ^ k * (a.getD k 0 + 1) <= 10000 ^ k * b.getD k 0:=XK (by omega) (by have:=Ep k;omega)
 rw [Int.mul_add,Int.mul_one] at q3;omega

theorem Cn.lt_of_len {a b:List Int} (ha:Cn a) (hb:Cn b) (h:a.length < b.length):vl a < vl b:=by
 have h1:=Ge ha.1
 have h2:=hb.ge (by intro e;subst e;simp at h)
 have h3:(10000:Int) ^ a.length <= 10000 ^ (b.length - 1):=Vh (by omega)
 omega

theorem Cn.of_take {l:List Int} (h:Lm l) {t:Nat} (ht:t <= l.length) (hl:t = 0 \/ l.getD (t - 1) 0 ≠ 0):Cn (l.take t):=by
 refine ⟨h.take t,fun hn=>?_⟩
 have hlen:(l.take t).length = t:=by simp;omega
 rcases hl with rfl | hl
 . simp at hn
 . have ht0:t ≠ 0:=by rintro rfl;simp at hn
   rw [hlen,QH,XC,QL (by omega),<- QH]
   exact hl

theorem tdv {x:Int} (h:0 <= x):Int.tdiv x 10000 = x / 10000:=KJ h

theorem tmd {x:Int} (h:0 <= x):Int.tmod x 10000 = x % 10000:=Int.tmod_eq_emod_of_nonneg h

theorem Agq {α:Type} {n:Nat} {l:List Int} (hN:l.length <= 1099511627776) {k0:List Int->Int->Option α}:∀ (m k:Nat),k < m->k <= l.length ->
  ∃ t,t <= k /\ Wk n m l (k:Int) k0 = k0 l (t:Int) /\ vl (l.take t) = vl (l.take k) /\ (t = 0 \/ l.getD (t - 1) 0 ≠ 0)
 | 0,k,h,_=>by omega
 | m + 1,k,h,hk=>by
  rw [Aq3];unfold Ze;dsimp only;by_cases h0:k = 0
  . subst h0;exact ⟨0,QY _,rfl,rfl,.inl rfl⟩
  . rw [QI,QL (by omega),Ad (by omega) (by omega),A4 (by simp;omega)]
    have e:((k:Int) - 1).toNat = k - 1:=by omega
    rw [e,XE];by_cases hz:l.getD (k - 1) 0 = 0
    . rw [QL (by rw [hz];rfl)]
      obtain ⟨t,h1,h2,h3,h4⟩:=Agq (n:=n) hN (k0:=k0) m (k - 1) (by omega) (by omega)
      refine ⟨t,by omega,?_,?_,h4⟩
      . rw [show (k:Int) - 1 = ((k - 1:Nat):Int) by omega];exact h2
      . rw [h3]
        have:=Bu (l:=l) (k:=k - 1) (by omega)
        rw [show k - 1 + 1 = k by omega,hz] at this
        rw [this];simp
    . rw [QK (by simpa using hz)]
      exact ⟨k,QY _,rfl,rfl,.inr hz⟩

theorem Wj {n:Nat} {l:List Int} (hl:Lm l) (hN:l.length <= 1099511627776) (hn:l.length < n):f218 n l = some (dg (vl l).toNat):=by
 unfold f218;obtain ⟨t,h1,h2,h3,h4⟩:=Agq (n:=n) hN (k0:=fun b a=>gd (decide (0 <= a) && decide (a <= (b.length:Int))) (gd (decide ((0 + ((b.drop 0).take (a.toNat - 0)).length) * 8 <= 140737488355328)) (some ((b.drop 0).take (a.toNat - 0))))) n l.length hn (QY _)
 rw [h2,A4 (by simp;omega),A4 (by simp;omega)]
 simp only [ZR,QS,KU];rw [YJ] at h3
 rw [<- h3,Gi (Cn.of_take hl (by omega) h4)]

theorem Agp {α:Type} {n:Nat} {l:List Int} (hN:l.length <= 1099511627776) {k0:List Int->Int->Option α}:∀ (m k:Nat),k < m->k <= l.length ->
  ∃ t,t <= k /\ Wh n m l (k:Int) k0 = k0 l (t:Int) /\ vl (l.take t) = vl (l.take k) /\ (t = 0 \/ l.getD (t - 1) 0 ≠ 0)
 | 0,k,h,_=>by omega
 | m + 1,k,h,hk=>by
  rw [Apx];unfold Z7;dsimp only;by_cases h0:k = 0
  . subst h0;exact ⟨0,QY _,rfl,rfl,.inl rfl⟩
  . rw [QI,QL (by omega),Ad (by omega) (by omega),A4 (by simp;omega)]
    have e:((k:Int) - 1).toNat = k - 1:=by omega
    rw [e,XE];by_cases hz:l.getD (k - 1) 0 = 0
    . rw [QL (by rw [hz];rfl)]
      obtain ⟨t,h1,h2,h3,h4⟩:=Agp (n:=n) hN (k0:=k0) m (k - 1) (by omega) (by omega)
      refine ⟨t,by omega,?_,?_,h4⟩
      . rw [show (k:Int) - 1 = ((k - 1:Nat):Int) by omega];exact h2
      . rw [h3]
        have:=Bu (l:=l) (k:=k - 1) (by omega)
        rw [show k - 1 + 1 = k by omega,hz] at this
        rw [this];simp
    . rw [QK (by simpa using hz)]
      exact ⟨k,QY _,rfl,rfl,.inr hz⟩

theorem Oc {n:Nat} {l:List Int} (hl:Lm l) (hN:l.length <= 1099511627776) (hn:l.length < n):f225 n l = some (dg (vl l).toNat):=by
 unfold f225;obtain ⟨t,h1,h2,h3,h4⟩:=Agp (n:=n) hN (k0:=fun b a=>gd (decide (0 <= a) && decide (a <= (b.length:Int))) (some ((b.drop 0).take (a.toNat - 0)))) n l.length hn (QY _)
 rw [h2,A4 (by simp;omega)]
 simp only [ZR,QS,KU];rw [YJ] at h3
 rw [<- h3,Gi (Cn.of_take hl (by omega) h4)]

theorem Aam {α:Type} {n:Nat} {k0:List Int->Option α}:∀ (m x:Nat) (o:List Int),(x:Int) <= 9223372036854775807->(dg x).length < m->o.length + (dg x).length <= 1099511627776->Wu n m (x:Int) o k0 = k0 (o ++ dg x)
 | 0,x,o,_,h,_=>by omega
 | m + 1,x,o,hx,h,hN=>by
  rw [Arw];unfold A0u;dsimp only;by_cases h0:x = 0
  . subst h0;rw [C4];simp
  . rw [E6 h0] at h hN ⊢;simp only [ZA] at h hN
    rw [QI,QL (by omega),A4 (by simp;omega),tdv (by omega),tmd (by omega),Ad (by omega) (by omega),show (x:Int) / 10000 = ((x / 10000:Nat):Int) by omega,show (x:Int) % 10000 = ((x % 10000:Nat):Int) by omega]
    rw [Aam (n:=n) m (x / 10000) _ (by omega) (by omega) (by simp;omega)]
    simp

theorem Wt {n:Nat} {x:Nat} (hx:(x:Int) <= 9223372036854775807) (hn:10 < n):f181 n (x:Int) = some (dg x):=by
 have hl:(dg x).length <= 5:=P4.2 (by rw [show (10000:Int) ^ 5 = 100000000000000000000 from rfl];omega)
 unfold f181
 rw [Aam (n:=n) n x [] hx (by omega) (by simp;omega)]
 simp

theorem Aan {α:Type} {n:Nat} {k0:List Int->Option α}:∀ (m x:Nat) (o:List Int),(x:Int) <= 9223372036854775807->(dg x).length < m->o.length + (dg x).length <= 1099511627776->Wv n m (x:Int) o k0 = k0 (o ++ dg x)
 | 0,x,o,_,h,_=>by omega
 | m + 1,x,o,hx,h,hN=>by
  rw [Ary];unfold A0x;dsimp only;by_cases h0:x = 0
  . subst h0;rw [C4];simp
  . rw [E6 h0] at h hN ⊢;simp only [ZA] at h hN
    rw [QI,QL (by omega),A4 (by simp;omega),tdv (by omega),tmd (by omega),Ad (by omega) (by omega),show (x:Int) / 10000 = ((x / 10000:Nat):Int) by omega,show (x:Int) % 10000 = ((x % 10000:Nat):Int) by omega]
    rw [Aan (n:=n) m (x / 10000) _ (by omega) (by omega) (by simp;omega)]
    simp

theorem A5x {n:Nat} {x:Nat} (hx:(x:Int) <= 9223372036854775807) (hn:10 < n):f179 n (x:Int) = some (dg x):=by
 have hl:(dg x).length <= 5:=P4.2 (by rw [show (10000:Int) ^ 5 = 100000000000000000000 from rfl];omega)
 unfold f179
 rw [Aan (n:=n) n x [] hx (by omega) (by simp;omega)]
 simp

theorem La {n:Nat} {b:Bool}:f170 n b = some (if b = true then 1 else 0):=by cases b <;> rfl

theorem Hv {x y:Int} (h:x < y):cm x y = -1:=by unfold cm;rw [QL h]

theorem Hw {x y:Int} (h:y < x):cm x y = 1:=by unfold cm;rw [QK (by omega),QK (by omega)]

theorem Ja {x y:Int} (h:x = y):cm x y = 0:=by unfold cm;rw [QK (by omega),QL h]

theorem Atk (x y z:Int):cm (x + z) (y + z) = cm x y:=by
 rcases Int.lt_trichotomy x y with h | h | h
 . rw [Hv h,Hv (by omega)]
 . rw [Ja h,Ja (by omega)]
 . rw [Hw h,Hw (by omega)]

theorem Atj {α:Type} {n:Nat} {a b:List Int} (ha:Lm a) (hb:Lm b) (hab:a.length = b.length) (hN:a.length <= 1099511627776) {k0:Int->Option α} {k1:Unit->Option α}:∀ (m k:Nat),k < m->k <= a.length ->
  Wq n m a b ((k:Int) - 1) k0 k1 = if vl (a.take k) = vl (b.take k) then k1 () else k0 (cm (vl (a.take k)) (vl (b.take k)))
 | 0,k,h,_=>by omega
 | m + 1,k,h,hk=>by
  rw [Arl];unfold A0g;dsimp only;by_cases h0:k = 0
  . subst h0;simp
  . rw [QI,QL (by omega),A4 (by simp;omega),A4 (by simp;omega)]
    have e:((k:Int) - 1).toNat = k - 1:=by omega
    rw [e,XE]
    have ta:=Bu (l:=a) (k:=k - 1) (by omega)
    have tb:=Bu (l:=b) (k:=k - 1) (by omega)
    rw [show k - 1 + 1 = k by omega] at ta tb
    by_cases hz:a.getD (k - 1) 0 = b.getD (k - 1) 0
    . rw [QK (by simpa using hz),Ad (by omega) (by omega)]
      rw [show (k:Int) - 1 - 1 = ((k - 1:Nat):Int) - 1 by omega,Atj (n:=n) ha hb hab hN m (k - 1) (by omega) (by omega)]
      rw [ta,tb,hz];by_cases h1:vl (a.take (k - 1)) = vl (b.take (k - 1))
      . rw [QL h1,QL (by omega)]
      . rw [QK h1,QK (by omega)]
        rw [Atk]
    . rw [QL (by simpa using hz),A4 (by simp;omega),A4 (by simp;omega),La,A2]
      rcases Int.lt_or_gt_of_ne hz with h1 | h1
      . have:=Rw ha hb (k:=k - 1) (by omega) (by omega) h1
        rw [show k - 1 + 1 = k by omega] at this
        rw [show (if vl (a.take k) = vl (b.take k) then k1 () else k0 (cm (vl (a.take k)) (vl (b.take k)))) = k0 (-1) by rw [QK (by omega),Hv this],QK (by rw [QQ];omega)]
        rfl
      . have:=Rw hb ha (k:=k - 1) (by omega) (by omega) h1
        rw [show k - 1 + 1 = k by omega] at this
        rw [show (if vl (a.take k) = vl (b.take k) then k1 () else k0 (cm (vl (a.take k)) (vl (b.take k)))) = k0 1 by rw [QK (by omega),Hw this],QL (by rw [QQ];omega)]
        rfl

theorem B18 {n:Nat} {a b:List Int} (ha:Cn a) (hb:Cn b) (hN:a.length <= 1099511627776) (hn:a.length < n):f188 n a b = some (cm (vl a) (vl b)):=by
 unfold f188;rw [XE];by_cases h:a.length = b.length
 . rw [QK (by simp [h]),Ad (by omega) (by omega),Atj (n:=n) ha.1 hb.1 h hN n a.length hn (QY _)]
   rw [YJ,h,YJ];by_cases h1:vl a = vl b
   . rw [QL h1,Ja h1]
   . rw [QK h1]
 . rw [QL (by simp;omega),La,A2]
   rcases Nat.lt_or_gt_of_ne h with h1 | h1
   . rw [Hv (ha.lt_of_len hb h1),QK (by simp;omega)];rfl
   . rw [Hw (hb.lt_of_len ha h1),QL (by simp;omega)];rfl

theorem Ati {α:Type} {n:Nat} {a b:List Int} (ha:Lm a) (hb:Lm b) (hab:a.length = b.length) {k0 k1:Int->Option α}:∀ (k:Nat),k <= a.length ->
  M4 n a k a b 0 k0 k1 = if vl (a.take k) = vl (b.take k) then k0 0 else k1 (cm (vl (a.take k)) (vl (b.take k)))
 | 0,_=>by rw [Aqo];simp
 | k + 1,hk=>by
  rw [Aqm];unfold Zr;dsimp only
  rw [A4 (by simp;omega),XE]
  have ta:=Bu (l:=a) (k:=k) (by omega)
  have tb:=Bu (l:=b) (k:=k) (by omega)
  simp only [QS];by_cases hz:a.getD k 0 = b.getD k 0
  . rw [QK (by simpa using hz),A4 (by simp),Ati ha hb hab k (by omega)]
    rw [ta,tb,hz];by_cases h1:vl (a.take k) = vl (b.take k)
    . rw [QL h1,QL (by omega)]
    . rw [QK h1,QK (by omega)]
      rw [Atk]
  . rw [QL (by simpa using hz),A4 (by simp;omega),QI]
    rcases Int.lt_or_gt_of_ne hz with h1 | h1
    . have:=Rw ha hb (k:=k) (by omega) (by omega) h1
      rw [show (if vl (a.take (k + 1)) = vl (b.take (k + 1)) then k0 0 else k1 (cm (vl (a.take (k + 1))) (vl (b.take (k + 1))))) = k1 (-1) by rw [QK (by omega),Hv this],QL h1]
    . have:=Rw hb ha (k:=k) (by omega) (by omega) h1
      rw [show (if vl (a.take (k + 1)) = vl (b.take (k + 1)) then k0 0 else k1 (cm (vl (a.take (k + 1))) (vl (b.take (k + 1))))) = k1 1 by rw [QK (by omega),Hw this],QK (by omega)]

theorem B0j {n:Nat} {a b:List Int} (ha:Cn a) (hb:Cn b) (hN:a.length <= 1099511627776):f203 n a b = some (cm (vl a) (vl b)):=by
 unfold f203;rw [XE];by_cases h:a.length = b.length
 . rw [QK (by simp [h])]
   rw [show f228 n a = some a from rfl,A2,Aqn,A4 (by simp;omega),Ati ha.1 hb.1 h a.length (QY _)]
   rw [YJ,h,YJ];by_cases h1:vl a = vl b
   . rw [QL h1,Ja h1]
   . rw [QK h1]
 . rw [QL (by simp;omega),QI]
   rcases Nat.lt_or_gt_of_ne h with h1 | h1
   . rw [Hv (ha.lt_of_len hb h1),QL (by omega)]
   . rw [Hw (hb.lt_of_len ha h1),QK (by omega)]

theorem Az (l:List Int) (k:Nat):vl (l.take (k + 1)) = vl (l.take k) + 10000 ^ k * l.getD k 0:=by
 rcases XF k l.length with h | h
 . exact Bu h
 . rw [XM (by omega),XM (by omega),QH,KA h]
   simp

theorem B6 {l:List Int} {k:Nat} (h:l.length <= k):l.getD k 0 = 0:=by
 rw [QH,KA h];rfl

theorem Cn.of_ge {l:List Int} (h:Lm l) (hg:l ≠ []->(10000:Int) ^ (l.length - 1) <= vl l):Cn l:=by
 refine ⟨h,fun hn e=>?_⟩;have hl:0 < l.length:=ZY.2 hn;have h1:=Az l (l.length - 1)
 rw [show l.length - 1 + 1 = l.length by omega,YJ,e] at h1
 have h2:=Ge (h.take (l.length - 1))
 rw [YQ,JJ (by omega)] at h2
 have:=hg hn;omega

theorem I5 (l:List Int) {k:Nat} (h:l.length <= k):l.take k = l:=XM h

theorem Au0 {α:Type} {n:Nat} {a b:List Int} (ha:Cn a) (hb:Cn b) (hN:a.length <= 1099511627776) (hNb:b.length <= 1099511627776) {k0:List Int->Option α}:∀ (m i:Nat) (c:Int) (o:List Int),o.length = i->Lm o->0 <= c->c <= 1 ->
  vl o + 10000 ^ i * c = vl (a.take i) + vl (b.take i)->(i <= max a.length b.length \/ (i = max a.length b.length + 1 /\ c = 0 /\ o.getD (i - 1) 0 ≠ 0))->max a.length b.length + 2 <= i + m ->
  Ol n m a b c (i:Int) o k0 = k0 (dg (vl a + vl b).toNat)
 | 0,i,c,o,ho,hlo,hc0,hc1,hv,hq,hm=>by omega
 | m + 1,i,c,o,ho,hlo,hc0,hc1,hv,hq,hm=>by
  rw [Aro];unfold A0j;dsimp only
  have fin:a.length <= i->b.length <= i->c = 0->o = dg (vl a + vl b).toNat:=fun h1 h2 h3=>by
   rw [I5 a h1,I5 b h2,h3] at hv
   have hv':vl o = vl a + vl b:=by simpa using hv
   have:Cn o:=Cn.of_ge hlo fun hn=>by
    have hl:0 < o.length:=ZY.2 hn;rcases hq with hq | ⟨hq1,_,hq3⟩
    . have hmx:i = max a.length b.length:=by omega
      rw [ho,hv'];rcases Nat.le_total a.length b.length with hab | hab
      . have h4:=hb.ge (ZY.1 (by omega))
        have h5:=Ay ha.1
        rw [show i - 1 = b.length - 1 by omega];omega
      . have h4:=ha.ge (ZY.1 (by omega))
        have h5:=Ay hb.1
        rw [show i - 1 = a.length - 1 by omega];omega
    . have h1:=Az o (o.length - 1)
      rw [show o.length - 1 + 1 = o.length by omega,YJ] at h1
      have h2:=Ay (hlo.take (o.length - 1));have h3:=hlo.get (o.length - 1);rw [<- ho] at hq3;have h4:=Ep (o.length - 1)
      have h5:(10000:Int) ^ (o.length - 1) * 1 <= 10000 ^ (o.length - 1) * o.getD (o.length - 1) 0:=XK (by omega) (by omega)
      omega
   rw [<- hv',Gi this]
  have go:∀ (y:Int),y = c + a.getD i 0 + b.getD i 0->(i < max a.length b.length \/ (i = max a.length b.length /\ 0 < c))->Ol n m a b (W (Int.tdiv y 10000)) (W ((i:Int) + 1)) (o ++ [Int.tmod y 10000]) k0 = k0 (dg (vl a + vl b).toNat):=by
   intro y hy hi;have h1:=ha.1.get i;have h2:=hb.1.get i
   rw [tdv (by omega),tmd (by omega),Ad (by omega) (by omega),Ad (by omega) (by omega)]
   have ta:=Az a i;have tb:=Az b i
   have hyy:y = 10000 * (y / 10000) + y % 10000:=by omega
   refine Au0 (n:=n) ha hb hN hNb m (i + 1) _ _ (by simp [ho]) (hlo.app (Lm.cons (by omega) Lm.nil)) (by omega) (by omega) ?_ ?_ (by omega)
   . rw [Nu,ho,ta,tb,Bk];generalize y / 10000 = q at *;generalize y % 10000 = r at *;generalize (10000:Int) ^ i = P at *;grind
   . rcases hi with hi | ⟨hi,hc⟩
     . exact .inl (by omega)
     . right
       have e1:a.getD i 0 = 0:=B6 (by omega)
       have e2:b.getD i 0 = 0:=B6 (by omega)
       have e3:y = 1:=by omega
       subst e3
       refine ⟨by omega,by rfl,?_⟩
       rw [Qae,<- ho,QH];simp
  have hcases:(i < a.length \/ i < b.length \/ 0 < c)->(i < max a.length b.length \/ (i = max a.length b.length /\ 0 < c)):=fun h=>by
   rcases h with h | h | h
   . exact .inl (by omega)
   . exact .inl (by omega)
   . rcases hq with hq | ⟨_,h0,_⟩
     . omega
     . omega
  have ho2:(decide ((o.length + 1) * 8 <= 140737488355328)) = true:=by
   rw [QQ];rcases hq with hq | ⟨hq,_⟩ <;> omega
  have h1:=ha.1.get i;have h2:=hb.1.get i;by_cases hA:i < a.length
  . have dA:decide ((i:Int) < (a.length:Int)) = true:=by rw [QQ];omega
    simp only [dA,XO,QS]
    rw [A4 (by simp;try omega),Ad (x:=c + a.getD i 0) (by omega) (by omega)]
    by_cases hB:i < b.length
    . have dB:decide ((i:Int) < (b.length:Int)) = true:=by rw [QQ];omega
      simp only [dB,XO]
      rw [A4 (by simp;try omega),A4 ho2,Ad (x:=c + a.getD i 0 + b.getD i 0) (by omega) (by omega)]
      exact go _ rfl (hcases (.inl hA))
    . have dB:decide ((i:Int) < (b.length:Int)) = false:=by rw [ZS];omega
      simp only [dB,ZD];rw [A4 ho2]
      exact go _ (by rw [B6 (l:=b) (by omega)];omega) (hcases (.inl hA))
  . have dA:decide ((i:Int) < (a.length:Int)) = false:=by rw [ZS];omega
    simp only [dA,ZD,QS];by_cases hB:i < b.length
    . have dB:decide ((i:Int) < (b.length:Int)) = true:=by rw [QQ];omega
      simp only [dB,XO]
      rw [A4 (by simp;try omega),A4 ho2,Ad (x:=c + b.getD i 0) (by omega) (by omega)]
      exact go _ (by rw [B6 (l:=a) (by omega)];omega) (hcases (.inr (.inl hB)))
    . have dB:decide ((i:Int) < (b.length:Int)) = false:=by rw [ZS];omega
      simp only [dB,ZD];rw [QI];by_cases hc:0 < c
      . rw [QL (by omega),A4 ho2]
        exact go _ (by rw [B6 (l:=a) (by omega),B6 (l:=b) (by omega)];omega) (hcases (.inr (.inr hc)))
      . rw [QK (by omega),fin (by omega) (by omega) (by omega)]

theorem B1a {n:Nat} {a b:List Int} (ha:Cn a) (hb:Cn b) (hN:a.length <= 1099511627776) (hNb:b.length <= 1099511627776) (hn:max a.length b.length + 2 <= n):f187 n a b = some (dg (vl a + vl b).toNat):=by
 unfold f187
 have:=Au0 (n:=n) ha hb hN hNb (k0:=fun c=>some c) n 0 0 [] rfl Lm.nil (by omega) (by omega) (by simp [vl]) (.inl (by omega)) (by omega)
 exact this

theorem An2 {α:Type} {n:Nat} {a b:List Int} (ha:Lm a) (hb:Lm b) (hN:a.length <= 1099511627776) {k0:List Int->Option α}:∀ (m i:Nat) (c:Int) (o:List Int),o.length = i->Lm o->0 <= c->c <= 1->i <= a.length ->
  vl o - 10000 ^ i * c = vl (a.take i) - vl (b.take i)->a.length + 1 <= i + m ->
  ∃ o' c',L5 n m a b c (i:Int) o k0 = k0 o' /\ o'.length = a.length /\ Lm o' /\ 0 <= c' /\ c' <= 1 /\ vl o' - 10000 ^ a.length * c' = vl a - vl (b.take a.length)
 | 0,i,c,o,ho,hlo,hc0,hc1,hi,hv,hm=>by omega
 | m + 1,i,c,o,ho,hlo,hc0,hc1,hi,hv,hm=>by
  rw [Arj];unfold A0d;dsimp only;by_cases hA:i < a.length
  . rw [QI,QL (by omega),A4 (by simp;try omega)]
    have h1:=ha.get i;have h2:=hb.get i;have ta:=Az a i;have tb:=Az b i
    have ho2:(decide ((o.length + 1) * 8 <= 140737488355328)) = true:=by
     rw [QQ];omega
    have go:∀ y:Int,y = a.getD i 0 - c - b.getD i 0->∃ o' c',L5 n m a b (if y < 0 then 1 else 0) (W ((i:Int) + 1)) (o ++ [W (y + W ((if y < 0 then 1 else 0) * 10000))]) k0 = k0 o' /\ o'.length = a.length /\ Lm o' /\ 0 <= c' /\ c' <= 1 /\ vl o' - 10000 ^ a.length * c' = vl a - vl (b.take a.length):=by
     intro y hy
     obtain ⟨d,hd⟩:∃ d:Int,d = if y < 0 then 1 else 0:=⟨_,rfl⟩
     have hd1:0 <= d /\ d <= 1 /\ 0 <= y + d * 10000 /\ y + d * 10000 < 10000:=by
      rw [hd];split <;> omega
     rw [<- hd,Ad (x:=d * 10000) (by omega) (by omega),Ad (x:=y + d * 10000) (by omega) (by omega),Ad (x:=(i:Int) + 1) (by omega) (by omega)]
     refine An2 (n:=n) ha hb hN m (i + 1) d _ (by simp [ho]) (hlo.app (Lm.cons (by omega) Lm.nil)) (by omega) (by omega) (by omega) ?_ (by omega)
     rw [Nu,ho,ta,tb,Bk];generalize (10000:Int) ^ i = P at *;grind
    simp only [QS];by_cases hB:i < b.length
    . have dB:decide ((i:Int) < (b.length:Int)) = true:=by rw [QQ];omega
      simp only [dB,XO]
      rw [A4 (by simp;try omega)]
      simp only [Ad (x:=a.getD i 0 - c) (by omega) (by omega),Ad (x:=a.getD i 0 - c - b.getD i 0) (by omega) (by omega)]
      rw [La,A2,A4 ho2];simp only [QQ];exact go _ rfl
    . have dB:decide ((i:Int) < (b.length:Int)) = false:=by rw [ZS];omega
      simp only [dB,ZD]
      simp only [Ad (x:=a.getD i 0 - c) (by omega) (by omega)]
      rw [La,A2,A4 ho2];simp only [QQ]
      exact go _ (by rw [B6 (l:=b) (by omega)];omega)
  . rw [QI,QK (by omega)]
    obtain rfl:i = a.length:=by omega
    rw [YJ] at hv;exact ⟨o,c,rfl,ho,hlo,hc0,hc1,hv⟩

theorem B16 {n:Nat} {a b:List Int} (ha:Cn a) (hb:Cn b) (hN:a.length <= 1099511627776) (hn:a.length + 1 <= n) (hab:vl b <= vl a):f189 n a b = some (dg (vl a - vl b).toNat):=by
 have hl:b.length <= a.length:=by
  rcases XF a.length b.length with h | h
  . have:=ha.lt_of_len hb h;omega
  . exact h
 unfold f189
 obtain ⟨o,c,h1,h2,h3,h4,h5,h6⟩:=An2 (n:=n) ha.1 hb.1 hN (k0:=fun d=>ob (f218 n d) fun e=>some e) n 0 0 [] rfl Lm.nil (by omega) (by omega) (by omega) (by simp [vl]) (by omega)
 have h1:L5 n n a b 0 0 [] (fun d=>ob (f218 n d) fun e=>some e) = _:=h1
 rw [h1,Wj h3 (by omega) (by omega),A2]
 rw [I5 b hl] at h6;have h7:=Ge h3;rw [h2] at h7
 have:c = 0:=by
  rcases Int.lt_or_eq_of_le h4 with h | h
  . have:c = 1:=by omega
    rw [this] at h6;omega
  . exact h.symm
 rw [this] at h6
 rw [show vl o = vl a - vl b by simpa using h6]

theorem Ku {l:List Int} {k:Nat} (h:k < l.length):vl (l.drop k) = l.getD k 0 + 10000 * vl (l.drop (k + 1)):=by
 rw [XN h,vl,QH,QN h];rfl

theorem Ab4 {P o ok y q r c ai bk v' T:Int} (h:o + P * (c + ai * (bk + 10000 * v')) = T) (hy:y = ok + c + ai * bk) (hq:y = 10000 * q + r):o + P * (r - ok) + 10000 * P * (q + ai * v') = T:=by
 grind

theorem Yl {x y:Int} (hx:0 <= x /\ x < 10000) (hy:0 <= y /\ y < 10000):0 <= x * y /\ x * y <= 99980001:=by
 have h1:=Int.mul_nonneg hx.1 hy.1
 have h2:x * y <= 9999 * y:=Int.mul_le_mul_of_nonneg_right (by omega) hy.1
 omega

theorem Anu {α:Type} {n:Nat} {a b:List Int} (ha:Lm a) (hb:Lm b) (i:Nat) (hi:i < a.length) {S:Nat} (hS:a.length + b.length < S) (hN:S <= 1099511627776) {T:Int} (hT:T < 10000 ^ S) {k0:List Int->List Int->Int->List Int->Option α} :
  ∀ (m k:Nat) (c:Int) (o:List Int),Lm o->o.length = S->0 <= c->c < 10000->i + k <= S->vl o + 10000 ^ (i + k) * (c + a.getD i 0 * vl (b.drop k)) = T->S + 1 <= i + k + m ->
  ∃ o',Lm o' /\ o'.length = S /\ vl o' = T /\ L6 n m a b (i:Int) c (k:Int) o k0 = k0 a b (i:Int) o'
 | 0,k,c,o,hlo,ho,hc0,hc1,hik,hv,hm=>by omega
 | m + 1,k,c,o,hlo,ho,hc0,hc1,hik,hv,hm=>by
  rw [Arr];unfold A0m;dsimp only;have h1:=ha.get i;have h2:=hb.get k;have h3:=hlo.get (i + k);have h4:=Yl h1 h2;have hvo:=Ay hlo
  have go:∀ y:Int,i + k < S->(k < b.length \/ b.length <= k)->y = o.getD (i + k) 0 + c + a.getD i 0 * b.getD k 0 ->
    ∃ o',Lm o' /\ o'.length = S /\ vl o' = T /\ L6 n m a b (i:Int) (W (Int.tdiv y 10000)) (W ((k:Int) + 1)) (o.set (i + k) (Int.tmod y 10000)) k0 = k0 a b (i:Int) o':=by
   intro y hlt hk hy
   rw [tdv (by omega),tmd (by omega),Ad (by omega) (by omega),Ad (by omega) (by omega)]
   refine Anu (n:=n) ha hb i hi hS hN hT m (k + 1) _ _ (hlo.set _ (by omega)) (by simpa using ho) (by omega) (by omega) (by omega) ?_ (by omega)
   rw [Jd _ (by omega),show i + (k + 1) = (i + k) + 1 by omega,Bk]
   have hyy:y = 10000 * (y / 10000) + y % 10000:=by omega
   refine Ab4 (bk:=b.getD k 0) ?_ hy hyy;rcases hk with hk | hk
   . rw [<- Ku hk];exact hv
   . rw [ZC (by omega)] at hv ⊢
     rw [B6 hk];simpa [vl] using hv
  by_cases hB:k < b.length
  . have dB:decide ((k:Int) < (b.length:Int)) = true:=by rw [QQ];omega
    simp only [dB,XO,QS]
    rw [Ad (x:=(i:Int) + (k:Int)) (by omega) (by omega)]
    have e:((i:Int) + (k:Int)).toNat = i + k:=by omega
    simp only [e]
    rw [A4 (by simp;try omega),A4 (by simp;try omega),A4 (by simp;try omega),A4 (by simp;try omega),Ad (x:=a.getD i 0 * b.getD k 0) (by omega) (by omega),Ad (x:=o.getD (i + k) 0 + c) (by omega) (by omega),Ad (x:=o.getD (i + k) 0 + c + a.getD i 0 * b.getD k 0) (by omega) (by omega),A4 (by simp;try omega),A4 (by simp;try omega)]
    exact go _ (by omega) (.inl hB) rfl
  . have dB:decide ((k:Int) < (b.length:Int)) = false:=by rw [ZS];omega
    simp only [dB,ZD];rw [QI]
    rw [ZC (by omega)] at hv
    by_cases hc:0 < c
    . have hlt : i + k < S := by
       refine Ajp ?_
       have h5:(10000:Int) ^ (i + k) * 1 <= 10000 ^ (i + k) * c:=XK (by omega) (by have:=Ep (i + k);omega)
       simp only [vl,Qaf,Qaw] at hv;omega
      rw [QL (by omega),Ad (x:=(i:Int) + (k:Int)) (by omega) (by omega)]
      have e:((i:Int) + (k:Int)).toNat = i + k:=by omega
      simp only [e]
      rw [A4 (by simp;try omega),A4 (by simp;try omega),A4 (by simp;try omega),A4 (by simp;try omega),Ad (x:=o.getD (i + k) 0 + c) (by omega) (by omega)]
      exact go _ hlt (.inr (by omega)) (by rw [B6 (l:=b) (by omega)];omega)
    . rw [QK (by omega)]
      obtain rfl:c = 0:=by omega
      exact ⟨o,hlo,ho,by simpa [vl] using hv,rfl⟩

theorem Ant {a b:List Int} (ha:Lm a) (hb:Lm b) {i S:Nat} (hS:i + b.length <= S):vl (a.take i) * vl b < 10000 ^ S:=by
 have h1:=Ge (ha.take i);have h2:=Ge hb;have h3:=Ay (ha.take i);have h4:=Ay hb
 have h5:(10000:Int) ^ (a.take i).length <= 10000 ^ i:=Vh (by simp;omega)
 have h6:=Ep i;have h7:=Ep b.length
 have h8:vl (a.take i) * vl b <= vl (a.take i) * 10000 ^ b.length:=XK (by omega) h3
 have h9:vl (a.take i) * 10000 ^ b.length < 10000 ^ i * 10000 ^ b.length:=Int.mul_lt_mul_of_pos_right (by omega) h7
 rw [<- Int.pow_add] at h9;have h10:(10000:Int) ^ (i + b.length) <= 10000 ^ S:=Vh hS;omega

theorem Ah0 {α:Type} {n:Nat} {a b:List Int} (ha:Lm a) (hb:Lm b) {S:Nat} (hS:a.length + b.length < S) (hN:S <= 1099511627776) (hn:S + 1 <= n) {k0:List Int->Option α} :
  ∀ (m i:Nat) (o:List Int),Lm o->o.length = S->i <= a.length->vl o = vl (a.take i) * vl b->a.length + 1 <= i + m ->
  ∃ o',Lm o' /\ o'.length = S /\ vl o' = vl a * vl b /\ L7 n m a b (i:Int) o k0 = k0 o'
 | 0,i,o,hlo,ho,hi,hv,hm=>by omega
 | m + 1,i,o,hlo,ho,hi,hv,hm=>by
  rw [Art];unfold A0p;dsimp only;rw [QI];by_cases hA:i < a.length
  . rw [QL (by omega)]
    have hT:vl (a.take (i + 1)) * vl b < 10000 ^ S:=Ant ha hb (by omega)
    obtain ⟨o',q1,q2,q3,q4⟩:=Anu (n:=n) ha hb i hA hS hN hT (k0:=fun c d e f=>L7 n m c d (W (e + 1)) f k0) n 0 0 o hlo ho (by omega) (by omega) (by omega) (by
     rw [hv,Az,ZR,KC];generalize (10000:Int) ^ i = P
     grind) (by omega)
    have q4:L6 n n a b (i:Int) 0 0 o _ = _:=q4
    rw [q4,Ad (by omega) (by omega)]
    exact Ah0 (n:=n) ha hb hS hN hn m (i + 1) o' q1 q2 (by omega) q3 (by omega)
  . rw [QK (by omega)]
    obtain rfl:i = a.length:=by omega
    rw [YJ] at hv;exact ⟨o,hlo,ho,hv,rfl⟩

theorem B1d {n:Nat} {a b:List Int} (ha:Lm a) (hb:Lm b) (hN:a.length + b.length <= 1099511627770) (hn:a.length + b.length + 2 <= n):f185 n a b = some (dg (vl a * vl b).toNat):=by
 unfold f185
 rw [Ad (x:=(a.length:Int) + (b.length:Int)) (by omega) (by omega),Ad (x:=(a.length:Int) + (b.length:Int) + 1) (by omega) (by omega),A4 (by simp;try omega)]
 have e:((a.length:Int) + (b.length:Int) + 1).toNat = a.length + b.length + 1:=by omega
 rw [e]
 obtain ⟨o,q1,q2,q3,q4⟩:=Ah0 (n:=n) ha hb (S:=a.length + b.length + 1) (by omega) (by omega) (by omega) (k0:=fun c=>ob (f218 n c) fun d=>some d) n 0 (List.replicate (a.length + b.length + 1) 0) (Lm.rep _) (by simp) (by omega) (by rw [T4];simp [vl]) (by omega)
 have q4:L7 n n a b 0 _ _ = _:=q4
 rw [q4,Wj q1 (by omega) (by omega),A2,q3]

theorem Anv {α:Type} {n:Nat} {a b:List Int} (ha:Lm a) (hb:Lm b) (i:Nat) (hi:i < a.length) {S:Nat} (hS:a.length + b.length <= S) (hN:S <= 1099511627776) {T:Int} (hT:T < 10000 ^ S) (q1:List Int) (q2 q3:Int) {k0:List Int->List Int->Int->Int->List Int->Option α} :
  ∀ (m k:Nat) (c:Int) (o:List Int),Lm o->o.length = S->0 <= c->c < 10000->i + k <= S->vl o + 10000 ^ (i + k) * (c + a.getD i 0 * vl (b.drop k)) = T->S + 1 <= i + k + m ->
  ∃ o',Lm o' /\ o'.length = S /\ vl o' = T /\ L3 n m b (i:Int) (a.getD i 0) c (k:Int) q1 q2 q3 o k0 = k0 b q1 q2 q3 o'
 | 0,k,c,o,hlo,ho,hc0,hc1,hik,hv,hm=>by omega
 | m + 1,k,c,o,hlo,ho,hc0,hc1,hik,hv,hm=>by
  rw [Aqu];unfold Zx;dsimp only;have h1:=ha.get i;have h2:=hb.get k;have h3:=hlo.get (i + k);have h4:=Yl h1 h2;have hvo:=Ay hlo
  have go:∀ y:Int,i + k < S->(k < b.length \/ b.length <= k)->y = o.getD (i + k) 0 + c + a.getD i 0 * b.getD k 0 ->
    ∃ o',Lm o' /\ o'.length = S /\ vl o' = T /\ L3 n m b (i:Int) (a.getD i 0) (W (Int.tdiv y 10000)) (W ((k:Int) + 1)) q1 q2 q3 (o.set (i + k) (Int.tmod y 10000)) k0 = k0 b q1 q2 q3 o':=by
   intro y hlt hk hy
   rw [tdv (by omega),tmd (by omega),Ad (by omega) (by omega),Ad (by omega) (by omega)]
   refine Anv (n:=n) ha hb i hi hS hN hT q1 q2 q3 m (k + 1) _ _ (hlo.set _ (by omega)) (by simpa using ho) (by omega) (by omega) (by omega) ?_ (by omega)
   rw [Jd _ (by omega),show i + (k + 1) = (i + k) + 1 by omega,Bk]
   have hyy:y = 10000 * (y / 10000) + y % 10000:=by omega
   refine Ab4 (bk:=b.getD k 0) ?_ hy hyy;rcases hk with hk | hk
   . rw [<- Ku hk];exact hv
   . rw [ZC (by omega)] at hv ⊢
     rw [B6 hk];simpa [vl] using hv
  by_cases hB:k < b.length
  . have dB:decide ((k:Int) < (b.length:Int)) = true:=by rw [QQ];omega
    simp only [dB,XO,QS]
    rw [Ad (x:=(i:Int) + (k:Int)) (by omega) (by omega)]
    have e:((i:Int) + (k:Int)).toNat = i + k:=by omega
    simp only [e]
    rw [A4 (by simp;try omega),Ad (x:=a.getD i 0 * b.getD k 0) (by omega) (by omega),Ad (x:=c + a.getD i 0 * b.getD k 0) (by omega) (by omega),A4 (by simp;try omega),A4 (by simp;try omega),A4 (by simp;try omega),A4 (by simp;try omega),Ad (x:=c + a.getD i 0 * b.getD k 0 + o.getD (i + k) 0) (by omega) (by omega)]
    exact go _ (by omega) (.inl hB) (by omega)
  . have dB:decide ((k:Int) < (b.length:Int)) = false:=by rw [ZS];omega
    simp only [dB,ZD];rw [QI]
    rw [ZC (by omega)] at hv
    by_cases hc:0 < c
    . have hlt : i + k < S := by
       refine Ajp ?_
       have h5:(10000:Int) ^ (i + k) * 1 <= 10000 ^ (i + k) * c:=XK (by omega) (by have:=Ep (i + k);omega)
       simp only [vl,Qaf,Qaw] at hv;omega
      rw [QL (by omega),Ad (x:=(i:Int) + (k:Int)) (by omega) (by omega)]
      have e:((i:Int) + (k:Int)).toNat = i + k:=by omega
      simp only [e]
      rw [A4 (by simp;try omega),A4 (by simp;try omega),A4 (by simp;try omega),A4 (by simp;try omega),Ad (x:=c + o.getD (i + k) 0) (by omega) (by omega)]
      exact go _ hlt (.inr (by omega)) (by rw [B6 (l:=b) (by omega)];omega)
    . rw [QK (by omega)]
      obtain rfl:c = 0:=by omega
      exact ⟨o,hlo,ho,by simpa [vl] using hv,rfl⟩

theorem Ah1 {α:Type} {n:Nat} {a b:List Int} (ha:Lm a) (hb:Lm b) {S:Nat} (hS:a.length + b.length <= S) (hN:S <= 1099511627776) (hn:S + 1 <= n) {k0:List Int->Option α} :
  ∀ (m i:Nat) (o:List Int),Lm o->o.length = S->i <= a.length->vl o = vl (a.take i) * vl b->a.length + 1 <= i + m ->
  ∃ o',Lm o' /\ o'.length = S /\ vl o' = vl a * vl b /\ L4 n m b a (a.length:Int) (i:Int) o k0 = k0 o'
 | 0,i,o,hlo,ho,hi,hv,hm=>by omega
 | m + 1,i,o,hlo,ho,hi,hv,hm=>by
  rw [Aqw];unfold A00;dsimp only;rw [QI];by_cases hA:i < a.length
  . rw [QL (by omega),A4 (by simp;try omega)]
    simp only [QS]
    have hT:vl (a.take (i + 1)) * vl b < 10000 ^ S:=Ant ha hb (by omega)
    obtain ⟨o',q1,q2,q3,q4⟩:=Anv (n:=n) ha hb i hA hS hN hT a (a.length:Int) (i:Int) (k0:=fun c d e f g=>L4 n m c d e (W (f + 1)) g k0) n 0 0 o hlo ho (by omega) (by omega) (by omega) (by
     rw [hv,Az,ZR,KC];generalize (10000:Int) ^ i = P
     grind) (by omega)
    have q4:L3 n n b (i:Int) (a.getD i 0) 0 0 a (a.length:Int) (i:Int) o _ = _:=q4
    rw [q4,Ad (by omega) (by omega)]
    exact Ah1 (n:=n) ha hb hS hN hn m (i + 1) o' q1 q2 (by omega) q3 (by omega)
  . rw [QK (by omega)]
    obtain rfl:i = a.length:=by omega
    rw [YJ] at hv;exact ⟨o,hlo,ho,hv,rfl⟩

theorem B0p {n:Nat} {a b:List Int} (ha:Lm a) (hb:Lm b) (hN:a.length + b.length <= 1099511627770) (hn:a.length + b.length + 2 <= n):f200 n a b = some (dg (vl a * vl b).toNat):=by
 unfold f200
 rw [Ad (x:=(a.length:Int) + (b.length:Int)) (by omega) (by omega),A4 (by simp;try omega)]
 have e:((a.length:Int) + (b.length:Int)).toNat = a.length + b.length:=by omega
 rw [e]
 obtain ⟨o,q1,q2,q3,q4⟩:=Ah1 (n:=n) ha hb (S:=a.length + b.length) (by omega) (by omega) (by omega) (k0:=fun c=>ob (f225 n c) fun d=>some d) n 0 (List.replicate (a.length + b.length) 0) (Lm.rep _) (by simp) (by omega) (by rw [T4];simp [vl]) (by omega)
 have q4:L4 n n b a (a.length:Int) 0 _ _ = _:=q4
 rw [q4,Oc q1 (by omega) (by omega),A2,q3]

theorem pwc (k:Nat):((10000 ^ k:Nat):Int) = (10000:Int) ^ k:=by rw [Int.natCast_pow];rfl

theorem B38 (Q:Nat):((10000 * Q:Nat):Int) = 10000 * (Q:Int):=by omega

theorem A29 (Q q:Nat):((10000 * Q + q:Nat):Int) = 10000 * (Q:Int) + q:=by omega

theorem A9u (Q q:Nat):((q + 10000 * Q:Nat):Int) = q + 10000 * (Q:Int):=by omega

theorem Jj {n k:Nat} (h:n < 10000 ^ k):(dg n).length <= k:=P4.2 (by rw [<- pwc];omega)

theorem A2b (n:Nat):n < 10000 ^ (dg n).length:=by
 have:=P4.1 (QY (dg n).length);rw [<- pwc] at this;omega

theorem Kx {n k:Nat} (h:(dg n).length <= k):n < 10000 ^ k:=by
 have:=P4.1 h;rw [<- pwc] at this;omega

theorem Bg (a b:Nat):(dg (a * b)).length <= (dg a).length + (dg b).length:=by
 refine Jj ?_;rw [Nat.pow_add];exact Nat.mul_lt_mul'' (A2b a) (A2b b)

theorem Ah7 (a b:Nat):(dg (a + b)).length <= max (dg a).length (dg b).length + 1:=by
 refine Jj ?_
 have h1:a < 10000 ^ max (dg a).length (dg b).length:=Kx (by omega)
 have h2:b < 10000 ^ max (dg a).length (dg b).length:=Kx (by omega)
 rw [KP];omega

theorem A4j {a:Nat} (h:a < 10000):(dg a).length <= 1:=Jj (by simpa using h)

theorem Ayv (a:Nat) (x:Nat) (h:x < 10000):(dg (x + 10000 * a)).length <= (dg a).length + 1:=by
 refine Jj ?_;have:=A2b a;rw [KP];omega

theorem A9q {n a b:Nat} (h:(dg a).length <= 1099511627776) (hn:(dg a).length < n):f188 n (dg a) (dg b) = some (cm a b):=by
 rw [B18 (Fu a) (Fu b) h hn,Bc,Bc]

theorem Kb {n a b:Nat} (h:(dg a).length + (dg b).length <= 1099511627770) (hn:(dg a).length + (dg b).length + 2 <= n):f185 n (dg a) (dg b) = some (dg (a * b)):=by
 rw [B1d (D4 a) (D4 b) h hn,Bc,Bc];congr 1

theorem B7r {n a b:Nat} (h:(dg a).length <= 1099511627776) (h':(dg b).length <= 1099511627776) (hn:max (dg a).length (dg b).length + 2 <= n):f187 n (dg a) (dg b) = some (dg (a + b)):=by
 rw [B1a (Fu a) (Fu b) h h' hn,Bc,Bc];congr 1

theorem Ajj {n a b:Nat} (h:(dg a).length <= 1099511627776) (hn:(dg a).length + 1 <= n) (hab:b <= a):f189 n (dg a) (dg b) = some (dg (a - b)):=by
 rw [B16 (Fu a) (Fu b) h hn (by rw [Bc,Bc];omega),Bc,Bc]
 congr 2;omega

theorem Kh {n a b:Nat} (h:(dg a).length + (dg b).length <= 1099511627770) (hn:(dg a).length + (dg b).length + 2 <= n):f200 n (dg a) (dg b) = some (dg (a * b)):=by
 rw [B0p (D4 a) (D4 b) h hn,Bc,Bc];congr 1

theorem A9v {n a b:Nat} (h:(dg a).length <= 1099511627776):f203 n (dg a) (dg b) = some (cm a b):=by
 rw [B0j (Fu a) (Fu b) h,Bc,Bc]

theorem Aey {α:Type} {n B R:Nat} (hBl:(dg B).length <= 1099511627700) (hn:(dg B).length + 20 <= n) (b:List Int) (c:Int) (d:List Int) {k0:List Int->List Int->List Int->Int->Int->List Int->Option α} :
  ∀ (m lo hi:Nat),lo < hi->hi <= 10000->lo * B <= R->R < hi * B->hi <= lo + m ->
  M1 n m b (dg B) (dg R) c (lo:Int) (hi:Int) d k0 = k0 b (dg B) (dg R) c ((R / B:Nat):Int) d
 | 0,lo,hi,h1,h2,h3,h4,h5=>by omega
 | m + 1,lo,hi,h1,h2,h3,h4,h5=>by
  rw [Al9];unfold Uj;dsimp only
  rw [Ad (x:=(hi:Int) - (lo:Int)) (by omega) (by omega),Ad (x:=(lo:Int) + (hi:Int)) (by omega) (by omega)]
  have e:Int.tdiv ((lo:Int) + (hi:Int)) 2 = (((lo + hi) / 2:Nat):Int):=by
   rw [KJ (by omega)];omega
  rw [e,Ad (x:=(((lo + hi) / 2:Nat):Int)) (by omega) (by omega)]
  generalize hmid:(lo + hi) / 2 = mid;by_cases hc:lo + 1 < hi
  . rw [QI,QL (by omega),Wt (by omega) (by omega),A2]
    have hl:=A4j (a:=mid) (by omega)
    have hm:=Bg B mid
    rw [Kb (by omega) (by omega),A2,A9q (by omega) (by omega),A2,QI]
    by_cases hle:B * mid <= R
    . have : cm ((B * mid : Nat) : Int) (R : Int) <= 0 := by
       rcases KW hle with h | h
       . rw [Hv (by omega)];omega
       . rw [Ja (by omega)];omega
      rw [QL this]
      exact Aey hBl hn b c d m mid hi (by omega) h2 (by rw [KV];exact hle) h4 (by omega)
    . have : ¬ cm ((B * mid : Nat) : Int) (R : Int) <= 0 := by
       rw [Hw (by omega)];omega
      rw [QK this]
      exact Aey hBl hn b c d m lo mid (by omega) (by omega) h3 (by rw [KV];omega) (by omega)
  . rw [QI,QK (by omega)]
    obtain rfl:hi = lo + 1:=by omega
    have:R / B = lo:=by
     rw [Nat.div_eq_iff (XY (by rintro rfl;simp at h4))]
     rw [YK] at h4;omega
    rw [this]

theorem Ael {α:Type} {n L A B:Nat} (hB:0 < B) (hA:(dg A).length <= L) (hBl:(dg B).length <= L) (hL:L <= 1099511627000) (hn:L + 10040 <= n) {k0:List Int->List Int->Option α} :
  ∀ (k m Q R:Nat) (o:List Int),k < m->k <= (dg A).length->R < B->o.length = (dg A).length->Lm o->(∀ i,i < k->o.getD i 0 = 0)->vl o = 10000 ^ k * (Q:Int)->(Q:Int) * B + R = vl ((dg A).drop k) ->
  ∃ o',Lm o' /\ o'.length = (dg A).length /\ vl o' = ((A / B:Nat):Int) /\ Oe n m (dg A) (dg B) (dg R) ((k:Int) - 1) o k0 = k0 (dg (A % B)) o'
 | _,0,_,_,_,h1,_,_,_,_,_,_,_=>by omega
 | 0,m + 1,Q,R,o,h1,h2,h3,h4,h5,h6,h7,h8=>by
  rw [A7r];unfold Qj;dsimp only
  rw [QI,QK (by omega)]
  rw [ZR,Bc] at h8
  have h8:Q * B + R = A:=by
   have:((Q * B + R:Nat):Int) = A:=by rw [JM,YF];exact h8
   omega
  have h9:A / B = Q:=by rw [<- h8,Nat.add_comm,Qao _ _ hB,JG h3,YD]
  have h10:A % B = R:=by rw [<- h8,JU,KR h3]
  exact ⟨o,h5,h4,by rw [h7,h9];simp,by rw [h10]⟩
 | k + 1,m + 1,Q,R,o,h1,h2,h3,h4,h5,h6,h7,h8=>by
  rw [A7r];unfold Qj;dsimp only
  rw [QI,QL (by omega)]
  rw [show (((k + 1:Nat):Int) - 1) = (k:Int) by omega]
  simp only [QS];have hg:=(D4 A).get k
  obtain ⟨x,hx⟩:∃ x:Nat,(dg A).getD k 0 = (x:Int):=⟨((dg A).getD k 0).toNat,by omega⟩
  have hlR:(dg R).length <= L:=ZK (Bf (by omega)) hBl
  have hlRx:=Ayv R x (by omega)
  have hRx:vl ((dg A).drop k) = (x:Int) + 10000 * ((Q:Int) * B + R):=by
   rw [Ku (by omega),hx,<- h8]
  have hR':x + 10000 * R < 10000 * B:=by omega
  rw [hx,A4 (by simp;try omega),A4 (by simp;try omega),Wj (Lm.app (Lm.cons (by omega) Lm.nil) (D4 R)) (by simp;omega) (by simp;omega),A2]
  have e1:(vl ([(x:Int)] ++ dg R)).toNat = x + 10000 * R:=by
   rw [YG,KN,vl,Bc];omega
  rw [e1,A9q (by omega) (by omega),A2,Ad (x:=(k:Int) - 1) (by omega) (by omega),QI]
  by_cases hlt:x + 10000 * R < B
  . rw [QL (by rw [Hv (by omega)];omega)]
    refine Ael hB hA hBl hL hn k m (10000 * Q) (x + 10000 * R) o (by omega) (by omega) hlt h4 h5 (fun i hi=>h6 i (by omega)) ?_ ?_
    . rw [h7,Bk,B38];grind
    . rw [hRx,B38,A9u];grind
  . rw [QK (by
     rcases KW (Nat.le_of_not_lt hlt) with h | h
     . rw [Hw (by omega)];omega
     . rw [Ja (by omega)];omega)]
    have hbis := Aey (n := n) (B := B) (R := x + 10000 * R) (by omega) (by omega) (dg A) (k : Int) o (k0 := fun e c f a d b => (
            gd (decide (0 <= a) && decide (a < (b.length:Int))) (
             gd (decide (a.toNat < b.length)) (
              ob (f181 n d) fun g =>
              ob (f185 n c g) fun j =>
              ob (f189 n f j) fun l =>
              Oe n m e c l (W (a - 1)) (b.set a.toNat d) k0)))) n 0 10000 (by omega) (by omega) (by omega) hR' (by omega)
    have hbis:M1 n n (dg A) (dg B) (dg (x + 10000 * R)) (k:Int) 0 10000 o _ = _:=hbis;rw [hbis];simp only [QS]
    have hq:(x + 10000 * R) / B < 10000:=by
     rw [KZ hB];omega
    have hqr:=Qac (x + 10000 * R) B;have hqm:=KM (x + 10000 * R) hB;generalize hqq:(x + 10000 * R) / B = q at *;generalize hrr:(x + 10000 * R) % B = r at *;have hl1:=A4j hq;have hl2:=Bg B q
    rw [A4 (by simp;try omega),A4 (by simp;try omega),Wt (by omega) (by omega),A2,Kb (by omega) (by omega),A2,Ajj (by omega) (by omega) (by omega),A2,Ad (x:=(k:Int) - 1) (by omega) (by omega),show x + 10000 * R - B * q = r by omega]
    refine Ael hB hA hBl hL hn k m (10000 * Q + q) r _ (by omega) (by omega) hqm (by simpa using h4) (h5.set _ (by omega)) (fun i hi=>?_) ?_ ?_
    . rw [QH,ZT (by omega),<- QH]
      exact h6 i (by omega)
    . rw [Jd _ (by omega),h7,h6 k (by omega),Bk,A29]
      generalize (10000:Int) ^ k = P;grind
    . rw [hRx]
      have:(B:Int) * q + r = x + 10000 * R:=by
       rw [<- A9u,<- hqr,JM,YF]
      rw [A29];grind

theorem Ajk {n L A B:Nat} (hB:0 < B) (hA:(dg A).length <= L) (hBl:(dg B).length <= L) (hL:L <= 1099511627000) (hn:L + 10040 <= n):f219 n (dg A) (dg B) = some (dg (A / B),dg (A % B)):=by
 unfold f219
 rw [A4 (by simp;try omega),Ad (x:=((dg A).length:Int) - 1) (by omega) (by omega)]
 simp only [QS]
 obtain ⟨o, h1, h2, h3, h4⟩ := Ael (n := n) hB hA hBl hL hn (k0 := fun a b => (
       ob (f218 n b) fun c =>
       some (c,a))) (dg A).length n 0 0 (List.replicate (dg A).length 0) (by omega) (QY _) hB (by simp) (Lm.rep _) (fun i hi=>by simp [QH,XS,hi]) (by rw [T4];simp) (by simp [vl])
 rw [C4] at h4
 rw [h4,Wj h1 (by omega) (by omega),A2,h3]
 rfl

theorem Abi {a b:Nat} (hb:0 < b) (hr:0 < a % b) {j:Nat} (h:b < 2 ^ (j + 1)):b % (a % b) < 2 ^ j:=by
 have h1:=KM a hb;have h2:=KM b hr;have h3:=Qac b (a % b);generalize a % b = r at *
 have h4:1 <= b / r:=by rw [Nat.le_div_iff_mul_le hr];omega
 have h5:r * 1 <= r * (b / r):=YS r h4;rw [KP] at h;omega

theorem B3l {α:Type} {n L:Nat} (hL:L <= 1099511627000) (hn:L + 10040 <= n) {k0:List Int->Option α} :
  ∀ (j m a b:Nat),b < 2 ^ j->2 * j + 1 <= m->(dg a).length <= L->(dg b).length <= L->Ip n m (dg a) (dg b) k0 = k0 (dg (Nat.gcd b a)):=by
 have stop:∀ (m a:Nat),0 < m->Ip n m (dg a) (dg 0) k0 = k0 (dg (Nat.gcd 0 a)):=fun m a hm=>by
  obtain ⟨m,rfl⟩:∃ m',m = m' + 1:=⟨m - 1,by omega⟩
  rw [A7u,Qak,C4];rfl
 have step:∀ (m a b:Nat),0 < b->(dg a).length <= L->(dg b).length <= L->Ip n (m + 1) (dg a) (dg b) k0 = Ip n m (dg b) (dg (a % b)) k0:=fun m a b hb ha hbl=>by
  rw [A7u];unfold Zh
  have:0 < (dg b).length:=by rw [E6 (by omega)];simp
  rw [QI,QL (by omega),Ajk hb ha hbl hL hn,A2]
 intro j
 induction j with
 | zero =>
  intro m a b h1 h2 h3 h4
  obtain rfl:b = 0:=by simpa using h1
  exact stop m a (by omega)
 | succ j ih =>
  intro m a b h1 h2 h3 h4;rcases YV b with rfl | hb
  . exact stop m a (by omega)
  obtain ⟨m,rfl⟩:∃ m',m = m' + 2:=⟨m - 2,by omega⟩
  have h5:(dg (a % b)).length <= L:=ZK (Bf (Nat.le_of_lt (KM a hb))) h4;rw [step _ _ _ hb h3 h4,Nat.gcd_rec b a];rcases YV (a % b) with hr | hr
  . rw [hr];exact stop _ _ (by omega)
  have h6:(dg (b % (a % b))).length <= L:=ZK (Bf (Nat.le_of_lt (KM b hr))) h5;rw [step _ _ _ hr h4 h5,Nat.gcd_rec (a % b) b]
  exact ih m _ _ (Abi hb hr h1) (by omega) h5 h6

theorem Agv {b L:Nat} (h:b < 10000 ^ L):b < 2 ^ (14 * L):=by
 rw [Nat.pow_mul]
 exact ZQ h (Nat.pow_le_pow_left (by decide) L)

theorem Axk {n L a b:Nat} (hL:L <= 1099511627000) (hn:28 * L + 10040 <= n) (ha:(dg a).length <= L) (hb:(dg b).length <= L):f217 n (dg a) (dg b) = some (dg (Nat.gcd a b)):=by
 unfold f217
 have h1:(dg (Nat.gcd b a)).length <= L:=by
  rcases YV b with rfl | h
  . rw [Qak];exact ha
  . exact ZK (Bf (Nat.gcd_le_left a h)) hb
 rw [B3l hL (by omega) (14 * L) n a b (Agv (Kx hb)) (by omega) ha hb,A4 (by simp;try omega),Nat.gcd_comm]

theorem O1 {pre w post:List Int} {i:Nat} (h:i < w.length):(pre ++ w ++ post).getD (pre.length + i) 0 = w.getD i 0:=by
 rw [ZM,QH,QZ (by omega),Qah,QW h,<- QH]

theorem Ah2 {pre w post:List Int} {i:Nat} (h:i < w.length) (x:Int):(pre ++ w ++ post).set (pre.length + i) x = pre ++ w.set i x ++ post:=by
 rw [ZM,KB _ _ (by omega),Qah,List.set_append_left _ _ h,ZM]

theorem Atp {y:Int} (h:y < 0) (h':-1099511627776 < y):W (Int.tdiv (W (W (y - 10000) + 1)) 10000) = y / 10000:=by
 rw [Ad (x:=y - 10000) (by omega) (by omega),Ad (x:=y - 10000 + 1) (by omega) (by omega)]
 have:Int.tdiv (y - 10000 + 1) 10000 = y / 10000:=by
  rw [show y - 10000 + 1 = -(9999 - y) by omega,Int.neg_tdiv,KJ (by omega)]
  omega
 rw [this,Ad (by omega) (by omega)]

theorem Auh {o P q c wi bi v' T y d r:Int} (h:o + P * (c - q * (bi + 10000 * v')) = T) (hy:y = wi + c - q * bi) (hd:y = 10000 * d + r):o + P * (r - wi) + 10000 * P * (d - q * v') = T:=by
 grind

theorem Anl {o P c wi bi v' T y d r:Int} (h:o + P * (c + (bi + 10000 * v')) = T) (hy:y = wi + c + bi) (hd:y = 10000 * d + r):o + P * (r - wi) + 10000 * P * (d + v') = T:=by
 grind

theorem Y9 {l:List Int} (k:Nat):vl (l.drop k) = l.getD k 0 + 10000 * vl (l.drop (k + 1)):=by
 rcases XF k l.length with h | h
 . exact Ku h
 . rw [ZC h,ZC (by omega),B6 h];rfl

theorem An1 {α:Type} {n N:Nat} {b pre post:List Int} (hb:Lm b) (hbN:b.length = N) (hN:pre.length + N + 1 + post.length <= 1099511627776) {q:Int} (hq:0 <= q /\ q < 10000) {T:Int} {k0:Nat->Nat->List Int->Int->Int->Int->List Int->Option α} :
  ∀ (m i:Nat) (c:Int) (w:List Int),Lm w->w.length = N + 1->-9999 <= c->c <= 0->i <= N + 1->vl w + 10000 ^ i * (c - q * vl (b.drop i)) = T->N + 2 <= i + m ->
  ∃ w' c',Lm w' /\ w'.length = N + 1 /\ c' <= 0 /\ vl w' + 10000 ^ (N + 1) * c' = T /\ Fa n m pre.length (N + 1) b (b.length:Int) q c ((N + 1:Nat):Int) (i:Int) (pre ++ w ++ post) k0 = k0 pre.length (N + 1) b (b.length:Int) q c' (pre ++ w' ++ post)
 | 0,i,c,w,h1,h2,h3,h4,h5,h6,h7=>by omega
 | m + 1,i,c,w,h1,h2,h3,h4,h5,h6,h7=>by
  rw [Akz];unfold U8;dsimp only;by_cases hi:i < N + 1
  . rw [QI,QL (by omega)]
    simp only [QS]
    rw [A4 (by simp;try omega),A4 (by simp;try omega)]
    simp only [O1 (pre:=pre) (post:=post) (w:=w) (i:=i) (by omega)]
    have g1:=h1.get i;have g2:=hb.get i;have g3:=Yl hq g2
    have go:∀ y:Int,y = w.getD i 0 + c - q * b.getD i 0 ->
      ∃ w' c',Lm w' /\ w'.length = N + 1 /\ c' <= 0 /\ vl w' + 10000 ^ (N + 1) * c' = T /\
      (bif (decide (y < 0)) then (gd (decide (0 <= (i:Int)) && decide ((i:Int) < ((N + 1:Nat):Int))) (
        gd (decide ((pre.length + i) < (pre ++ w ++ post).length)) (
         Fa n m pre.length (N + 1) b (b.length:Int) q (W (Int.tdiv (W ((W (y - 10000)) + 1)) 10000)) ((N + 1:Nat):Int) (W ((i:Int) + 1)) ((pre ++ w ++ post).set (pre.length + i) (W (y - (W ((W (Int.tdiv (W ((W (y - 10000)) + 1)) 10000)) * 10000))))) k0)))
       else (gd (decide (0 <= (i:Int)) && decide ((i:Int) < ((N + 1:Nat):Int))) (
        gd (decide ((pre.length + i) < (pre ++ w ++ post).length)) (
         Fa n m pre.length (N + 1) b (b.length:Int) q 0 ((N + 1:Nat):Int) (W ((i:Int) + 1)) ((pre ++ w ++ post).set (pre.length + i) (W (y - (W (0 * 10000))))) k0)))) = k0 pre.length (N + 1) b (b.length:Int) q c' (pre ++ w' ++ post):=by
     intro y hy
     have hd:y = 10000 * (y / 10000) + y % 10000:=by omega
     have go2 : ∀ d : Int, d = y / 10000 -> ∃ w' c', Lm w' /\ w'.length = N + 1 /\ c' <= 0 /\ vl w' + 10000 ^ (N + 1) * c' = T /\ (gd (decide (0 <= (i : Int)) && decide ((i : Int) < ((N + 1 : Nat) : Int))) (
           gd (decide ((pre.length + i) < (pre ++ w ++ post).length)) (
            Fa n m pre.length (N + 1) b (b.length:Int) q d ((N + 1:Nat):Int) (W ((i:Int) + 1)) ((pre ++ w ++ post).set (pre.length + i) (W (y - (W (d * 10000))))) k0))) = k0 pre.length (N + 1) b (b.length:Int) q c' (pre ++ w' ++ post):=by
      intro d hdd
      rw [A4 (by simp;try omega),A4 (by simp;try omega),Ah2 (by omega),Ad (x:=d * 10000) (by omega) (by omega),Ad (x:=y - d * 10000) (by omega) (by omega),Ad (x:=(i:Int) + 1) (by omega) (by omega)]
      refine An1 (n:=n) hb hbN hN hq m (i + 1) d _ (h1.set _ (by omega)) (by simpa using h2) (by omega) (by omega) (by omega) ?_ (by omega)
      rw [Jd _ (by omega),Bk]
      refine Auh (bi:=b.getD i 0) ?_ hy (by omega)
      rw [<- Y9];exact h6
     rw [QI];by_cases hneg:y < 0
     . rw [QL hneg]
       simp only [Atp hneg (by omega)]
       exact go2 _ rfl
     . rw [QK hneg]
       exact go2 0 (by omega)
    by_cases hB:i < b.length
    . have dB:decide ((i:Int) < (b.length:Int)) = true:=by rw [QQ];omega
      simp only [dB,XO]
      rw [A4 (by simp;try omega)]
      simp only [Ad (x:=q * b.getD i 0) (by omega) (by omega),Ad (x:=w.getD i 0 + c) (by omega) (by omega),Ad (x:=w.getD i 0 + c - q * b.getD i 0) (by omega) (by omega)]
      exact go _ rfl
    . have dB:decide ((i:Int) < (b.length:Int)) = false:=by rw [ZS];omega
      simp only [dB,ZD]
      simp only [Ad (x:=w.getD i 0 + c) (by omega) (by omega)]
      exact go _ (by rw [B6 (l:=b) (by omega)];omega)
  . rw [QI,QK (by omega)]
    obtain rfl:i = N + 1:=by omega
    rw [ZC (by omega)] at h6
    exact ⟨w,c,h1,h2,h4,by simpa [vl] using h6,rfl⟩

theorem Agw {α:Type} {n N:Nat} {b pre post:List Int} (hb:Lm b) (hbN:b.length = N) (hN:pre.length + N + 1 + post.length <= 1099511627776) {q z:Int} {T:Int} {k0:Nat->Nat->List Int->Int->Int->Int->Int->List Int->Option α} :
  ∀ (m i:Nat) (c:Int) (w:List Int),Lm w->w.length = N + 1->0 <= c->c <= 1->i <= N + 1->vl w + 10000 ^ i * (c + vl (b.drop i)) = T->N + 2 <= i + m ->
  ∃ w' c',Lm w' /\ w'.length = N + 1 /\ 0 <= c' /\ c' <= 1 /\ vl w' + 10000 ^ (N + 1) * c' = T /\ H0 n m pre.length (N + 1) b (b.length:Int) q z c ((N + 1:Nat):Int) (i:Int) (pre ++ w ++ post) k0 = k0 pre.length (N + 1) b (b.length:Int) q z c' (pre ++ w' ++ post)
 | 0,i,c,w,h1,h2,h3,h4,h5,h6,h7=>by omega
 | m + 1,i,c,w,h1,h2,h3,h4,h5,h6,h7=>by
  rw [Ag1];unfold Qa;dsimp only;by_cases hi:i < N + 1
  . rw [QI,QL (by omega)]
    simp only [QS]
    rw [A4 (by simp;try omega),A4 (by simp;try omega),O1 (by omega)]
    have g1:=h1.get i;have g2:=hb.get i
    have go : ∀ y : Int, y = w.getD i 0 + c + b.getD i 0 -> ∃ w' c', Lm w' /\ w'.length = N + 1 /\ 0 <= c' /\ c' <= 1 /\ vl w' + 10000 ^ (N + 1) * c' = T /\ (gd (decide (0 <= (i : Int)) && decide ((i : Int) < ((N + 1 : Nat) : Int))) (
            gd (decide ((pre.length + i) < (pre ++ w ++ post).length)) (
             H0 n m pre.length (N + 1) b (b.length:Int) q z (W (Int.tdiv y 10000)) ((N + 1:Nat):Int) (W ((i:Int) + 1)) ((pre ++ w ++ post).set (pre.length + i) (Int.tmod y 10000)) k0))) = k0 pre.length (N + 1) b (b.length:Int) q z c' (pre ++ w' ++ post):=by
     intro y hy
     have hd:y = 10000 * (y / 10000) + y % 10000:=by omega
     rw [A4 (by simp;try omega),A4 (by simp;try omega),Ah2 (by omega),tdv (by omega),tmd (by omega),Ad (x:=y / 10000) (by omega) (by omega),Ad (x:=(i:Int) + 1) (by omega) (by omega)]
     refine Agw (n:=n) hb hbN hN m (i + 1) _ _ (h1.set _ (by omega)) (by simpa using h2) (by omega) (by omega) (by omega) ?_ (by omega)
     rw [Jd _ (by omega),Bk]
     refine Anl (bi:=b.getD i 0) ?_ hy hd;rw [<- Y9];exact h6
    by_cases hB:i < b.length
    . have dB:decide ((i:Int) < (b.length:Int)) = true:=by rw [QQ];omega
      simp only [dB,XO]
      rw [A4 (by simp;try omega)]
      simp only [Ad (x:=w.getD i 0 + c) (by omega) (by omega),Ad (x:=w.getD i 0 + c + b.getD i 0) (by omega) (by omega)]
      exact go _ rfl
    . have dB:decide ((i:Int) < (b.length:Int)) = false:=by rw [ZS];omega
      simp only [dB,ZD]
      simp only [Ad (x:=w.getD i 0 + c) (by omega) (by omega)]
      exact go _ (by rw [B6 (l:=b) (by omega)];omega)
  . rw [QI,QK (by omega)]
    obtain rfl:i = N + 1:=by omega
    rw [ZC (by omega)] at h6
    exact ⟨w,c,h1,h2,h3,h4,by simpa [vl] using h6,rfl⟩

theorem Ax6 {P v c R qB:Int} (h1:v < P) (hP:0 < P) (h:v + P * c = R - qB) (hc:c < 0):R - qB < 0:=by
 have:P * c <= P * (-1):=XK (by omega) (by omega)
 omega

theorem Ax7 {P v c R q B:Int} (h0:v < P) (h:v + P * c = R - q * B) (hB:0 <= B) (hBP:B < P) (hR:0 <= R) (hq:q < 10000) (hq0:0 <= q):-10000 <= c:=by
 have h9:q * B <= 10000 * B:=Int.mul_le_mul_of_nonneg_right (by omega) (by omega)
 rcases Int.lt_or_le c (-10000) with h1 | h1
 . have h8:P * c <= P * (-10001):=XK (by omega) (by omega)
   exfalso;omega
 . exact h1

theorem Ax5 {v v' x x' R qB B:Int} (h:v + x = R - qB) (h':v' + x' = v + B):v' + (x + x') = R - (qB - B):=by omega

theorem Aj5 {α:Type} {n N R B:Nat} {pre post:List Int} (hB:0 < B) (hbN:(dg B).length = N) (hN:pre.length + N + 1 + post.length <= 1099511627776) (hn:N + 2 <= n) {k0:Int->List Int->Option α} :
  ∀ (m q:Nat) (c:Int) (w:List Int),Lm w->w.length = N + 1->c <= 0->vl w + 10000 ^ (N + 1) * c = (R:Int) - q * B->R / B <= q->q < 10000->q < m ->
  ∃ w',Lm w' /\ w'.length = N + 1 /\ vl w' = ((R % B:Nat):Int) /\ H2 n m pre.length (N + 1) (dg B) ((dg B).length:Int) (q:Int) c (pre ++ w ++ post) k0 = k0 ((R / B:Nat):Int) (pre ++ w' ++ post)
 | 0,q,c,w,h1,h2,h3,h4,h5,h6,h7=>by omega
 | m + 1,q,c,w,h1,h2,h3,h4,h5,h6,h7=>by
  rw [Ag3];unfold Qd;dsimp only;have hw:=Ge h1;have hw0:=Ay h1;rw [h2] at hw;rw [QI];have hP:=Ep (N + 1);have hBP:=A2b B;rw [hbN] at hBP;have hdm:=Qac R B;have hml:=KM R hB;by_cases hc:c < 0
  . rw [QL hc];have hneg:=Ax6 hw hP h4 hc
    have hlt:R / B < q:=by
     rw [KZ hB];have:((q * B:Nat):Int) = (q:Int) * B:=YF q B;omega
    have hq0:0 < q:=Nat.lt_of_le_of_lt (KD _) hlt
    have hBi:(B:Int) < 10000 ^ N:=by rw [<- pwc];omega
    have hBP':(B:Int) < 10000 ^ (N + 1):=by
     have:=Vh (show N <= N + 1 by omega)
     omega
    have hcm:=Ax7 (q:=(q:Int)) hw h4 (by omega) hBP' (by omega) (by omega) (by omega)
    rw [Ad (x:=(q:Int) - 1) (by omega) (by omega),show (q:Int) - 1 = ((q - 1:Nat):Int) by omega]
    obtain ⟨w',c',q1,q2,q3,q4,q5,q6⟩:=Agw (n:=n) (D4 B) hbN hN (q:=((q - 1:Nat):Int)) (z:=c) (T:=vl w + B) (k0:=fun a b d f g h i j=>(
     H2 n m a b d f g (W (h + i)) j k0)) n 0 0 w h1 h2 (by omega) (by omega) (by omega) (by rw [ZR,Bc,Int.pow_zero,Int.one_mul,Int.zero_add]) (by omega)
    have q6:H0 n n pre.length (N + 1) (dg B) ((dg B).length:Int) ((q - 1:Nat):Int) c 0 ((N + 1:Nat):Int) 0 (pre ++ w ++ post) _ = _:=q6;rw [q6]
    have hq1:((q - 1:Nat):Int) * B = q * B - B:=by
     rw [show ((q - 1:Nat):Int) = (q:Int) - 1 by omega,Int.sub_mul,Int.one_mul]
    have hnew:vl w' + 10000 ^ (N + 1) * (c + c') = (R:Int) - ((q - 1:Nat):Int) * B:=by
     rw [Int.mul_add,hq1];exact Ax5 h4 q5
    rw [Ad (x:=c + c') (by omega) (by omega)]
    exact Aj5 hB hbN hN hn m (q - 1) (c + c') w' q1 q2 (by omega) hnew (by omega) (by omega) (by omega)
  . rw [QK hc]
    obtain rfl:c = 0:=by omega
    rw [Qaf,Qaw] at h4
    have e:R / B = q:=by
     refine Nat.le_antisymm h5 ?_;rw [Nat.le_div_iff_mul_le hB];have:((q * B:Nat):Int) = (q:Int) * B:=YF q B;omega
    refine ⟨w,h1,h2,?_,by rw [e]⟩
    have:((B * q:Nat):Int) = (q:Int) * B:=by rw [YF,Int.mul_comm]
    rw [e] at hdm;omega

theorem B7y {P lowR lowB high top t R B:Int} (hR:R = lowR + P * high) (hB:B = lowB + P * top) (h1:lowR < P) (h2:0 <= lowB) (hP:0 < P) (ht:0 <= t) (hle:t * B <= R):t * top <= high:=by
 have h3:t * (P * top) <= t * B:=XK (by omega) ht
 have h4:P * (t * top) < P * (high + 1):=by
  rw [Int.mul_add,Int.mul_one,show P * (t * top) = t * (P * top) by grind];omega
 have:=Int.lt_of_mul_lt_mul_left h4 (by omega)
 omega

theorem Awe {n M R B:Nat} {pre w post:List Int} (hbN:(dg B).length = M + 2) (hN:pre.length + (M + 2) + 1 + post.length <= 1099511627776) (hn:M + 10010 <= n) (hw:Lm w) (hwl:w.length = M + 3) (hv:vl w = (R:Int)) (hR:R < 10000 * B) :
  ∃ w',Lm w' /\ w'.length = M + 3 /\ vl w' = ((R % B:Nat):Int) /\ A9y n (pre ++ w ++ post,pre.length,M + 3) (dg B) = some (((R / B:Nat):Int),pre ++ w' ++ post):=by
 have hB:0 < B:=by omega
 unfold A9y;dsimp only;rw [hbN]
 rw [Ad (x:=((M + 2:Nat):Int) - 1) (by omega) (by omega),Ad (x:=((M + 2:Nat):Int) - 2) (by omega) (by omega),show ((M + 2:Nat):Int) - 1 = ((M + 1:Nat):Int) by omega,show ((M + 2:Nat):Int) - 2 = (M:Int) by omega]
 simp only [QS];have hb:=D4 B;have g0:=hw.get (M + 2);have g1:=hw.get (M + 1);have g2:=hw.get M;have s:=hb.get (M + 1);have t:=hb.get M
 have bt:(dg B).getD (M + 1) 0 ≠ 0:=by
  have:=(Fu B).2 (ZY.1 (by omega))
  rw [hbN] at this;exact this
 rw [A4 (by simp;try omega),A4 (by simp;try omega),A4 (by simp;try omega),A4 (by simp;try omega),A4 (by simp;try omega),A4 (by simp;try omega),A4 (by simp;try omega),A4 (by simp;try omega)]
 simp only [O1 (pre:=pre) (post:=post) (w:=w) (i:=M + 2) (by omega),O1 (pre:=pre) (post:=post) (w:=w) (i:=M + 1) (by omega),O1 (pre:=pre) (post:=post) (w:=w) (i:=M) (by omega)]
 simp only [Ad (x:=(dg B).getD (M + 1) 0 * 10000) (by omega) (by omega),Ad (x:=(dg B).getD (M + 1) 0 * 10000 + (dg B).getD M 0) (by omega) (by omega),Ad (x:=w.getD (M + 2) 0 * 10000) (by omega) (by omega),Ad (x:=w.getD (M + 2) 0 * 10000 + w.getD (M + 1) 0) (by omega) (by omega),Ad (x:=(w.getD (M + 2) 0 * 10000 + w.getD (M + 1) 0) * 10000) (by omega) (by omega),Ad (x:=(w.getD (M + 2) 0 * 10000 + w.getD (M + 1) 0) * 10000 + w.getD M 0) (by omega) (by omega)]
 rw [A4 (by simp only [QQ];omega)]
 have vw:(R:Int) = vl (w.take M) + 10000 ^ M * ((w.getD (M + 2) 0 * 10000 + w.getD (M + 1) 0) * 10000 + w.getD M 0):=by
  have t1:=Az w (M + 2);have t2:=Az w (M + 1);have t3:=Az w M
  rw [I5 w (by omega),hv] at t1
  rw [t1,t2,t3,Bk,Bk];grind
 have vb:(B:Int) = vl ((dg B).take M) + 10000 ^ M * ((dg B).getD (M + 1) 0 * 10000 + (dg B).getD M 0):=by
  have t2:=Az (dg B) (M + 1);have t3:=Az (dg B) M
  rw [I5 (dg B) (by omega),Bc] at t2
  rw [t2,t3,Bk];grind
 have lw:=Ge (hw.take M)
 rw [YQ,JJ (by omega)] at lw
 have lb:=Ay (hb.take M);generalize hhigh:(w.getD (M + 2) 0 * 10000 + w.getD (M + 1) 0) * 10000 + w.getD M 0 = high at *;generalize htop:(dg B).getD (M + 1) 0 * 10000 + (dg B).getD M 0 = top at *
 have htop0:0 < top:=by omega
 have hh0:0 <= high /\ high < 1000000000000:=by omega
 rw [KJ (by omega)]
 have hd0:0 <= high / top:=Int.ediv_nonneg (by omega) (by omega)
 have hd1:high / top <= high:=Int.ediv_le_self _ (by omega)
 rw [Ad (x:=high / top) (by omega) (by omega)]
 obtain ⟨q,hq⟩:∃ q:Nat,min (high / top) 9999 = (q:Int):=⟨(min (high / top) 9999).toNat,by omega⟩
 have hql:q < 10000:=by omega
 have hqr:R / B <= q:=by
  have h1:(((R / B:Nat):Int)) * top <= high:=by
   refine B7y vw vb lw lb (Ep M) (Int.natCast_nonneg _) ?_;have:=Nat.div_mul_le_self R B;rw [<- YF];omega
  have h2:((R / B:Nat):Int) <= high / top:=by rw [Int.le_ediv_iff_mul_le htop0];exact h1
  have h3:R / B < 10000:=by rw [KZ hB];omega
  omega
 rw [hq]
 obtain ⟨w1, e, r1, r2, r3, r4, r5⟩ := An1 (n := n) (N := M + 2) (b := dg B) (pre := pre) (post := post) hb hbN hN (q := (q : Int)) (by omega) (T := (R : Int) - q * B) (k0 := fun f g h j k l m => (
                       H2 n n f g h j k l m
                        (fun a c=>(
                         some (a,c))))) n 0 0 w hw hwl (by omega) (by omega) (by omega) (by rw [ZR,Bc,hv,Int.pow_zero,Int.one_mul,Int.zero_sub,Int.sub_eq_add_neg]) (by omega)
 obtain ⟨w2,o,p,r,d⟩:=Aj5 (n:=n) (N:=M + 2) (R:=R) (B:=B) (pre:=pre) (post:=post) hB hbN hN (by omega) (k0:=fun a c=>(some (a,c))) n q e w1 r1 r2 r3 r4 hqr hql (by omega)
 refine ⟨w2,o,p,r,?_⟩;rw [hbN] at r5 d;have r5:Fa n n pre.length (M + 3) (dg B) ((M + 2:Nat):Int) (q:Int) 0 ((M + 3:Nat):Int) 0 (pre ++ w ++ post) _ = _:=r5;rw [r5];exact d

theorem B7m (y b:Nat):Int.tdiv (y:Int) (b:Int) = ((y / b:Nat):Int):=by
 rw [KJ (by omega),Int.natCast_ediv]

theorem B7l (y b:Nat):Int.tmod (y:Int) (b:Int) = ((y % b:Nat):Int):=by
 rw [Int.tmod_eq_emod_of_nonneg (by omega),Int.natCast_emod]

theorem Ags {o:List Int} {k i:Nat} {x:Int} (h:∀ i,i < k + 1->o.getD i 0 = 0) (hi:i < k):(o.set k x).getD i 0 = 0:=by
 rw [QH,ZT (by omega),<- QH]
 exact h i (by omega)

theorem Aak {Q B R x q r y:Nat} (hy:x + 10000 * R = y) (hqr:B * q + r = y) {V:Int} (hV:(Q:Int) * B + R = V):((10000 * Q + q:Nat):Int) * B + r = x + 10000 * V:=by
 have:(B:Int) * q + r = x + 10000 * R:=by
  rw [<- A9u,hy,<- hqr,JM,YF]
 rw [A29,<- hV];grind

theorem Ano {α:Type} {n A B:Nat} (hB:0 < B) (hB1:B < 10000) (hlA:(dg A).length <= 1099511627000) {k0:Int->List Int->Option α} :
  ∀ (k Q R:Nat) (o:List Int),k <= (dg A).length->R < B->o.length = (dg A).length->Lm o->(∀ i,i < k->o.getD i 0 = 0)->vl o = 10000 ^ k * (Q:Int)->(Q:Int) * B + R = vl ((dg A).drop k) ->
  ∃ o',Lm o' /\ o'.length = (dg A).length /\ vl o' = ((A / B:Nat):Int) /\ Ik n (dg A) k (dg A) [(B:Int)] (R:Int) o k0 = k0 ((A % B:Nat):Int) o'
 | 0,Q,R,o,h2,h3,h4,h5,h6,h7,h8=>by
  rw [Apu];rw [ZR,Bc] at h8
  have h8:Q * B + R = A:=by
   have:((Q * B + R:Nat):Int) = A:=by rw [JM,YF];exact h8
   omega
  have h9:A / B = Q:=by rw [<- h8,Nat.add_comm,Qao _ _ hB,JG h3,YD]
  have h10:A % B = R:=by rw [<- h8,JU,KR h3]
  exact ⟨o,h5,h4,by rw [h7,h9];simp,by rw [h10]⟩
 | k + 1,Q,R,o,h2,h3,h4,h5,h6,h7,h8=>by
  rw [Aps];unfold Z0;dsimp only;have hg:=(D4 A).get k
  obtain ⟨x,hx⟩:∃ x:Nat,(dg A).getD k 0 = (x:Int):=⟨((dg A).getD k 0).toNat,by omega⟩
  have hRx:vl ((dg A).drop k) = (x:Int) + 10000 * vl ((dg A).drop (k + 1)):=by
   rw [Ku (by omega),hx]
  simp only [QS]
  rw [A4 (by simp;try omega),A4 (by simp;omega),A4 (by simp;try omega),A4 (by simp;omega),A4 (by simp;try omega),A4 (by simp;try omega),A4 (by simp),hx]
  rw [Ad (x:=(R:Int) * 10000) (by omega) (by omega),Ad (x:=(R:Int) * 10000 + (x:Int)) (by omega) (by omega),show (R:Int) * 10000 + (x:Int) = ((x + 10000 * R:Nat):Int) by omega]
  have e0:([(B:Int)]).getD 0 0 = (B:Int):=rfl;rw [e0,B7m,B7l]
  have hq:(x + 10000 * R) / B < 10000:=by
   rw [KZ hB];omega
  have hqr:=Qac (x + 10000 * R) B;have hqm:=KM (x + 10000 * R) hB;generalize (x + 10000 * R) / B = q at *;generalize (x + 10000 * R) % B = r at *
  rw [Ad (x:=(q:Int)) (by omega) (by omega)]
  refine Ano hB hB1 hlA k (10000 * Q + q) r _ (by omega) hqm (by simpa using h4) (h5.set _ (by omega)) (fun i hi=>Ags h6 hi) ?_ ?_
  . rw [Jd _ (by omega),h7,h6 k (by omega),Bk,A29]
    generalize (10000:Int) ^ k = P;grind
  . rw [hRx,<- h8];exact Aak rfl hqr rfl

theorem Ah5 {α:Type} {n A B M:Nat} (hM:(dg B).length = M + 2) (hla:(dg B).length <= (dg A).length) (hlA:(dg A).length <= 1099511627000) (hn:(dg A).length + 10040 <= n) {k0:List Int->List Int->Option α} :
  ∀ (k m Q R:Nat) (o u:List Int),k < m->k <= (dg A).length - (M + 1)->R < B->o.length = (dg A).length - (M + 1)->Lm o->(∀ i,i < k->o.getD i 0 = 0)->vl o = 10000 ^ k * (Q:Int) ->
  Lm u->u.length + k = (dg A).length + 1->vl u = (R:Int)->(Q:Int) * B + R = vl ((dg A).drop k) ->
  ∃ o' u',Lm o' /\ o'.length = (dg A).length - (M + 1) /\ vl o' = ((A / B:Nat):Int) /\ Lm u' /\ u'.length = (dg A).length + 1 /\ vl u' = ((A % B:Nat):Int) /\
   Qf n m ((dg B).length:Int) ((k:Int) - 1) (dg B) o ((dg A).take k ++ u) k0 = k0 o' u'
 | _,0,_,_,_,_,h1,_,_,_,_,_,_,_,_,_,_=>by omega
 | 0,m + 1,Q,R,o,u,h1,h2,h3,h4,h5,h6,h7,u1,u2,u3,h8=>by
  rw [A2z];unfold Mz;dsimp only
  rw [QI,QK (by omega)]
  rw [ZR,Bc] at h8
  have h8:Q * B + R = A:=by
   have:((Q * B + R:Nat):Int) = A:=by rw [JM,YF];exact h8
   omega
  have hB:0 < B:=by omega
  have h9:A / B = Q:=by rw [<- h8,Nat.add_comm,Qao _ _ hB,JG h3,YD]
  have h10:A % B = R:=by rw [<- h8,JU,KR h3]
  exact ⟨o,u,h5,h4,by rw [h7,h9];simp,u1,by omega,by rw [u3,h10],by simp⟩
 | k + 1,m + 1,Q,R,o,u,h1,h2,h3,h4,h5,h6,h7,u1,u2,u3,h8=>by
  rw [A2z];unfold Mz;dsimp only
  have hB:0 < B:=by omega
  rw [QI,QL (by omega)]
  rw [show (((k + 1:Nat):Int) - 1) = (k:Int) by omega]
  have hg:=(D4 A).get k
  obtain ⟨x,hx⟩:∃ x:Nat,(dg A).getD k 0 = (x:Int):=⟨((dg A).getD k 0).toNat,by omega⟩
  have hRx:vl ((dg A).drop k) = (x:Int) + 10000 * vl ((dg A).drop (k + 1)):=by
   rw [Ku (by omega),hx]
  have htk:(dg A).take (k + 1) ++ u = (dg A).take k ++ ((x:Int) :: u):=by
   rw [KK (by omega),ZM]
   congr 1
   rw [<- hx,QH,QN (by omega)]
   rfl
  have hL:Lm ((x:Int) :: u):=Lm.cons (by omega) u1
  have hv:vl ((x:Int) :: u) = ((x + 10000 * R:Nat):Int):=by rw [vl,u3,A9u]
  have hlt:x + 10000 * R < 10000 * B:=by omega
  obtain ⟨w,post,hwp,hw,hp,hwl⟩:∃ w post,(x:Int) :: u = w ++ post /\ Lm w /\ Lm post /\ w.length = M + 3 :=
   ⟨((x:Int) :: u).take (M + 3),((x:Int) :: u).drop (M + 3),(KY _ _).symm,hL.take _,hL.drop _,by rw [YQ,ZA];omega⟩
  have hlp:w.length + post.length = u.length + 1:=by
   have:=XR List.length hwp;simpa using this.symm
  have hvp:vl post = 0:=by
   have e:=hv;rw [hwp,A24,hwl] at e
   have h10:B < 10000 ^ (M + 2):=Kx (by omega)
   have h11:((x + 10000 * R:Nat):Int) < 10000 ^ (M + 3):=by
    rw [Bk,<- pwc];omega
   have h12:=Ay hw;have h13:=Ay hp;rcases Int.lt_or_eq_of_le h13 with h | h
   . exfalso
     have h14:(10000:Int) ^ (M + 3) * 1 <= 10000 ^ (M + 3) * vl post:=XK (by omega) (by have:=Ep (M + 3);omega)
     generalize (10000:Int) ^ (M + 3) * vl post = z at *;generalize (10000:Int) ^ (M + 3) = P at *;omega
   . exact h.symm
  have hvw:vl w = ((x + 10000 * R:Nat):Int):=by
   rw [<- hv,hwp,A24,hvp];simp
  rw [htk,hwp,<- ZM]
  have hpl:((dg A).take k).length = k:=by rw [YQ];omega
  obtain ⟨w',q1,q2,q3,q4⟩:=Awe (n:=n) (pre:=(dg A).take k) (post:=post) hM (by omega) (by omega) hw hwl hvw hlt
  rw [hpl] at q4
  rw [Ad (x:=(k:Int) + ((dg B).length:Int)) (by omega) (by omega),Ad (x:=(k:Int) + ((dg B).length:Int) + 1) (by omega) (by omega)]
  rw [A4 (by simp only [QE,QQ,XH,hpl];omega)]
  rw [show ((k:Int) + ((dg B).length:Int) + 1).toNat - (k:Int).toNat = M + 3 by omega]
  simp only [QS];rw [q4,A2];dsimp only;have hqm:=KM (x + 10000 * R) hB;have hqr:=Qac (x + 10000 * R) B
  have hq:(x + 10000 * R) / B < 10000:=by
   rw [KZ hB];omega
  generalize (x + 10000 * R) / B = q at *;generalize (x + 10000 * R) % B = r at *
  rw [A4 (by simp [hwl,q2]),A4 (by simp;try omega),A4 (by simp;try omega),Ad (x:=(k:Int) - 1) (by omega) (by omega),ZM]
  refine Ah5 hM hla hlA hn k m (10000 * Q + q) r _ _ (by omega) (by omega) hqm (by simpa using h4) (h5.set _ (by omega)) (fun i hi=>Ags h6 hi) ?_ (q1.app hp) ?_ ?_ ?_
  . rw [Jd _ (by omega),h7,h6 k (by omega),Bk,A29]
    generalize (10000:Int) ^ k = P;grind
  . rw [XH];omega
  . rw [A24,hvp,q3];simp
  . rw [hRx,<- h8];exact Aak rfl hqr rfl

theorem Is (n:Nat) {l:List Int} (h:l.length <= 17592186044416):f117 n l = some l:=by
 unfold f117
 cases l with
 | nil=>rfl
 | cons x r =>
  unfold Amc
  rw [XE,QK (by simp),A4 (by rfl),A4 (by simp only [QQ];simp only [ZA] at *;omega)]

theorem Ae7 (n:Nat) {l:List Int} (h:l.length <= 17592186044416) (h0:l ≠ []):Kl n l = some l:=by
 unfold Kl
 cases l with
 | nil=>exact absurd rfl h0
 | cons x r=>rw [A4 (by rfl),A4 (by simp only [QQ];simp only [ZA] at *;omega)]

theorem Ak2 {n L A B:Nat} (hB:0 < B) (hA:(dg A).length <= L) (hBl:(dg B).length <= L) (hL:L <= 1099511627000) (hn:L + 10040 <= n):f227 n (dg A) (dg B) = some (dg (A / B),dg (A % B)):=by
 unfold f227
 rw [A9v (by omega),A2,QI]
 by_cases hlt:A < B
 . rw [QL (by rw [Hv (by omega)];omega),Is n (by omega),A2,JG hlt,KR hlt,C4]
 . rw [QK (by
    rcases KW (Nat.le_of_not_lt hlt) with h | h
    . rw [Hw (by omega)];omega
    . rw [Ja (by omega)];omega)]
   have hmn:(dg B).length <= (dg A).length:=Bf (by omega)
   have hb0:0 < (dg B).length:=by rw [E6 (by omega)];simp
   rw [XE];by_cases h1:(dg B).length = 1
   . rw [QL (by simp [h1])]
     have hB1:B < 10000:=by have:=Kx (n:=B) (k:=1) (by omega);simpa using this
     have hBd:dg B = [(B:Int)]:=by
      rw [E6 (by omega),KR hB1,JG hB1,C4]
     rw [A4 (by simp;try omega),show f228 n (dg A) = some (dg A) from rfl,A2,Apt,A4 (by simp;try omega),hBd]
     simp only [QS]
     obtain ⟨o, q1, q2, q3, q4⟩ := Ano (n := n) (A := A) hB hB1 (by omega) (k0 := fun a b => (
           ob (f225 n b) fun c =>
           ob (f179 n a) fun d =>
           some (c,d))) (dg A).length 0 0 (List.replicate (dg A).length 0) (QY _) hB (by simp) (Lm.rep _) (fun i hi=>by simp [QH,XS,hi]) (by rw [T4];simp) (by simp [vl])
     have q4:Ik n (dg A) (dg A).length (dg A) [(B:Int)] 0 _ _ = _:=q4;have hm:=KM A hB
     rw [q4,Oc q1 (by omega) (by omega),A2,A5x (by omega) (by omega),A2,q3]
     rfl
   . rw [QK (by simp;omega)]
     obtain ⟨M,hM⟩:∃ M,(dg B).length = M + 2:=⟨(dg B).length - 2,by omega⟩
     rw [Ae7 n (by omega) (ZY.1 (by omega)),A2,A4 (by simp;try omega)]
     rw [Ad (x:=((dg A).length:Int) - ((dg B).length:Int)) (by omega) (by omega),Ad (x:=((dg A).length:Int) - ((dg B).length:Int) + 1) (by omega) (by omega),A4 (by simp;try omega)]
     rw [show (((dg A).length:Int) - ((dg B).length:Int) + 1).toNat = (dg A).length - (M + 1) by omega]
     have hR0:=Ay ((D4 A).drop ((dg A).length - (M + 1)));obtain ⟨R,hR⟩:∃ R:Nat,vl ((dg A).drop ((dg A).length - (M + 1))) = (R:Int):=⟨_,(Int.toNat_of_nonneg hR0).symm⟩
     have hRB:R < B:=by
      have:=Ge ((D4 A).drop ((dg A).length - (M + 1)))
      rw [List.length_drop,show (dg A).length - ((dg A).length - (M + 1)) = M + 1 by omega,hR] at this
      have h2:=(Fu B).ge (ZY.1 (by omega))
      rw [hM,Bc] at h2;have h2:(10000:Int) ^ (M + 1) <= B:=h2;generalize (10000:Int) ^ (M + 1) = P at *;omega
     obtain ⟨o, u, q1, q2, q3, q4, q5, q6, q7⟩ := Ah5 (n := n) (A := A) (B := B) hM hmn (by omega) (by omega) (k0 := fun e f => (
             ob (f225 n e) fun g =>
             ob (f225 n f) fun j =>
             some (g,j))) ((dg A).length - (M + 1)) n 0 R (List.replicate ((dg A).length - (M + 1)) 0) ((dg A).drop ((dg A).length - (M + 1)) ++ [0]) (by omega) (QY _) hRB (by simp) (Lm.rep _) (fun i hi=>by simp [QH,XS,hi]) (by rw [T4];simp) (((D4 A).drop _).app (Lm.cons (by omega) Lm.nil)) (by simp;omega) (by rw [Nu,hR];simp) (by rw [hR];simp)
     rw [<- ZM,KY] at q7
     rw [show ((dg A).length:Int) - ((dg B).length:Int) = (((dg A).length - (M + 1):Nat):Int) - 1 by omega,q7,Oc q1 (by omega) (by omega),A2,Oc q4 (by omega) (by omega),A2,q3,q6]
     rfl

theorem B3k {α:Type} {n L:Nat} (hL:L <= 1099511627000) (hn:L + 10040 <= n) {k0:List Int->Option α} :
  ∀ (j m a b:Nat),b < 2 ^ j->2 * j + 1 <= m->(dg a).length <= L->(dg b).length <= L->Im n m (dg a) (dg b) k0 = k0 (dg (Nat.gcd b a)):=by
 have stop:∀ (m a:Nat),0 < m->Im n m (dg a) (dg 0) k0 = k0 (dg (Nat.gcd 0 a)):=fun m a hm=>by
  obtain ⟨m,rfl⟩:∃ m',m = m' + 1:=⟨m - 1,by omega⟩
  rw [A7p,Qak,C4];rfl
 have step:∀ (m a b:Nat),0 < b->(dg a).length <= L->(dg b).length <= L->Im n (m + 1) (dg a) (dg b) k0 = Im n m (dg b) (dg (a % b)) k0:=fun m a b hb ha hbl=>by
  rw [A7p];unfold Z3
  have:0 < (dg b).length:=by rw [E6 (by omega)];simp
  rw [QI,QL (by omega),Ak2 hb ha hbl hL hn,A2]
 intro j
 induction j with
 | zero =>
  intro m a b h1 h2 h3 h4
  obtain rfl:b = 0:=by simpa using h1
  exact stop m a (by omega)
 | succ j ih =>
  intro m a b h1 h2 h3 h4;rcases YV b with rfl | hb
  . exact stop m a (by omega)
  obtain ⟨m,rfl⟩:∃ m',m = m' + 2:=⟨m - 2,by omega⟩
  have h5:(dg (a % b)).length <= L:=ZK (Bf (Nat.le_of_lt (KM a hb))) h4;rw [step _ _ _ hb h3 h4,Nat.gcd_rec b a];rcases YV (a % b) with hr | hr
  . rw [hr];exact stop _ _ (by omega)
  have h6:(dg (b % (a % b))).length <= L:=ZK (Bf (Nat.le_of_lt (KM b hr))) h5;rw [step _ _ _ hr h4 h5,Nat.gcd_rec (a % b) b]
  exact ih m _ _ (Abi hb hr h1) (by omega) h5 h6

theorem Axx {n L a b:Nat} (hL:L <= 1099511627000) (hn:28 * L + 10040 <= n) (ha:(dg a).length <= L) (hb:(dg b).length <= L):f226 n (dg a) (dg b) = some (dg (Nat.gcd a b)):=by
 unfold f226
 rw [B3k hL (by omega) (14 * L) n a b (Agv (Kx hb)) (by omega) ha hb,Nat.gcd_comm]

abbrev Rt:=Bool × List Int × List Int

abbrev Mq:Rt:=(false,[],[])

def Sm (x:Rt):Prop:=x.2.1.length <= 1048576 /\ x.2.2.length <= 1048576

def Bd (x:Rt):Prop:=x.2.1.length <= 9223372036854775807 /\ x.2.2.length <= 9223372036854775807

theorem Aip {n:Nat} {l:List Int} {B:Int} (hB:0 <= B /\ B <= 1048576) (hl:l.length <= 9223372036854775807):f137 n l B = some (if (l.length:Int) <= B then B - l.length else -1):=by
 unfold f137
 rw [Ad (x:=B - (l.length:Int)) (by omega) (by omega),QI]
 by_cases h:(l.length:Int) <= B
 . rw [QK (by omega),QL h]
 . rw [QL (by omega),QK h]

theorem B41 {n:Nat} {x:Rt} {B:Int} (hB:0 <= B /\ B <= 1048576) (hx:Bd x):∃ r,f81 n x B = some r /\ (r = -1 \/ (0 <= r /\ r <= B /\ Sm x)):=by
 unfold f81;rw [Aip hB hx.1,A2];by_cases h:(x.2.1.length:Int) <= B
 . rw [QL h,QI,QK (by omega),Aip (by omega) hx.2,A2]
   by_cases h':(x.2.2.length:Int) <= B - x.2.1.length
   . rw [QL h',QI,QK (by omega)]
     exact ⟨_,rfl,.inr ⟨by omega,by omega,by unfold Sm;omega⟩⟩
   . rw [QK h',QI,QL (by omega)]
     exact ⟨_,rfl,.inl rfl⟩
 . rw [QK h,QI,QL (by omega)]
   exact ⟨_,rfl,.inl rfl⟩

theorem Acl {n:Nat} {l:List Rt} (hl:l.length <= 1048576) (hb:∀ x ∈ l,Bd x):∀ (m i:Nat) (B:Int),0 <= B /\ B <= 1048576->i <= l.length->l.length < i + m ->
  ∃ r,A2w n m l B (i:Int) (fun z=>some z) (fun z=>some z) = some r /\ (r = -1 \/ (0 <= r /\ r <= B /\ ∀ x ∈ l.drop i,Sm x))
 | 0,i,B,hB,hi,hm=>by omega
 | m + 1,i,B,hB,hi,hm=>by
  rw [Awa];unfold A5n;dsimp only;rw [QI];by_cases h:i < l.length
  . rw [QL (by omega),A4 (by simp;try omega)]
    simp only [QS]
    have hd:l.drop i = l.getD i Mq :: l.drop (i + 1):=by
     rw [XN h,QH,QN h];rfl
    have hmem:l.getD i Mq ∈ l:=Qas (i:=i) (by rw [hd];simp)
    obtain ⟨r,h1,h2⟩:=B41 (n:=n) hB (hb _ hmem);rw [h1,A2];rcases h2 with rfl | ⟨h2,h3,h4⟩
    . exact ⟨-1,rfl,.inl rfl⟩
    . rw [QI,QK (by omega),Ad (x:=(i:Int) + 1) (by omega) (by omega)]
      obtain ⟨r',q1,q2⟩:=Acl hl hb m (i + 1) r (by omega) (by omega) (by omega)
      refine ⟨r',q1,q2.imp id fun ⟨q3,q4,q5⟩=>⟨q3,by omega,fun x hx=>?_⟩⟩
      rw [hd] at hx;rcases QT.1 hx with rfl | hx
      . exact h4
      . exact q5 x hx
  . rw [QK (by omega)]
    refine ⟨_,rfl,.inr ⟨hB.1,JV _,fun x hx=>?_⟩⟩
    rw [ZC (by omega)] at hx
    cases hx

theorem B4o {n:Nat} {l:List Rt} {B:Int} (hB:0 <= B /\ B <= 1048576) (hl:l.length <= 9223372036854775807) (hb:∀ x ∈ l,Bd x) (hn:1048577 <= n):∃ r,f30 n l B = some r /\ (r = -1 \/ (0 <= r /\ r <= B /\ l.length <= 1048576 /\ ∀ x ∈ l,Sm x)):=by
 unfold f30
 rw [Ad (x:=B - (l.length:Int)) (by omega) (by omega),QI]
 by_cases h:(l.length:Int) <= B
 . rw [QK (by omega)]
   obtain ⟨r,h1,h2⟩:=Acl (n:=n) (l:=l) (by omega) hb n 0 (B - l.length) (by omega) (by omega) (by omega)
   exact ⟨r,h1,h2.imp id fun ⟨q1,q2,q3⟩=>⟨q1,by omega,by omega,by simpa using q3⟩⟩
 . rw [QL (by omega)]
   exact ⟨_,rfl,.inl rfl⟩

theorem Ru {α:Type} {l z:List α} {i:Nat} {d:α} (hi:i < l.length) (hz:z.length = l.length - i):(l.take i ++ z).set i (l.getD i d) = l.take (i + 1) ++ z.drop 1:=by
 rw [KB _ _ (by rw [YQ];omega),YQ,JJ (by omega),Nat.sub_self]
 cases z with
 | nil=>simp at hz;omega
 | cons y z=>rw [List.set_cons_zero,KK hi,QH,QN hi,ZM];rfl

theorem A8i {α:Type} {n:Nat} {l:List Int} (hl:l.length <= 1048576) {k0:List Int->Option α}:∀ (m i:Nat) (z:List Int),z.length = l.length - i->i <= l.length->l.length < i + m->Wy n m l (i:Int) (l.take i ++ z) k0 = k0 l
 | 0,i,z,hz,hi,hm=>by omega
 | m + 1,i,z,hz,hi,hm=>by
  rw [Asi];unfold A16;dsimp only;rw [QI];by_cases h:i < l.length
  . rw [QL (by omega)]
    simp only [QS]
    rw [A4 (by simp;try omega),A4 (by simp [hz];omega),A4 (by simp [hz];omega),Ru h hz,Ad (x:=(i:Int) + 1) (by omega) (by omega)]
    exact A8i hl m (i + 1) _ (by simp [hz];omega) (by omega) (by omega)
  . rw [QK (by omega)]
    obtain rfl:z = []:=XJ (by omega)
    rw [XM (by omega),XA]

theorem Aim {n:Nat} {l:List Int} (hl:l.length <= 1048576) (hn:1048577 <= n):f139 n l = some l:=by
 unfold f139
 rw [A4 (by simp;try omega)]
 have:=A8i (n:=n) hl (k0:=fun a=>some a) n 0 (List.replicate l.length 0) (by simp) (by omega) (by omega)
 simpa using this

theorem B3w {n:Nat} {x:Rt} (h:Sm x) (hn:1048577 <= n):f83 n x = some x:=by
 unfold f83;rw [Aim h.1 hn,A2,Aim h.2 hn,A2]

theorem Sm.get {l:List Rt} (h:∀ x ∈ l,Sm x) (i:Nat):Sm (l.getD i Mq):=by
 rw [QH]
 cases e:l[i]? with
 | none=>exact ⟨by simp,by simp⟩
 | some x=>exact h x (QU e)

theorem Aci {α:Type} {n:Nat} {l:List Rt} (hl:l.length <= 1048576) (hs:∀ x ∈ l,Sm x) (hn:1048577 <= n) {k0:List Rt->Option α}:∀ (m i:Nat) (z:List Rt),z.length = l.length - i->i <= l.length->l.length < i + m->A2v n m l (i:Int) (l.take i ++ z) k0 = k0 l
 | 0,i,z,hz,hi,hm=>by omega
 | m + 1,i,z,hz,hi,hm=>by
  rw [Aw8];unfold A5k;dsimp only;rw [QI];by_cases h:i < l.length
  . rw [QL (by omega)]
    simp only [QS]
    rw [A4 (by simp;try omega),B3w (Sm.get hs i) hn,A2,A4 (by simp [hz];omega),A4 (by simp [hz];omega),Ru h hz,Ad (x:=(i:Int) + 1) (by omega) (by omega)]
    exact Aci hl hs hn m (i + 1) _ (by simp [hz];omega) (by omega) (by omega)
  . rw [QK (by omega)]
    obtain rfl:z = []:=XJ (by omega)
    rw [XM (by omega),XA]

theorem B4l {n:Nat} {l:List Rt} (hl:l.length <= 1048576) (hs:∀ x ∈ l,Sm x) (hn:1048577 <= n):f32 n l = some l:=by
 unfold f32
 rw [A4 (by simp;try omega)]
 have:=Aci (n:=n) hl hs hn (k0:=fun a=>some a) n 0 (List.replicate l.length Mq) (by simp) (by omega) (by omega)
 simpa using this

theorem Abx {α:Type} {n:Nat} {l:List Int} (hl:l.length <= 1048576) {k0:Bool->Option α} {k1:Unit->Option α}:∀ (m i:Nat),i <= l.length->l.length < i + m->A2p n m l l (i:Int) k0 k1 = k1 ()
 | 0,i,hi,hm=>by omega
 | m + 1,i,hi,hm=>by
  rw [Avr];unfold A50;dsimp only;rw [QI];by_cases h:i < l.length
  . rw [QL (by omega),A4 (by simp;try omega),A4 (by simp;try omega),XV,ZD,Ad (x:=(i:Int) + 1) (by omega) (by omega)]
    exact Abx hl m (i + 1) (by omega) (by omega)
  . rw [QK (by omega)]

theorem Aou {n:Nat} {l:List Int} (hl:l.length <= 1048576) (hn:1048577 <= n):f84 n l l = some true:=by
 unfold f84;rw [XV,ZD]
 exact Abx hl n 0 (by omega) (by omega)

theorem B4k {n:Nat} {x:Rt} (h:Sm x) (hn:1048577 <= n):f33 n x x = some true:=by
 unfold f33;rw [Aou h.1 hn,Aou h.2 hn];simp

theorem Acf {α:Type} {n:Nat} {l:List Rt} (hl:l.length <= 1048576) (hs:∀ x ∈ l,Sm x) (hn:1048577 <= n) {k0:Bool->Option α} {k1:Unit->Option α}:∀ (m i:Nat),i <= l.length->l.length < i + m->A2t n m l l (i:Int) k0 k1 = k1 ()
 | 0,i,hi,hm=>by omega
 | m + 1,i,hi,hm=>by
  rw [Aw5];unfold A5h;dsimp only;rw [QI];by_cases h:i < l.length
  . rw [QL (by omega),A4 (by simp;try omega),A4 (by simp;try omega)]
    simp only [QS]
    rw [B4k (Sm.get hs i) hn,A2,Ad (x:=(i:Int) + 1) (by omega) (by omega)]
    exact Acf hl hs hn m (i + 1) (by omega) (by omega)
  . rw [QK (by omega)]

theorem Ape {n:Nat} {l:List Rt} (hl:l.length <= 1048576) (hs:∀ x ∈ l,Sm x) (hn:1048577 <= n):f35 n l l = some true:=by
 unfold f35;rw [XV,ZD]
 exact Acf hl hs hn n 0 (by omega) (by omega)

def Gp (x:Int):Bool:=decide (0 <= x /\ x <= 9999)

def So (l:List Int):Bool:=decide (l.length <= 40) && l.all Gp && (l.isEmpty || decide (0 < l.getD (l.length - 1) 0))

theorem O0 {l:List Int} (h:So l = true):Cn l /\ l.length <= 40:=by
 unfold So at h;simp only [QE,QQ,XL,QM,YI] at h;obtain ⟨⟨h1,h2⟩,h3⟩:=h;refine ⟨⟨fun x hx=>?_,fun hn=>?_⟩,h1⟩
 . have:=h2 x hx;unfold Gp at this;rw [QQ] at this;omega
 . rcases h3 with h3 | h3
   . exact absurd h3 hn
   . omega

theorem Xb {α:Type} {l:List α} {p:α->Bool} {i:Nat} (h:i < l.length) (d:α):(l.drop i).all p = (p (l.getD i d) && (l.drop (i + 1)).all p):=by
 rw [XN h,YA,QH,QN h];rfl

theorem L9 {n:Nat} {a lo hi:Int}:f174 n a lo hi = some (decide (lo <= a /\ a <= hi)):=by
 unfold f174;by_cases h:lo <= a <;> simp [h]

theorem Wr {n:Nat} {a lo hi:Int}:f184 n a lo hi = some (decide (lo <= a /\ a <= hi)):=by
 unfold f184;by_cases h:lo <= a <;> simp [h]

theorem A7v {α:Type} {n:Nat} {l:List Int} (hl:l.length <= 1048576) {k0:Bool->Option α} {k1:List Int->Option α}:∀ (m i:Nat),i <= l.length->l.length < i + m->Of n m l (i:Int) k0 k1 = if (l.drop i).all Gp = true then k1 l else k0 false
 | 0,i,hi,hm=>by omega
 | m + 1,i,hi,hm=>by
  rw [Aq6];unfold Zk;dsimp only;rw [QI];by_cases h:i < l.length
  . rw [QL (by omega),A4 (by simp;try omega)]
    simp only [QS];rw [L9,A2,Xb h 0]
    cases hp:Gp (l.getD i 0) with
    | true =>
     unfold Gp at hp
     rw [hp,Ad (x:=(i:Int) + 1) (by omega) (by omega)]
     simp only [ZX,ZD,XT]
     exact A7v hl m (i + 1) (by omega) (by omega)
    | false =>
     unfold Gp at hp;rw [hp];simp
  . rw [QK (by omega),ZC (by omega)]
    rfl

theorem Ahu {n:Nat} {l:List Int} (hn:1048577 <= n):f216 n l = some (So l):=by
 unfold f216 So;rw [QI];by_cases h:l.length <= 4096
 . rw [QK (by omega)]
   have:=A7v (n:=n) (l:=l) (by omega) (k0:=fun b=>some b) (k1:=fun a=>(
     bif (decide ((a.length:Int) <= 40)) then
      bif ((a.length:Int) == 0) then
       some true
      else
       gd (decide (0 <= (W ((a.length:Int) - 1))) && decide ((W ((a.length:Int) - 1)) < (a.length:Int))) (
        some (decide ((a.getD ((W ((a.length:Int) - 1)).toNat) 0) > 0)))
     else
      some false)) n 0 (by omega) (by omega)
   have this:Of n n l 0 _ _ = _:=this;rw [this,ZR]
   cases l.all Gp with
   | false=>simp
   | true =>
    rw [QL rfl,QI];by_cases h40:l.length <= 40
    . rw [QL (by omega)]
      cases l with
      | nil=>rfl
      | cons x r =>
       rw [XE,QK (by simp;omega),Ad (x:=((x :: r).length:Int) - 1) (by omega) (by omega),A4 (by simp;omega),show (((x :: r).length:Int) - 1).toNat = (x :: r).length - 1 by omega]
       have h41:r.length <= 39:=by simpa using h40
       simp [h41]
    . rw [QK (by omega)]
      simp [h40]
 . rw [QL (by omega),QX (by omega)]
   rfl

theorem Ss {n:Nat} {l:List Int} (hl:l.length <= 1048576):∀ (m i:Nat),i <= l.length->l.length < i + m->∃ r,G5 n m l (l.length:Int) (i:Int) (fun z=>some z) (fun (_:Unit)=>some (-1)) = some r /\ decide (r >= 0) = !(l.drop i).all Gp
 | 0,i,hi,hm=>by omega
 | m + 1,i,hi,hm=>by
  rw [A9b];unfold Lw;dsimp only;rw [QI];by_cases h:i < l.length
  . rw [QL (by omega),A4 (by simp;try omega)]
    simp only [QS]
    have e:f239 n (l.getD i 0) = some (!Gp (l.getD i 0)):=by
     unfold f239 Gp;rw [QI];generalize l.getD i 0 = x;by_cases h1:x < 0
     . rw [QL h1,QX (by omega)];rfl
     . rw [QK h1];by_cases h2:x <= 9999
       . rw [QX (by omega),ZH (by omega)];rfl
       . rw [ZH (by omega),QX (by omega)];rfl
    rw [e,A2,Xb h 0]
    cases hp:Gp (l.getD i 0) with
    | true =>
     rw [Ad (x:=(i:Int) + 1) (by omega) (by omega)]
     simp only [ZX,ZD,XT]
     exact Ss hl m (i + 1) (by omega) (by omega)
    | false =>
     exact ⟨i,rfl,by simp⟩
  . rw [QK (by omega),ZC (by omega)]
    exact ⟨-1,rfl,rfl⟩

theorem Xz {n:Nat} {l:List Int} (hl:l.length <= 1048576) (hn:1048577 <= n):Lx n l () = some (!l.all Gp):=by
 unfold Lx Yz
 obtain ⟨r,h1,h2⟩:=Ss (n:=n) hl n 0 (by omega) (by omega)
 have h1:G5 n n l (l.length:Int) 0 _ _ = _:=h1;rw [h1,A2,h2,ZR]

theorem Ahm {n:Nat} {l:List Int} (hn:1048577 <= n):f231 n l = some (So l):=by
 unfold f231 So;rw [QI];by_cases h:l.length <= 40
 . rw [QK (by omega),ZH h,XT,QI]
   cases l with
   | nil=>rw [QK (by simp),Xz (by omega) hn];rfl
   | cons x r =>
    rw [QL (by simp),Ad (x:=((x :: r).length:Int) - 1) (by omega) (by omega),A4 (by simp;omega),show (((x :: r).length:Int) - 1).toNat = (x :: r).length - 1 by omega]
    rw [Xz (by omega) hn,A2,Bool.not_not,XE]
    by_cases hz:(x :: r).getD ((x :: r).length - 1) 0 = 0
    . rw [QL (by rw [hz];rfl),hz];simp
    . rw [QK (by rw [KQ];exact hz)]
      cases ha:(x :: r).all Gp with
      | false=>rfl
      | true =>
       have:Gp ((x :: r).getD ((x :: r).length - 1) 0) = true:=by
        rw [QM] at ha;apply ha
        rw [QH,QN (by simp)]
        simp only [XP];exact JT _
       unfold Gp at this;rw [QQ] at this
       rw [ZH (by omega)]
       simp
 . rw [QL (by omega),QX h];rfl

theorem Ak0 {α:Type} (l:List α):((l.length:Int) == 0) = l.isEmpty:=by
 cases l with
 | nil=>rfl
 | cons x r=>rw [beq_eq_false_iff_ne.2 (by simp;omega)];rfl

def Gy (x:Rt):Bool:=So x.2.1 && So x.2.2 && !x.2.2.isEmpty && !(x.2.1.isEmpty && x.1) && decide (Nat.gcd (vl x.2.1).toNat (vl x.2.2).toNat = 1)

theorem Jo:dg 1 = [1]:=by rw [E6 (by omega),show 1 / 10000 = 0 from rfl,C4];rfl

theorem Aeu {g:Nat}:(cm (g:Int) ((1:Nat):Int) == 0) = decide (g = 1):=by
 unfold cm;by_cases h:g = 1
 . subst h;rfl
 . rw [QX h];by_cases h2:(g:Int) < (1:Nat)
   . rw [QL h2];rfl
   . rw [QK h2,QK (by omega)];rfl

theorem Ahc {a b:Nat} (ha:(dg a).length <= 40) (hb:(dg b).length <= 40):(dg (Nat.gcd a b)).length <= 40:=by
 rcases YV a with rfl | h
 . rw [Qak];exact hb
 . exact ZK (Bf (Nat.gcd_le_left b h)) ha

theorem B1g {n:Nat} {x:Rt} (hn:1048577 <= n):f177 n x = some (Gy x):=by
 obtain ⟨s,a,b⟩:=x;unfold f177 Gy;dsimp only;simp only [Ak0];rw [Ahu hn,A2,Ahu hn,A2]
 cases ha:So a with
 | false=>rfl
 | true =>
  cases hb:So b with
  | false=>rfl
  | true =>
   obtain ⟨ca,la⟩:=O0 ha;obtain ⟨cb,lb⟩:=O0 hb;have ea:=Gi ca;have eb:=Gi cb
   have hg:f217 n a b = some (dg (Nat.gcd (vl a).toNat (vl b).toNat)):=by
    conv=>lhs;rw [<- ea,<- eb]
    exact Axk (L:=40) (by omega) (by omega) (by rw [ea];exact la) (by rw [eb];exact lb)
   have hgl:=Ahc (a:=(vl a).toNat) (b:=(vl b).toNat) (by rw [ea];exact la) (by rw [eb];exact lb)
   rw [hg,A2,<- Jo,A9q (by omega) (by omega),A2,Aeu]
   cases b <;> cases a <;> cases s <;> simp

theorem B07 {n:Nat} {x:Rt} (hn:1048577 <= n):f215 n x = some (Gy x):=by
 obtain ⟨s,a,b⟩:=x;unfold f215 Gy;dsimp only;rw [Ahm hn,A2,Ahm hn,A2]
 cases ha:So a with
 | false=>rfl
 | true =>
  cases hb:So b with
  | false=>rfl
  | true =>
   obtain ⟨ca,la⟩:=O0 ha;obtain ⟨cb,lb⟩:=O0 hb;have ea:=Gi ca;have eb:=Gi cb
   have hg:f226 n a b = some (dg (Nat.gcd (vl a).toNat (vl b).toNat)):=by
    conv=>lhs;rw [<- ea,<- eb]
    exact Axx (L:=40) (by omega) (by omega) (by rw [ea];exact la) (by rw [eb];exact lb)
   have hgl:=Ahc (a:=(vl a).toNat) (b:=(vl b).toNat) (by rw [ea];exact la) (by rw [eb];exact lb)
   rw [hg,A2,show f180 n = some [1] from rfl,A2,<- Jo,A9v (by omega),A2,Aeu,show f195 n (s,a,b) = some ((a.length:Int) == 0) from rfl,A2,Ak0,Ak0]
   cases b <;> cases a <;> cases s <;> simp

theorem Sw {n:Nat} {l:List Rt} (hl:l.length <= 1048576) (hn:1048577 <= n):∀ (m i:Nat),i <= l.length->l.length < i + m->∃ r,Gb n m l (l.length:Int) (i:Int) (fun z=>some z) (fun (_:Unit)=>some (-1)) = some r /\ decide (r >= 0) = !(l.drop i).all Gy
 | 0,i,hi,hm=>by omega
 | m + 1,i,hi,hm=>by
  rw [A9e];unfold M9;dsimp only;rw [QI];by_cases h:i < l.length
  . rw [QL (by omega),A4 (by simp;try omega)]
    simp only [QS]
    have e:f214 n (l.getD i Mq) = some (!Gy (l.getD i Mq)):=by
     unfold f214;rw [B07 hn,A2]
    rw [e,A2,Xb h Mq]
    cases hp:Gy (l.getD i Mq) with
    | true =>
     rw [Ad (x:=(i:Int) + 1) (by omega) (by omega)]
     simp only [ZX,ZD,XT]
     exact Sw hl hn m (i + 1) (by omega) (by omega)
    | false=>exact ⟨i,rfl,by simp⟩
  . rw [QK (by omega),ZC (by omega)]
    exact ⟨-1,rfl,rfl⟩

theorem Agc {n:Nat} {l:List Rt} (hl:l.length <= 1048576) (hn:1048577 <= n):Rb n l () = some (!l.all Gy):=by
 unfold Rb A0q
 obtain ⟨r,h1,h2⟩:=Sw (n:=n) hl hn n 0 (by omega) (by omega)
 have h1:Gb n n l (l.length:Int) 0 _ _ = _:=h1;rw [h1,A2,h2,ZR]

theorem B1l {n:Nat} {l:List Rt} (hl:l.length <= 1048576) (hn:1048577 <= n):f173 n l = some (if l.all Gy = true then 0 else 1):=by
 unfold f173;rw [Agc hl hn,A2]
 cases l.all Gy <;> rfl

def T3 (l:List Rt):Bool:=decide (1 <= l.length /\ l.length <= 4) && l.all Gy

theorem A8n {α:Type} {n:Nat} {l:List Rt} (hl:l.length <= 1048576) (hn:1048577 <= n) {k0:Bool->Option α} {k1:List Rt->Option α}:∀ (m i:Nat),i <= l.length->l.length < i + m->Ox n m l (i:Int) k0 k1 = if (l.drop i).all Gy = true then k1 l else k0 false
 | 0,i,hi,hm=>by omega
 | m + 1,i,hi,hm=>by
  rw [Ass];unfold A1g;dsimp only;rw [QI];by_cases h:i < l.length
  . rw [QL (by omega),A4 (by simp;try omega)]
    simp only [QS];rw [B1g hn,A2,Xb h Mq]
    cases hp:Gy (l.getD i Mq) with
    | true =>
     rw [Ad (x:=(i:Int) + 1) (by omega) (by omega)]
     simp only [ZX,ZD,XT]
     exact A8n hl hn m (i + 1) (by omega) (by omega)
    | false=>simp
  . rw [QK (by omega),ZC (by omega)]
    rfl

theorem B25 {n:Nat} {l:List Rt} (hn:1048577 <= n):f119 n l = some (T3 l):=by
 unfold f119 T3;rw [QI];by_cases h:l.length <= 4096
 . rw [QK (by omega)]
   have h1:=A8n (n:=n) (l:=l) (by omega) hn (k0:=fun a=>some a) (k1:=fun b=>(
     ob (f174 n (b.length:Int) 1 4) fun c =>
     some c)) n 0 (by omega) (by omega)
   have h1:Ox n n l 0 _ _ = _:=h1;rw [h1,ZR,L9,A2]
   have e:decide ((1:Int) <= (l.length:Int) /\ (l.length:Int) <= 4) = decide (1 <= l.length /\ l.length <= 4):=by
    apply decide_eq_decide.2;omega
   rw [e]
   cases l.all Gy <;> simp
 . rw [QL (by omega),QX (by omega)];rfl

theorem B2c {n:Nat} {l:List Rt} (hn:1048577 <= n):f115 n l = some (T3 l):=by
 unfold f115 T3;rw [QI,QI];by_cases h:1 <= l.length /\ l.length <= 4
 . rw [QL (by omega),QL (by omega),B1l (by omega) hn,ZH h,A2]
   cases l.all Gy <;> rfl
 . rw [QX h];split
   . rw [QK (by omega)];rfl
   . rfl

theorem A8k {n:Nat} {l:List Int} (hl:l.length <= 1048576):∀ (m i:Nat),i <= l.length->l.length < i + m->∃ c,Ow n m 4096 l (l.length:Int) (i:Int) (fun z=>some z) (fun (_:Unit)=>some 0) = some c /\ ((c = 0 /\ ∀ x ∈ l.drop i,x <= 4096) \/ (c = 2 /\ ∃ x ∈ l,4096 < x))
 | 0,i,hi,hm=>by omega
 | m + 1,i,hi,hm=>by
  rw [Asl];unfold A1a;dsimp only;rw [QI];by_cases h:i < l.length
  . rw [QL (by omega),A4 (by simp;try omega)]
    simp only [QS];rw [QI];by_cases hx:4096 < l.getD i 0
    . rw [QL hx];refine ⟨2,rfl,.inr ⟨rfl,l.getD i 0,?_,hx⟩⟩;rw [QH,QN h];exact JT h
    . rw [QK hx,Ad (x:=(i:Int) + 1) (by omega) (by omega)]
      obtain ⟨c,h1,h2⟩:=A8k (n:=n) hl m (i + 1) (by omega) (by omega)
      refine ⟨c,h1,h2.imp (fun ⟨e,h3⟩=>⟨e,fun x hx'=>?_⟩) (fun h=>h)⟩;rw [XN h] at hx';rcases QT.1 hx' with rfl | hx'
      . rw [QH,QN h] at hx;exact Int.not_lt.1 hx
      . exact h3 x hx'
  . rw [QK (by omega)]
    refine ⟨0,rfl,.inl ⟨rfl,fun x hx=>?_⟩⟩
    rw [ZC (by omega)] at hx
    cases hx

theorem Ac2 {α:Type} {n:Nat} {L:List (List Rt)} (hl:L.length <= 1048576) {k0:List Int->Option α}:∀ (m i:Nat) (o:List Int),o.length <= i->i <= L.length->L.length < i + m->U4 n m L (L.length:Int) (i:Int) o k0 = k0 (o ++ (L.drop i).map fun v=>(v.length:Int))
 | 0,i,o,ho,hi,hm=>by omega
 | m + 1,i,o,ho,hi,hm=>by
  rw [Avw];unfold A55;dsimp only;rw [QI];by_cases h:i < L.length
  . rw [QL (by omega),A4 (by simp;try omega),A4 (by simp only [QQ];omega)]
    simp only [QS]
    rw [Ad (x:=(i:Int) + 1) (by omega) (by omega),show (i:Int) + 1 = ((i + 1:Nat):Int) from rfl,Ac2 hl m (i + 1) _ (by simp;omega) (by omega) (by omega),XN h,QH,QN h,ZM]
    rfl
  . rw [QK (by omega),ZC (by omega)]
    simp

theorem B44 {n:Nat} {L:List (List Rt)} (hl:L.length <= 1048576) (hn:1048577 <= n):∃ c,f65 n L = some c /\ ((c = 0 /\ ∀ v ∈ L,v.length <= 4096) \/ (c = 2 /\ ∃ v ∈ L,4096 < v.length)):=by
 unfold f65
 have h1:=Ac2 (n:=n) (L:=L) hl (k0:=fun a=>(
   ob (f121 n 4096 a) fun b =>
   some b)) n 0 [] (by simp) (by omega) (by omega)
 have h1:U4 n n L (L.length:Int) 0 [] _ = _:=h1;rw [h1,ZR,KN];unfold f121
 obtain ⟨c,h2,h3⟩:=A8k (n:=n) (l:=L.map fun v=>(v.length:Int)) (by simpa using hl) n 0 (by omega) (by simp;omega)
 have h2:Ow n n 4096 _ _ 0 _ _ = _:=h2
 refine ⟨c,by rw [h2,A2],h3.imp (fun ⟨e,h⟩=>⟨e,fun v hv=>by have:=h _ (by rw [ZR];exact ZN.2 ⟨v,hv,rfl⟩);omega⟩) fun ⟨e,x,hx,hx'⟩=>⟨e,?_⟩⟩
 obtain ⟨v,hv,rfl⟩:=ZN.1 hx
 exact ⟨v,hv,by omega⟩

def BdL (l:List Rt):Prop:=l.length <= 9223372036854775807 /\ ∀ x ∈ l,Bd x

def SmL (l:List Rt):Prop:=l.length <= 1048576 /\ ∀ x ∈ l,Sm x

theorem Azs {n:Nat} {l:List Rt} {B:Int} (hB:0 <= B /\ B <= 1048576) (hl:BdL l) (hn:1048577 <= n):∃ r,f30 n l B = some r /\ (r = -1 \/ ((0 <= r /\ r <= 1048576) /\ SmL l)):=by
 obtain ⟨r,h1,h2⟩:=B4o (n:=n) hB hl.1 hl.2 hn
 exact ⟨r,h1,h2.imp id fun ⟨q1,q2,q3,q4⟩=>⟨⟨q1,by omega⟩,q3,q4⟩⟩

abbrev Nod:=Int × Int × Int × Int

def Pu (op:Int):Int:=if op = 3 \/ op = 4 \/ op = 5 \/ op = 6 then 2 else if op = 7 \/ op = 8 then 1 else 0

theorem Air {n:Nat} {x:Nod}:f109 n x = some (Pu x.1):=by
 unfold f109 Pu;simp only [XE,KQ];grind

def Pq (x:Nod):Prop:=if x.1 = 1 then 0 <= x.2.2.2 /\ x.2.2.2 <= 999999999 else if x.1 = 2 then 0 <= x.2.2.2 /\ x.2.2.2 <= 3 else if x.1 = 8 then 0 <= x.2.2.2 /\ x.2.2.2 <= 8 else x.2.2.2 = 0

instance (x:Nod):Decidable (Pq x):=by unfold Pq;infer_instance

theorem Azw {n:Nat} {x:Nod}:f236 n x = some (decide (Pq x)):=by
 unfold f236 Pq;simp only [XE,KQ,Wr,A2];grind

theorem Azu {n:Nat} {h:Bool} {k i:Int} (hi:0 <= i /\ i < 1152921504606846976):f237 n h k i = some (decide (if h = true then 0 <= k /\ k <= i - 1 else k = 0)):=by
 unfold f237
 simp only [Wr,A2,Ad (x:=i - 1) (by omega) (by omega),XE]
 cases h <;> grind

def Er (x:Nod) (i:Int):Prop:=(1 <= x.1 /\ x.1 <= 8) /\ Pq x /\ (if Pu x.1 > 0 then 0 <= x.2.1 /\ x.2.1 <= i - 1 else x.2.1 = 0) /\ (if Pu x.1 > 1 then 0 <= x.2.2.1 /\ x.2.2.1 <= i - 1 else x.2.2.1 = 0)

instance (x:Nod) (i:Int):Decidable (Er x i):=by unfold Er;infer_instance

theorem B02 {n:Nat} {x:Nod} {i:Int} (hi:0 <= i /\ i < 1152921504606846976):f229 n x i = some (decide (Er x i)):=by
 unfold f229 Er;simp only [Wr,Azw,Air,A2,Azu hi,XE,QQ];grind

theorem Aih {n:Nat} {a:Int}:f155 n a = some (decide (3 <= a /\ a <= 6)):=by
 unfold f155;simp [L9]

theorem Aif {n:Nat} {a:Int}:f156 n a = some (decide (a = 7 \/ a = 8)):=by
 unfold f156;simp only [XE,KQ];grind

def Pr (x:Nod) (i:Int):Prop:=(1 <= x.1 /\ x.1 <= 8) /\ (if 3 <= x.1 /\ x.1 <= 6 then (0 <= x.2.1 /\ x.2.1 <= i - 1) /\ (x.2.1 + 1 <= x.2.2.1 /\ x.2.2.1 <= i - 1) /\ x.2.2.2 = 0
 else if x.1 = 7 \/ x.1 = 8 then x.2.1 = i - 1 /\ 0 < i /\ x.2.2.1 = 0 /\ 0 <= x.2.2.2 /\ x.2.2.2 <= (if x.1 = 8 then 8 else 0)
 else if x.1 = 2 then x.2.1 = 0 /\ x.2.2.1 = 0 /\ 0 <= x.2.2.2 /\ x.2.2.2 <= 3 else x.2.1 = 0 /\ x.2.2.1 = 0 /\ 0 <= x.2.2.2 /\ x.2.2.2 <= 999999999)

instance (x:Nod) (i:Int):Decidable (Pr x i):=by unfold Pr;infer_instance

theorem B1j {n:Nat} {x:Nod} {i:Int} (hi:0 <= i /\ i < 1152921504606846976):f175 n x i = some (decide (Pr x i)):=by
 unfold f175 Pr
 simp only [L9,Aih,Aif,La,A2,Ad (x:=i - 1) (by omega) (by omega),XE,QQ,KQ]
 by_cases h0:1 <= x.1 /\ x.1 <= 8
 . by_cases h1:3 <= x.1 /\ x.1 <= 6
   . by_cases h2:0 <= x.2.1 /\ x.2.1 <= i - 1
     . rw [Ad (x:=x.2.1 + 1) (by omega) (by omega)]
       simp only [h0,h1,h2];by_cases h3:x.2.1 + 1 <= x.2.2.1 /\ x.2.2.1 <= i - 1
       . simp [h3];rfl
       . simp [h3]
     . simp [h0,h1,h2]
   . by_cases h2:x.1 = 7 \/ x.1 = 8
     . have e : W (8 * (if (x.1 == 8) = true then 1 else 0)) = if x.1 = 8 then 8 else 0 := by
        by_cases h:x.1 = 8 <;> simp [h] <;> exact Ad (by omega) (by omega)
       simp only [KQ] at e;simp only [h0,h1,h2,e];grind
     . grind
 . simp [h0]

def okP (bs:List Int) (x:Nod) (i:Int):Prop:=Pr x i /\ (3 <= x.1 /\ x.1 <= 6->x.2.2.1 = i - 1 /\ bs.getD x.2.2.1.toNat 0 = x.2.1 + 1)

instance (bs:List Int) (x:Nod) (i:Int):Decidable (okP bs x i):=by unfold okP;infer_instance

def nb (bs:List Int) (x:Nod) (i:Int):Int:=if 3 <= x.1 /\ x.1 <= 8 then bs.getD x.2.1.toNat 0 else i

def nd (ds:List Int) (x:Nod):Int:=if 3 <= x.1 /\ x.1 <= 6 then 1 + max (ds.getD x.2.1.toNat 0) (ds.getD x.2.2.1.toNat 0) else if x.1 = 7 \/ x.1 = 8 then 1 + ds.getD x.2.1.toNat 0 else 1

structure Axc (bs ds:List Int):Prop where
 len:ds.length = bs.length
 small:bs.length <= 1048576
 b:∀ j,j < bs.length->0 <= bs.getD j 0 /\ bs.getD j 0 <= j
 d:∀ j,j < ds.length->1 <= ds.getD j 0 /\ ds.getD j 0 <= j + 1

theorem Pe {a:Int} {k:Nat} (h0:0 <= a) (h:a <= (k:Int) - 1):a.toNat < k:=by omega

theorem Axc.step {bs ds:List Int} (h:Axc bs ds) {x:Nod} (hx:okP bs x bs.length) (hs:bs.length + 1 <= 1048576):Axc (bs ++ [nb bs x bs.length]) (ds ++ [nd ds x]):=by
 obtain ⟨h1,h2,h3,h4⟩:=h;have hn:=hx.1;unfold Pr at hn
 refine ⟨by simp [h1],by simpa using hs,fun j hj=>?_,fun j hj=>?_⟩
 . simp only [XH,ZA,ZZ] at hj;rcases XF j bs.length with hlt | hge
   . rw [Cx hlt];exact h3 j hlt
   . obtain rfl:j = bs.length:=by omega
     rw [Cy];unfold nb;split
     . have ha : 0 <= x.2.1 /\ x.2.1 <= (bs.length : Int) - 1 := by
        split at hn
        . omega
        . split at hn
          . omega
          . omega
       have:=h3 _ (Pe ha.1 ha.2);omega
     . omega
 . simp only [XH,ZA,ZZ] at hj;rcases XF j ds.length with hlt | hge
   . rw [Cx hlt];exact h4 j hlt
   . obtain rfl:j = ds.length:=by omega
     rw [Cy];unfold nd;split
     . rename_i h2';rw [QL h2'] at hn
       have ha:=h4 _ (by rw [h1];exact Pe (k:=bs.length) (a:=x.2.1) (by omega) (by omega))
       have hb:=h4 _ (by rw [h1];exact Pe (k:=bs.length) (a:=x.2.2.1) (by omega) (by omega))
       omega
     . rename_i h2';rw [QK h2'] at hn;split
       . rename_i h3';rw [QL h3'] at hn
         have ha:=h4 _ (by rw [h1];exact Pe (k:=bs.length) (a:=x.2.1) (by omega) (by omega))
         omega
       . omega

def Ran (e:List Nod) (bs:List Int):Prop:=∀ j,j < bs.length->okP (bs.take j) (e.getD j (0,0,0,0)) j /\ bs.getD j 0 = nb (bs.take j) (e.getD j (0,0,0,0)) j

theorem Ran.step {e:List Nod} {bs:List Int} (h:Ran e bs) {x:Nod} (hx:e.getD bs.length (0,0,0,0) = x) (hok:okP bs x bs.length):Ran e (bs ++ [nb bs x bs.length]):=by
 intro j hj;simp only [XH,ZA,ZZ] at hj;rcases XF j bs.length with hlt | hge
 . rw [Cx hlt,List.take_append_of_le_length (by omega)]
   exact h j hlt
 . obtain rfl:j = bs.length:=by omega
   rw [Cy,List.take_left',hx]
   . exact ⟨hok,rfl⟩
   . rfl

theorem A91 {α:Type} {n:Nat} {e:List Nod} (hN:e.length <= 1048576) {k0:List Nod->Option α}:∀ (r:List Nod) (m:Nat) (out:List Nod),e.drop out.length = r->out.length + r.length = e.length->r.length < m ->
  (∀ j,j < out.length->out.getD j (0,0,0,0) = e.getD j (0,0,0,0))->U3 n m e (out.length:Int) (out ++ List.replicate r.length (0,0,0,0)) k0 = k0 e
 | [],m + 1,out,hd,hl,hm,ho=>by
  rw [Ac0];unfold W0;simp only [ZZ] at hl
  rw [QI,QK (by omega)]
  congr 1;simp only [ZZ,List.replicate_zero,XA]
  apply List.ext_getElem (by omega)
  intro j h1 h2;have:=ho j h1;simpa [QH,h1,h2] using this
 | x :: r,m + 1,out,hd,hl,hm,ho=>by
  obtain ⟨hx,hlt,hd'⟩:=O4 (d:=(0,0,0,0)) hd;rw [Ac0];unfold W0;simp only [ZA] at hl hm
  rw [QI,QL (by omega),A4 (by simp;omega),Ad (by omega) (by omega)]
  simp only [QS,hx];unfold f138
  rw [A2,A4 (by simp;omega),A4 (by simp)]
  have es:(out ++ List.replicate (x :: r).length (0,0,0,0)).set out.length x = (out ++ [x]) ++ List.replicate r.length (0,0,0,0):=by
   rw [KB _ _ (QY _)];simp [Qba]
  rw [es]
  have ih:=A91 hN r m (out ++ [x]) (by simpa using hd') (by simp;omega) (by omega) (fun j hj=>by
   simp only [XH,ZA,ZZ] at hj;rcases XF j out.length with h | h
   . rw [Cx h];exact ho j h
   . obtain rfl:j = out.length:=by omega
     rw [Cy,hx]) (n:=n) (k0:=k0)
  simp only [XH,ZA,ZZ,YD] at ih;exact ih

theorem Asg {n:Nat} {x:Nod}:f140 n x x = some true:=by unfold f140;simp

theorem A6w {α:Type} {n:Nat} {e:List Nod} (hN:e.length <= 1048576) {k0:Bool->Option α} {k1:Unit->Option α}:∀ (m k:Nat),k <= e.length->e.length - k < m->A2o n m e e (k:Int) k0 k1 = k1 ()
 | m + 1,k,hk,hm=>by
  rw [Avo];unfold A4x;by_cases h:k < e.length
  . rw [QI,QL (by omega),A4 (by simp;omega),Ad (by omega) (by omega)]
    simp only [Asg,A2,ZX,ZD]
    rw [A4 (by simp;omega)]
    exact A6w hN m (k + 1) (by omega) (by omega)
  . rw [QI,QK (by omega)]

theorem Ayo {x:Rt} (h:Gy x = true):∃ (s:Bool) (N D:Nat),x = (s,dg N,dg D) /\ (dg N).length <= 40 /\ (dg D).length <= 40 /\ 0 < D /\ (s = true->0 < N):=by
 obtain ⟨s,a,b⟩:=x;unfold Gy at h;simp only [QE,ZJ,QQ] at h;obtain ⟨⟨⟨⟨ha,hb⟩,hb0⟩,hs⟩,_⟩:=h;obtain ⟨ca,la⟩:=O0 ha;obtain ⟨cb,lb⟩:=O0 hb
 have hb0:b ≠ []:=by rintro rfl;cases hb0
 refine ⟨s,(vl a).toNat,(vl b).toNat,by rw [Gi ca,Gi cb],by rw [Gi ca];exact la,by rw [Gi cb];exact lb,?_,fun e=>?_⟩
 . have:=cb.pos hb0;omega
 . have ha0:a ≠ []:=by rintro rfl;rw [e] at hs;cases hs
   have:=ca.pos ha0;omega

theorem V7 {m:Nat}:(((dg m).length:Int) == 0) = decide (m = 0):=by
 rw [Ak0];by_cases h:m = 0
 . subst h;rw [C4];rfl
 . rw [QX h,E6 h];rfl

theorem Aen {m:Nat}:decide (((dg m).length:Int) > 0) = decide (m ≠ 0):=by
 by_cases h:m = 0
 . subst h;rw [C4];rfl
 . rw [E6 h];simp [h]

def Gw (s:Int) (l:List Nod):Int:=l.foldl (fun s x=>if x.1 = 2 then max s (W (x.2.2.2 + 1)) else s) s

abbrev nd0:Nod:=(0,0,0,0)

theorem Aem {l:List Nod} {i:Nat} (h:i < l.length) (s:Int):Gw s (l.drop i) = Gw (if (l.getD i nd0).1 = 2 then max s (W ((l.getD i nd0).2.2.2 + 1)) else s) (l.drop (i + 1)):=by
 rw [XN h,QH,QN h];rfl

theorem Uw {α:Type} {n:Nat} {l:List Nod} (hl:l.length <= 1048576) {k0:Int->Option α}:∀ (m i:Nat) (s:Int),i <= l.length->l.length < i + m->X1 n m s (i:Int) l k0 = k0 (Gw s (l.drop i))
 | 0,i,s,hi,hm=>by omega
 | m + 1,i,s,hi,hm=>by
  rw [Asp];unfold A1d;dsimp only;rw [QI];by_cases h:i < l.length
  . rw [QL (by omega),A4 (by simp;try omega),A4 (by simp;try omega),Aem h]
    simp only [QS]
    rw [XE,Ad (x:=(i:Int) + 1) (by omega) (by omega)]
    by_cases hv:(l.getD i nd0).1 = 2
    . rw [QL (by rw [KQ];exact hv),QL hv]
      exact Uw hl m (i + 1) _ (by omega) (by omega)
    . rw [QK (by rw [KQ];exact hv),QK hv]
      exact Uw hl m (i + 1) _ (by omega) (by omega)
  . rw [QK (by omega),ZC (by omega)]
    rfl

theorem Ux {α:Type} {n:Nat} {l:List Nod} (hl:l.length <= 1048576) {k0:Int->Option α}:∀ (m i:Nat) (s:Int),i <= l.length->l.length < i + m->X2 n m s l (l.length:Int) (i:Int) k0 = k0 (Gw s (l.drop i))
 | 0,i,s,hi,hm=>by omega
 | m + 1,i,s,hi,hm=>by
  rw [Asw];unfold A1k;dsimp only;rw [QI];by_cases h:i < l.length
  . rw [QL (by omega),A4 (by simp;try omega),Aem h]
    simp only [QS]
    rw [XE,Ad (x:=(i:Int) + 1) (by omega) (by omega)]
    by_cases hv:(l.getD i nd0).1 = 2
    . rw [QL (by rw [KQ];exact hv),QL hv]
      exact Ux hl m (i + 1) _ (by omega) (by omega)
    . rw [QK (by rw [KQ];exact hv),QK hv]
      exact Ux hl m (i + 1) _ (by omega) (by omega)
  . rw [QK (by omega),ZC (by omega)]
    rfl

theorem B23 {n:Nat} {l:List Nod} (hl:l.length <= 1048576) (hn:1048577 <= n):f120 n l = some (Gw 0 l):=by
 unfold f120
 have:=Uw (n:=n) hl (k0:=fun a=>some a) n 0 0 (by omega) (by omega)
 simpa using this

theorem B2a {n:Nat} {l:List Nod} (hl:l.length <= 1048576) (hn:1048577 <= n):f116 n l = some (Gw 0 l):=by
 unfold f116
 have:=Ux (n:=n) hl (k0:=fun a=>some a) n 0 0 (by omega) (by omega)
 simpa using this

theorem Au1 {α:Type} {n:Nat} {a b:List Int} (ha:Cn a) (hb:Cn b) (hN:a.length <= 1099511627776) (hNb:b.length <= 1099511627776) {k0:List Int->Option α}:∀ (m i:Nat) (c:Int) (o:List Int),o.length = i->Lm o->0 <= c->c <= 1 ->
  vl o + 10000 ^ i * c = vl (a.take i) + vl (b.take i)->(i <= max a.length b.length \/ (i = max a.length b.length + 1 /\ c = 0 /\ o.getD (i - 1) 0 ≠ 0))->max a.length b.length + 2 <= i + m ->
  Kz n m a b c (i:Int) o k0 = k0 (dg (vl a + vl b).toNat)
 | 0,i,c,o,ho,hlo,hc0,hc1,hv,hq,hm=>by omega
 | m + 1,i,c,o,ho,hlo,hc0,hc1,hv,hq,hm=>by
  rw [Aqr];unfold Zu;dsimp only
  have fin:a.length <= i->b.length <= i->c = 0->o = dg (vl a + vl b).toNat:=fun h1 h2 h3=>by
   rw [I5 a h1,I5 b h2,h3] at hv
   have hv':vl o = vl a + vl b:=by simpa using hv
   have:Cn o:=Cn.of_ge hlo fun hn=>by
    have hl:0 < o.length:=ZY.2 hn;rcases hq with hq | ⟨hq1,_,hq3⟩
    . have hmx:i = max a.length b.length:=by omega
      rw [ho,hv'];rcases Nat.le_total a.length b.length with hab | hab
      . have h4:=hb.ge (ZY.1 (by omega))
        have h5:=Ay ha.1
        rw [show i - 1 = b.length - 1 by omega];omega
      . have h4:=ha.ge (ZY.1 (by omega))
        have h5:=Ay hb.1
        rw [show i - 1 = a.length - 1 by omega];omega
    . have h1:=Az o (o.length - 1)
      rw [show o.length - 1 + 1 = o.length by omega,YJ] at h1
      have h2:=Ay (hlo.take (o.length - 1));have h3:=hlo.get (o.length - 1);rw [<- ho] at hq3;have h4:=Ep (o.length - 1)
      have h5:(10000:Int) ^ (o.length - 1) * 1 <= 10000 ^ (o.length - 1) * o.getD (o.length - 1) 0:=XK (by omega) (by omega)
      omega
   rw [<- hv',Gi this]
  have go:∀ (y:Int),y = c + a.getD i 0 + b.getD i 0->(i < max a.length b.length \/ (i = max a.length b.length /\ 0 < c))->Kz n m a b (W (Int.tdiv y 10000)) (W ((i:Int) + 1)) (o ++ [Int.tmod y 10000]) k0 = k0 (dg (vl a + vl b).toNat):=by
   intro y hy hi;have h1:=ha.1.get i;have h2:=hb.1.get i
   rw [tdv (by omega),tmd (by omega),Ad (by omega) (by omega),Ad (by omega) (by omega)]
   have ta:=Az a i;have tb:=Az b i
   have hyy:y = 10000 * (y / 10000) + y % 10000:=by omega
   refine Au1 (n:=n) ha hb hN hNb m (i + 1) _ _ (by simp [ho]) (hlo.app (Lm.cons (by omega) Lm.nil)) (by omega) (by omega) ?_ ?_ (by omega)
   . rw [Nu,ho,ta,tb,Bk];generalize y / 10000 = q at *;generalize y % 10000 = r at *;generalize (10000:Int) ^ i = P at *;grind
   . rcases hi with hi | ⟨hi,hc⟩
     . exact .inl (by omega)
     . right
       have e1:a.getD i 0 = 0:=B6 (by omega)
       have e2:b.getD i 0 = 0:=B6 (by omega)
       have e3:y = 1:=by omega
       subst e3
       refine ⟨by omega,by rfl,?_⟩
       rw [Qae,<- ho,QH];simp
  have hcases:(i < a.length \/ i < b.length \/ 0 < c)->(i < max a.length b.length \/ (i = max a.length b.length /\ 0 < c)):=fun h=>by
   rcases h with h | h | h
   . exact .inl (by omega)
   . exact .inl (by omega)
   . rcases hq with hq | ⟨_,h0,_⟩
     . omega
     . omega
  have ho2:(decide ((o.length + 1) * 8 <= 140737488355328)) = true:=by
   rw [QQ];rcases hq with hq | ⟨hq,_⟩ <;> omega
  have h1:=ha.1.get i;have h2:=hb.1.get i;by_cases hA:i < a.length
  . have dA:decide ((i:Int) < (a.length:Int)) = true:=by rw [QQ];omega
    have dM:decide ((i:Int) < max (a.length:Int) (b.length:Int)) = true:=by rw [QQ];omega
    simp only [dM,dA,XO,QS]
    rw [A4 (by simp;try omega),Ad (x:=c + a.getD i 0) (by omega) (by omega)]
    by_cases hB:i < b.length
    . have dB:decide ((i:Int) < (b.length:Int)) = true:=by rw [QQ];omega
      simp only [dB,XO]
      rw [A4 (by simp;try omega),A4 ho2,Ad (x:=c + a.getD i 0 + b.getD i 0) (by omega) (by omega)]
      exact go _ rfl (hcases (.inl hA))
    . have dB:decide ((i:Int) < (b.length:Int)) = false:=by rw [ZS];omega
      simp only [dB,ZD];rw [A4 ho2]
      exact go _ (by rw [B6 (l:=b) (by omega)];omega) (hcases (.inl hA))
  . have dA:decide ((i:Int) < (a.length:Int)) = false:=by rw [ZS];omega
    by_cases hB:i < b.length
    . have dB:decide ((i:Int) < (b.length:Int)) = true:=by rw [QQ];omega
      have dM:decide ((i:Int) < max (a.length:Int) (b.length:Int)) = true:=by rw [QQ];omega
      simp only [dM,dA,dB,XO,ZD,QS]
      rw [A4 (by simp;try omega),A4 ho2,Ad (x:=c + b.getD i 0) (by omega) (by omega)]
      exact go _ (by rw [B6 (l:=a) (by omega)];omega) (hcases (.inr (.inl hB)))
    . have dB:decide ((i:Int) < (b.length:Int)) = false:=by rw [ZS];omega
      have dM:decide ((i:Int) < max (a.length:Int) (b.length:Int)) = false:=by rw [ZS];omega
      simp only [dM,dA,dB,ZD];rw [QI];by_cases hc:0 < c
      . rw [QL (by omega),A4 ho2]
        exact go _ (by rw [B6 (l:=a) (by omega),B6 (l:=b) (by omega)];omega) (hcases (.inr (.inr hc)))
      . rw [QK (by omega),fin (by omega) (by omega) (by omega)]

theorem B7w {n a b:Nat} (h:(dg a).length <= 1099511627776) (h':(dg b).length <= 1099511627776) (hn:max (dg a).length (dg b).length + 2 <= n):f202 n (dg a) (dg b) = some (dg (a + b)):=by
 unfold f202
 have:=Au1 (n:=n) (Fu a) (Fu b) h h' (k0:=fun c=>some c) n 0 0 [] rfl Lm.nil (by omega) (by omega) (by simp [vl]) (.inl (by omega)) (by omega)
 have this:Kz n n (dg a) (dg b) 0 0 [] _ = _:=this;rw [this,Bc,Bc];congr 1

theorem Ao6 {o P c wi bi v' T y d r:Int} (h:o - P * (c + (bi + 10000 * v')) = T) (hy:y = wi - c - bi) (hd:y = r - 10000 * d):o + P * (r - wi) - 10000 * P * (d + v') = T:=by
 grind

theorem An3 {α:Type} {n:Nat} {b:List Int} (hb:Lm b) {N:Nat} (hN:N <= 1099511627776) {T:Int} {k0:List Int->Option α}:∀ (m i:Nat) (c:Int) (o:List Int),o.length = N->Lm o->0 <= c->c <= 1->i <= N ->
  vl o - 10000 ^ i * (c + vl (b.drop i)) = T->N + 1 <= i + m ->
  ∃ o' c',H3 n m b c (N:Int) (i:Int) o k0 = k0 o' /\ o'.length = N /\ Lm o' /\ 0 <= c' /\ c' <= 1 /\ vl o' - 10000 ^ N * (c' + vl (b.drop N)) = T
 | 0,i,c,o,ho,hlo,hc0,hc1,hi,hv,hm=>by omega
 | m + 1,i,c,o,ho,hlo,hc0,hc1,hi,hv,hm=>by
  rw [Aqk];unfold Zq;dsimp only;by_cases hA:i < N
  . rw [QI,QL (by omega),A4 (by simp;try omega),A4 (by simp;try omega)]
    have h1:=hlo.get i;have h2:=hb.get i;simp only [QS]
    have go:∀ (d r:Int),d = (if o.getD i 0 - c - b.getD i 0 < 0 then 1 else 0)->r = o.getD i 0 - c - b.getD i 0 + 10000 * d->∃ o' c',H3 n m b d (N:Int) (W ((i:Int) + 1)) (o.set i r) k0 = k0 o' /\ o'.length = N /\ Lm o' /\ 0 <= c' /\ c' <= 1 /\ vl o' - 10000 ^ N * (c' + vl (b.drop N)) = T:=by
     intro d r hd hr
     have hd1:0 <= d /\ d <= 1 /\ 0 <= r /\ r < 10000:=by
      rw [hr,hd];split <;> omega
     rw [Ad (x:=(i:Int) + 1) (by omega) (by omega)]
     refine An3 (n:=n) hb hN m (i + 1) d _ (by simpa using ho) (hlo.set _ (by omega)) (by omega) (by omega) (by omega) ?_ (by omega)
     rw [Jd _ (by omega),Bk]
     refine Ao6 (bi:=b.getD i 0) (y:=o.getD i 0 - c - b.getD i 0) ?_ rfl (by omega)
     rw [<- Y9];exact hv
    have go2 : ∀ y : Int, y = o.getD i 0 - c - b.getD i 0 -> ∃ o' c', (bif (decide (y < 0)) then
          gd (decide (0 <= (i:Int)) && decide ((i:Int) < (o.length:Int))) (
           gd (decide (i < o.length)) (
            H3 n m b 1 (N:Int) (W ((i:Int) + 1)) (o.set i (W (y + 10000))) k0))
      else
       gd (decide (0 <= (i:Int)) && decide ((i:Int) < (o.length:Int))) (
        gd (decide (i < o.length)) (
         H3 n m b 0 (N:Int) (W ((i:Int) + 1)) (o.set i y) k0))) = k0 o' /\ o'.length = N /\ Lm o' /\ 0 <= c' /\ c' <= 1 /\ vl o' - 10000 ^ N * (c' + vl (b.drop N)) = T:=by
     intro y hy;rw [QI];by_cases hneg:y < 0
     . rw [QL hneg,A4 (by simp;try omega),A4 (by simp;try omega),Ad (x:=y + 10000) (by omega) (by omega)]
       exact go 1 _ (by rw [QL (by omega)]) (by omega)
     . rw [QK hneg,A4 (by simp;try omega),A4 (by simp;try omega)]
       exact go 0 _ (by rw [QK (by omega)]) (by omega)
    by_cases hB:i < b.length
    . have dB:decide ((i:Int) < (b.length:Int)) = true:=by rw [QQ];omega
      simp only [dB,XO]
      rw [A4 (by simp;try omega)]
      simp only [Ad (x:=o.getD i 0 - c) (by omega) (by omega),Ad (x:=o.getD i 0 - c - b.getD i 0) (by omega) (by omega)]
      exact go2 _ rfl
    . have dB:decide ((i:Int) < (b.length:Int)) = false:=by rw [ZS];omega
      simp only [dB,ZD]
      simp only [Ad (x:=o.getD i 0 - c) (by omega) (by omega)]
      exact go2 _ (by rw [B6 (l:=b) (by omega)];omega)
  . rw [QI,QK (by omega)]
    obtain rfl:i = N:=by omega
    exact ⟨o,c,rfl,ho,hlo,hc0,hc1,hv⟩

theorem Axw {n a b:Nat} (h:(dg a).length <= 1099511627000) (hn:(dg a).length + 1 <= n) (hab:b <= a) (ha:0 < a):f204 n (dg a) (dg b) = some (dg (a - b)):=by
 have hlab:=Bf hab;unfold f204
 rw [Ae7 n (by omega) (fun e=>by have:=B79.1 e;omega),A2]
 obtain ⟨o,c,h1,h2,h3,h4,h5,h6⟩:=An3 (n:=n) (D4 b) (N:=(dg a).length) (by omega) (T:=(a:Int) - b) (k0:=fun d=>(
   ob (f225 n d) fun f =>
   some f)) n 0 0 (dg a) rfl (D4 a) (by omega) (by omega) (by omega) (by rw [ZR,Bc,Bc,Int.pow_zero,Int.one_mul,Int.zero_add]) (by omega)
 have h1:H3 n n (dg b) 0 ((dg a).length:Int) 0 (dg a) _ = _:=h1
 rw [ZC (by omega)] at h6
 have h7:=Ge h3;rw [h2] at h7;have h8:=Ay h3
 have:c = 0:=by
  rcases Int.lt_or_eq_of_le h4 with h | h
  . have:c = 1:=by omega
    rw [this] at h6;simp only [vl,Qaw,Int.mul_one] at h6;generalize (10000:Int) ^ (dg a).length = P at *;omega
  . exact h.symm
 rw [this] at h6;simp only [vl,Qaw,Qaf,Int.sub_zero] at h6
 rw [h1,Oc h3 (by omega) (by omega),A2,h6,show ((a:Int) - (b:Int)).toNat = a - b by omega]

def rq (x:Rat):Rt:=(decide (x.num < 0),dg x.num.natAbs,dg x.den)

def mq (s:Bool) (a d:Nat):Rat:=mkRat (if s = true then -(a:Int) else a) d

def Sz (x:Rat) (L:Nat):Prop:=(dg x.num.natAbs).length <= L /\ (dg x.den).length <= L

theorem Tl (s:Bool) (a:Nat):(if s = true then -(a:Int) else a).natAbs = a:=by cases s <;> simp

theorem Anw {s:Bool} {a d:Nat} (hd:0 < d):(mq s a d).num = if s = true then -((a / Nat.gcd a d:Nat):Int) else ((a / Nat.gcd a d:Nat):Int):=by
 unfold mq
 rw [Rat.num_mkRat,QK (by omega),Tl,Nat.gcd_comm d a]
 cases s with
 | false=>simp
 | true =>
  simp only [if_true]
  rw [Int.neg_ediv_of_dvd (by exact_mod_cast Nat.gcd_dvd_left a d)]
  simp

theorem Anx {s:Bool} {a d:Nat} (hd:0 < d):(mq s a d).den = d / Nat.gcd a d:=by
 unfold mq
 rw [Rat.den_mkRat,QK (by omega),Tl,Nat.gcd_comm d a]

theorem Ajl {s:Bool} {a d:Nat} (hd:0 < d):rq (mq s a d) = (s && decide (a / Nat.gcd a d ≠ 0),dg (a / Nat.gcd a d),dg (d / Nat.gcd a d)):=by
 unfold rq;rw [Anw hd,Anx hd];generalize a / Nat.gcd a d = q
 cases s with
 | false=>simp
 | true =>
  simp only [if_true,XT,Qbd,YE];congr 1;apply decide_eq_decide.2;omega

theorem Amt {s:Bool} {a d L:Nat} (hd:0 < d) (h1:(dg a).length <= L) (h2:(dg d).length <= L):Sz (mq s a d) L:=by
 unfold Sz;rw [Anw hd,Anx hd,Tl];exact ⟨ZK (Bf (Qax _ _)) h1,ZK (Bf (Qax _ _)) h2⟩

theorem Tc {n L x d:Nat} {s:Bool} (hd:0 < d) (hx:(dg x).length <= L) (hdl:(dg d).length <= L) (hL:L <= 1099511627000) (hn:28 * L + 10040 <= n):f186 n s (dg x) (dg d) = some (rq (mq s x d)):=by
 have hg:0 < Nat.gcd x d:=Nat.gcd_pos_of_pos_right x hd;have hgl:(dg (Nat.gcd x d)).length <= L:=ZK (Bf (Nat.gcd_le_right x hd)) hdl;rw [Ajl hd];unfold f186
 rw [Axk hL hn hx hdl,A2,Ajk hg hx hgl hL (by omega),A2,Ajk hg hdl hgl hL (by omega),A2]
 dsimp only;rw [Aen]
 cases s <;> rfl

theorem Tw {n L x d:Nat} {s:Bool} (hd:0 < d) (hx:(dg x).length <= L) (hdl:(dg d).length <= L) (hL:L <= 1099511627000) (hn:28 * L + 10040 <= n):f201 n s (dg x) (dg d) = some (rq (mq s x d)):=by
 have hg:0 < Nat.gcd x d:=Nat.gcd_pos_of_pos_right x hd;have hgl:(dg (Nat.gcd x d)).length <= L:=ZK (Bf (Nat.gcd_le_right x hd)) hdl;have hq1:(dg (x / Nat.gcd x d)).length <= L:=ZK (Bf (Qax _ _)) hx;have hq2:(dg (d / Nat.gcd x d)).length <= L:=ZK (Bf (Qax _ _)) hdl;rw [Ajl hd];unfold f201;dsimp only
 rw [Axx hL hn hx hdl,A2,show f180 n = some [1] from rfl,A2,<- Jo,A9v (by omega),A2]
 have fin:∀ y z:List Int,y = dg (x / Nat.gcd x d)->z = dg (d / Nat.gcd x d)->(bif s then
   ob (f117 n y) fun a =>
   ob (f117 n z) fun b =>
   some ((decide ((y.length:Int) > 0)),a,b)
  else
   ob (f117 n y) fun c =>
   ob (f117 n z) fun f =>
   some (false,c,f)) = some (s && decide (x / Nat.gcd x d ≠ 0),dg (x / Nat.gcd x d),dg (d / Nat.gcd x d)):=by
  rintro y z rfl rfl
  rw [Is n (by omega),A2,Is n (by omega),A2,Aen]
  cases s <;> rfl
 by_cases h1:Nat.gcd x d = 1
 . have e:(cm ((Nat.gcd x d:Nat):Int) ((1:Nat):Int) != 0) = false:=by rw [h1,Ja rfl];rfl
   rw [e,ZD]
   exact fin _ _ (by rw [h1,Nat.div_one]) (by rw [h1,Nat.div_one])
 . have e : (cm ((Nat.gcd x d : Nat) : Int) ((1 : Nat) : Int) != 0) = true := by
    rw [bne,Aeu,QX h1];rfl
   rw [e,XO,Ak2 hg hx hgl hL (by omega),A2,Ak2 hg hdl hgl hL (by omega),A2]
   exact fin _ _ rfl rfl

theorem Jf (x:Rat):x.num = if decide (x.num < 0) = true then -(x.num.natAbs:Int) else x.num.natAbs:=by
 by_cases h:x.num < 0
 . rw [ZH h,QL rfl];omega
 . rw [QX h,QK (by decide)];omega

theorem Af6 {x y:Rat} (h:decide (x.num < 0) = decide (y.num < 0)):x + y = mq (decide (x.num < 0)) (x.num.natAbs * y.den + y.num.natAbs * x.den) (x.den * y.den):=by
 rw [Rat.add_def'];unfold mq;congr 1;have hx:=Jf x;have hy:=Jf y;rw [<- h] at hy;generalize decide (x.num < 0) = s at *;generalize x.num.natAbs = p at *;generalize y.num.natAbs = q at *;rw [hx,hy]
 cases s with
 | true=>simp only [if_true,JM,YF];grind
 | false=>simp

theorem A41 {x y:Rat} (h:decide (x.num < 0) ≠ decide (y.num < 0)) (hle:y.num.natAbs * x.den <= x.num.natAbs * y.den):x + y = mq (decide (x.num < 0)) (x.num.natAbs * y.den - y.num.natAbs * x.den) (x.den * y.den):=by
 rw [Rat.add_def'];unfold mq;congr 1;have hx:=Jf x;have hy:=Jf y
 have h':decide (y.num < 0) = !decide (x.num < 0):=by
  generalize decide (x.num < 0) = s at h;generalize decide (y.num < 0) = t at h
  cases s <;> cases t <;> first | rfl | exact absurd rfl h
 rw [h'] at hy;generalize decide (x.num < 0) = s at *;generalize x.num.natAbs = p at *;generalize y.num.natAbs = q at *;rw [hx,hy,Int.natCast_sub hle]
 cases s with
 | true=>simp only [if_true,YF,ZX];simp;grind
 | false=>simp only [YF,XI,if_true];simp;grind

theorem Ana {n L:Nat} {x y:Rat} (hx:Sz x L) (hy:Sz y L) (hL:2 * L + 1 <= 1099511627000) (hn:28 * (2 * L + 1) + 10040 <= n):f148 n (rq x) (rq y) = some (rq (x + y)):=by
 obtain ⟨x1,x2⟩:=hx;obtain ⟨y1,y2⟩:=hy;have l1:=Bg x.num.natAbs y.den;have l2:=Bg y.num.natAbs x.den;have l3:=Bg x.den y.den;have l4:=Ah7 (x.num.natAbs * y.den) (y.num.natAbs * x.den);have hd:0 < x.den * y.den:=KL (XY x.den_nz) (XY y.den_nz);unfold f148 rq;dsimp only
 rw [Kb (by omega) (by omega),A2,Kb (by omega) (by omega),A2,Kb (by omega) (by omega),A2,XE]
 by_cases hs:decide (x.num < 0) = decide (y.num < 0)
 . rw [QL (by rw [hs];simp),B7r (by omega) (by omega) (by omega),A2,Tc hd (L:=2 * L + 1) (by omega) (by omega) hL hn,A2,Af6 hs];rfl
 . rw [QK (by simpa using hs),A9q (by omega) (by omega),A2,QI]
   by_cases hle:y.num.natAbs * x.den <= x.num.natAbs * y.den
   . have l5:=Bf (Nat.sub_le (x.num.natAbs * y.den) (y.num.natAbs * x.den))
     rw [QL (by
      rcases KW hle with h | h
      . rw [Hw (by omega)];omega
      . rw [Ja (by omega)];omega),Ajj (by omega) (by omega) hle,A2,Tc hd (L:=2 * L + 1) (by omega) (by omega) hL hn,A2,A41 hs hle];rfl
   . have l5:=Bf (Nat.sub_le (y.num.natAbs * x.den) (x.num.natAbs * y.den))
     rw [QK (by rw [Hv (by omega)];omega),Ajj (by omega) (by omega) (by omega),A2,Tc hd (L:=2 * L + 1) (by omega) (by omega) hL hn,A2,Rat.add_comm,A41 (fun e=>hs e.symm) (by omega),KV y.den x.den];rfl

theorem B3f {n L:Nat} {x y:Rat} (hx:Sz x L) (hy:Sz y L) (hL:2 * L + 1 <= 1099511627000) (hn:28 * (2 * L + 1) + 10040 <= n):f161 n (rq x) (rq y) = some (rq (x + y)):=by
 obtain ⟨x1,x2⟩:=hx;obtain ⟨y1,y2⟩:=hy;have l1:=Bg x.num.natAbs y.den;have l2:=Bg y.num.natAbs x.den;have l3:=Bg x.den y.den;have l4:=Ah7 (x.num.natAbs * y.den) (y.num.natAbs * x.den);have hd:0 < x.den * y.den:=KL (XY x.den_nz) (XY y.den_nz);unfold f161 rq;dsimp only
 rw [Kh (by omega) (by omega),A2,Kh (by omega) (by omega),A2,Kh (by omega) (by omega),A2,XE]
 by_cases hs:decide (x.num < 0) = decide (y.num < 0)
 . rw [QL (by rw [hs];simp),B7w (by omega) (by omega) (by omega),A2,Tw hd (L:=2 * L + 1) (by omega) (by omega) hL hn,A2,Af6 hs];rfl
 . rw [QK (by simpa using hs),A9v (by omega),A2,QI]
   by_cases hle:y.num.natAbs * x.den <= x.num.natAbs * y.den
   . have l5:=Bf (Nat.sub_le (x.num.natAbs * y.den) (y.num.natAbs * x.den))
     have hp:0 < x.num.natAbs * y.den:=by
      rcases YV (x.num.natAbs * y.den) with h | h
      . exfalso;have hyd:=y.den_nz;have hxd:=x.den_nz
        have h2:y.num.natAbs * x.den = 0:=by omega
        have e1:x.num = 0:=by rcases Qap.1 h with h | h <;> omega
        have e2:y.num = 0:=by rcases Qap.1 h2 with h | h <;> omega
        exact hs (by rw [e1,e2])
      . exact h
     rw [QL (by
      rcases KW hle with h | h
      . rw [Hw (by omega)];omega
      . rw [Ja (by omega)];omega),Axw (by omega) (by omega) hle hp,A2,Tw hd (L:=2 * L + 1) (by omega) (by omega) hL hn,A2,A41 hs hle];rfl
   . have l5:=Bf (Nat.sub_le (y.num.natAbs * x.den) (x.num.natAbs * y.den))
     rw [QK (by rw [Hv (by omega)];omega),Axw (by omega) (by omega) (by omega) (by omega),A2,Tw hd (L:=2 * L + 1) (by omega) (by omega) hL hn,A2,Rat.add_comm,A41 (fun e=>hs e.symm) (by omega),KV y.den x.den];rfl

theorem Ab6 (x y:Rat):x * y = mq (!(decide (x.num < 0) == decide (y.num < 0))) (x.num.natAbs * y.num.natAbs) (x.den * y.den):=by
 rw [Rat.mul_def'];unfold mq;congr 1;have hx:=Jf x;have hy:=Jf y;generalize decide (x.num < 0) = s at *;generalize decide (y.num < 0) = t at *;generalize x.num.natAbs = p at *;generalize y.num.natAbs = q at *;rw [hx,hy]
 cases s <;> cases t <;> simp [Int.neg_mul,Int.mul_neg]

theorem Aym {n L:Nat} {x y:Rat} (hx:Sz x L) (hy:Sz y L) (hL:2 * L + 1 <= 1099511627000) (hn:28 * (2 * L + 1) + 10040 <= n):f150 n (rq x) (rq y) = some (rq (x * y)):=by
 obtain ⟨x1,x2⟩:=hx;obtain ⟨y1,y2⟩:=hy;have l1:=Bg x.num.natAbs y.num.natAbs;have l3:=Bg x.den y.den;have hd:0 < x.den * y.den:=KL (XY x.den_nz) (XY y.den_nz);unfold f150 rq;dsimp only
 rw [Kb (by omega) (by omega),A2,Kb (by omega) (by omega),A2,Tc hd (L:=2 * L + 1) (by omega) (by omega) hL hn,A2,Ab6];rfl

theorem Az3 {n L:Nat} {x y:Rat} (hx:Sz x L) (hy:Sz y L) (hL:2 * L + 1 <= 1099511627000) (hn:28 * (2 * L + 1) + 10040 <= n):f178 n (rq x) (rq y) = some (rq (x * y)):=by
 obtain ⟨x1,x2⟩:=hx;obtain ⟨y1,y2⟩:=hy;have l1:=Bg x.num.natAbs y.num.natAbs;have l3:=Bg x.den y.den;have hd:0 < x.den * y.den:=KL (XY x.den_nz) (XY y.den_nz);unfold f178 rq;dsimp only
 rw [Kh (by omega) (by omega),A2,Kh (by omega) (by omega),A2,Tw hd (L:=2 * L + 1) (by omega) (by omega) hL hn,A2,Ab6];rfl

theorem Aek {x y:Rat} (hy:y ≠ 0):x / y = mq (!(decide (x.num < 0) == decide (y.num < 0))) (x.num.natAbs * y.den) (x.den * y.num.natAbs):=by
 have hyn:y.num ≠ 0:=fun e=>hy (JA.1 e)
 have key:mq (!(decide (x.num < 0) == decide (y.num < 0))) (x.num.natAbs * y.den) (x.den * y.num.natAbs) * y = x:=by
  conv=>lhs;rhs;rw [<- Rat.mkRat_self y]
  conv=>rhs;rw [<- Rat.mkRat_self x]
  unfold mq
  rw [Rat.mkRat_mul_mkRat,Rat.mkRat_eq_iff (Nat.mul_ne_zero (Nat.mul_ne_zero x.den_nz (by omega)) y.den_nz) x.den_nz]
  have hx:=Jf x;have hy:=Jf y;generalize decide (x.num < 0) = s at *;generalize decide (y.num < 0) = t at *;generalize x.num.natAbs = p at *;generalize y.num.natAbs = q at *;rw [hx,hy];simp only [YF]
  cases s <;> cases t <;> simp <;> grind
 conv=>lhs;rw [<- key]
 exact Rat.mul_div_cancel hy

theorem B31 {n L:Nat} {x y:Rat} (hx:Sz x L) (hy:Sz y L) (hy0:y ≠ 0) (hL:2 * L + 1 <= 1099511627000) (hn:28 * (2 * L + 1) + 10040 <= n):f151 n (rq x) (rq y) = some (rq (x / y)):=by
 obtain ⟨x1,x2⟩:=hx;obtain ⟨y1,y2⟩:=hy;have l1:=Bg x.num.natAbs y.den;have l3:=Bg x.den y.num.natAbs;have hyn:y.num ≠ 0:=fun e=>hy0 (JA.1 e)
 have hd:0 < x.den * y.num.natAbs:=KL (XY x.den_nz) (by omega)
 unfold f151 rq;dsimp only
 rw [Kb (by omega) (by omega),A2,Kb (by omega) (by omega),A2,Tc hd (L:=2 * L + 1) (by omega) (by omega) hL hn,A2,Aek hy0];rfl

theorem B3g {n L:Nat} {x y:Rat} (hx:Sz x L) (hy:Sz y L) (hy0:y ≠ 0) (hL:2 * L + 1 <= 1099511627000) (hn:28 * (2 * L + 1) + 10040 <= n):f223 n (rq x) (rq y) = some (rq (x / y)):=by
 obtain ⟨x1,x2⟩:=hx;obtain ⟨y1,y2⟩:=hy;have l1:=Bg x.num.natAbs y.den;have l3:=Bg x.den y.num.natAbs;have hyn:y.num ≠ 0:=fun e=>hy0 (JA.1 e)
 have hd:0 < x.den * y.num.natAbs:=KL (XY x.den_nz) (by omega)
 unfold f223 rq;dsimp only
 rw [Kh (by omega) (by omega),A2,Kh (by omega) (by omega),A2,Tw hd (L:=2 * L + 1) (by omega) (by omega) hL hn,A2,Aek hy0];rfl

theorem Axj {n:Nat} {x:Rat}:f152 n (rq x) = some (rq (-x)):=by
 unfold f152 rq;dsimp only;rw [Rat.neg_num,Rat.neg_den,Qbd,Aen];by_cases h:x.num < 0
 . rw [ZH h,QX (show ¬ -x.num < 0 by omega)];rfl
 . rw [QX h]
   have:decide (x.num.natAbs ≠ 0) = decide (-x.num < 0):=decide_eq_decide.2 (by omega)
   rw [this];rfl

theorem B7v {n L:Nat} {x:Rat} (hx:Sz x L) (hL:L <= 1099511627000):f206 n (rq x) = some (rq (-x)):=by
 obtain ⟨x1,x2⟩:=hx;unfold f206 rq;dsimp only
 rw [Rat.neg_num,Rat.neg_den,Qbd,show f195 n (decide (x.num < 0),dg x.num.natAbs,dg x.den) = some (((dg x.num.natAbs).length:Int) == 0) from rfl,A2,Is n (by omega),A2,Is n (by omega),A2,V7]
 by_cases h:x.num < 0
 . rw [ZH h,QX (show ¬ -x.num < 0 by omega)];rfl
 . rw [QX h]
   have:(!decide (x.num.natAbs = 0)) = decide (-x.num < 0):=by
    by_cases h2:x.num.natAbs = 0
    . rw [ZH h2,QX (by omega)];rfl
    . rw [QX h2,ZH (by omega)];rfl
   rw [this];rfl

theorem Af7 {x:Rat} {L:Nat} (h:Sz x L):Sz (-x) L:=by
 unfold Sz at *;rw [Rat.neg_num,Rat.neg_den,Qbd];exact h

theorem Sz.mono {x:Rat} {L M:Nat} (h:Sz x L) (hLM:L <= M):Sz x M:=⟨ZK h.1 hLM,ZK h.2 hLM⟩

theorem B32 {n L:Nat} {x y:Rat} (hx:Sz x L) (hy:Sz y L) (hL:2 * L + 1 <= 1099511627000) (hn:28 * (2 * L + 1) + 10040 <= n):f149 n (rq x) (rq y) = some (rq (x - y)):=by
 unfold f149;rw [Axj,A2,Ana hx (Af7 hy) hL hn,A2,Rat.sub_eq_add_neg]

theorem B30 {n:Nat} {x:Rat}:f145 n (rq x) = some (decide (x = 0)):=by
 unfold f145 rq;dsimp only;rw [V7];congr 1
 exact decide_eq_decide.2 ⟨fun h=>JA.1 (by omega),fun h=>by rw [h];rfl⟩

theorem B3e {n:Nat} {x:Rat}:f195 n (rq x) = some (decide (x = 0)):=by
 unfold f195 rq;dsimp only;rw [V7];congr 1
 exact decide_eq_decide.2 ⟨fun h=>JA.1 (by omega),fun h=>by rw [h];rfl⟩

theorem B35 {r:Rt} (h:Gy r = true):∃ x:Rat,r = rq x /\ Sz x 40:=by
 obtain ⟨s,N,D,rfl,h1,h2,h3,h4⟩:=Ayo h
 have hg:Nat.gcd N D = 1:=by
  unfold Gy at h;simp only [QE,QQ,Bc,QS] at h;exact h.2
 refine ⟨mq s N D,?_,Amt h3 h1 h2⟩;rw [Ajl h3,hg,Nat.div_one,Nat.div_one];congr 1
 cases s with
 | false=>rfl
 | true=>have:=h4 rfl;rw [ZH (by omega)];rfl

theorem B20 {n:Nat} {a:Int} (h:-1000000000 <= a /\ a <= 1000000000) (hn:1048577 <= n):f127 n a = some (decide (a < 0),dg a.natAbs,dg 1):=by
 unfold f127;rw [QI,Jo];by_cases hc:a < 0
 . rw [QL hc,Ad (x:=0 - a) (by omega) (by omega),show 0 - a = (a.natAbs:Int) by omega,Wt (by omega) (by omega),A2,ZH hc]
 . rw [QK hc]
   conv=>lhs;rw [show a = (a.natAbs:Int) by omega]
   rw [Wt (by omega) (by omega),A2,QX hc]

def vq (x:List Rat):List Rt:=x.map rq

def Sv (x:List Rat) (L:Nat):Prop:=∀ a ∈ x,Sz a L

def C0 (acc:Rat):List Rat->List Rat->Rat
 | a :: x,b :: y=>C0 (acc + a * b) x y
 | _,_=>acc

def Cu (x:Rat):Bool:=decide ((dg x.num.natAbs).length <= 40) && decide ((dg x.den).length <= 40)

theorem Ii {x:Rat}:Cu x = true ↔ Sz x 40:=by unfold Cu Sz;simp

@[simp] theorem Lf (x:List Rat):(vq x).length = x.length:=by simp [vq]

theorem Aa8 {x:List Rat} {i:Nat} (h:i < x.length):(vq x).getD i (false,[],[]) = rq (x.getD i 0):=by
 unfold vq;rw [QH,QJ,QH,QN h];rfl

theorem B7s {x:List Rat} {i:Nat} (h:i < x.length):x.drop i = x.getD i 0 :: x.drop (i + 1):=by
 rw [XN h,QH,QN h];rfl

theorem Sv.get {x:List Rat} {L i:Nat} (hs:Sv x L) (h:i < x.length):Sz (x.getD i 0) L:=by
 refine hs _ ?_;rw [QH,QN h];exact JT h

theorem Sv.mono {x:List Rat} {L M:Nat} (h:Sv x L) (hLM:L <= M):Sv x M:=fun a ha=>(h a ha).mono hLM

theorem Ld:Sz 0 1:=by
 refine ⟨?_,?_⟩
 . rw [show (0:Rat).num = 0 from rfl,show (0:Int).natAbs = 0 from rfl,C4];simp
 . rw [show (0:Rat).den = 1 from rfl,Jo];simp

theorem Sy {n:Nat} {x:List Rat} (hl:x.length <= 1048576):∀ (m i:Nat),i <= x.length->x.length < i + m ->
  ∃ r,Gc n m (vq x) (x.length:Int) (i:Int) (fun a=>some a) (fun (_:Unit)=>some (-1)) = some r /\ decide (r >= 0) = !(x.drop i).all Cu
 | 0,i,hi,hm=>by omega
 | m + 1,i,hi,hm=>by
  rw [A9h];unfold Mc;dsimp only;rw [QI];by_cases h:i < x.length
  . rw [QL (by omega),A4 (by simp;omega),QS,Aa8 h,B7s h,YA]
    have e:f130 n (rq (x.getD i 0)) = some (!Cu (x.getD i 0)):=by
     unfold f130 f131 rq Cu;dsimp only;generalize (dg (x.getD i 0).num.natAbs).length = p;generalize (dg (x.getD i 0).den).length = q;rw [QI];by_cases c:p <= 40
     . rw [QL (by omega),A2,ZH c,XT];congr 2;exact decide_eq_decide.2 (by omega)
     . rw [QK (by omega),A2,QX c,Bool.false_and]
    rw [e,A2]
    cases hf:Cu (x.getD i 0) with
    | false=>exact ⟨(i:Int),by simp,by simp⟩
    | true =>
     rw [ZX,ZD,Ad (x:=(i:Int) + 1) (by omega) (by omega),XT]
     exact Sy hl m (i + 1) (by omega) (by omega)
  . rw [QK (by omega),ZC (by omega)]
    exact ⟨-1,rfl,rfl⟩

theorem B3h {n:Nat} {x:List Rat} (hl:x.length <= 1048576) (hn:1048577 <= n):f76 n (vq x) = some (if x.all Cu = true then (vq x,0) else ([],7)):=by
 unfold f76 A17 A0r
 obtain ⟨r,h1,h2⟩:=Sy (n:=n) hl n 0 (by omega) (by omega)
 have h1:Gc n n (vq x) (x.length:Int) 0 _ _ = _:=h1;rw [Lf,h1,A2,A2,h2,ZR]
 cases x.all Cu <;> rfl

def Bq (x:Rat) (N D:Nat):Prop:=x.num.natAbs <= N /\ x.den <= D

def Bv (x:List Rat) (N D:Nat):Prop:=∀ a ∈ x,Bq a N D

theorem Bq.mono {x:Rat} {N D N' D':Nat} (h:Bq x N D) (h1:N <= N') (h2:D <= D'):Bq x N' D':=⟨ZK h.1 h1,ZK h.2 h2⟩

theorem Bv.get {x:List Rat} {N D i:Nat} (hs:Bv x N D) (h:i < x.length):Bq (x.getD i 0) N D:=by
 refine hs _ ?_;rw [QH,QN h];exact JT h

theorem B33 (c:Nat):rq (c:Rat) = (false,dg c,dg 1):=by
 unfold rq
 rw [Rat.num_natCast,Rat.den_natCast,YE,QX (by omega)]

theorem B7f {c:Nat} (hc:c <= 100):Sz (c:Rat) 1:=by
 unfold Sz;rw [Rat.num_natCast,Rat.den_natCast,YE]
 exact ⟨Jj (by omega),Jj (by omega)⟩

theorem A3d {α:Type} {n:Nat} {l:List Int} (hl:l.length <= 1048576) {k0:List Int->Option α}:∀ (m i:Nat) (z:List Int),z.length = l.length - i->i <= l.length->l.length < i + m->Ra n m l (i:Int) (l.take i ++ z) k0 = k0 l
 | 0,i,z,hz,hi,hm=>by omega
 | m + 1,i,z,hz,hi,hm=>by
  rw [Am5];unfold Uu;dsimp only;rw [QI];by_cases h:i < l.length
  . rw [QL (by omega)]
    simp only [QS]
    rw [A4 (by simp;try omega),A4 (by simp [hz];omega),A4 (by simp [hz];omega),Ru h hz,Ad (x:=(i:Int) + 1) (by omega) (by omega)]
    exact A3d hl m (i + 1) _ (by simp [hz];omega) (by omega) (by omega)
  . rw [QK (by omega)]
    obtain rfl:z = []:=XJ (by omega)
    rw [XM (by omega),XA]

theorem Adz {n:Nat} {l:List Int} (hl:l.length <= 1048576) (hn:1048577 <= n):A3f n l = some l:=by
 unfold A3f
 rw [A4 (by simp;try omega)]
 have:=A3d (n:=n) hl (k0:=fun a=>some a) n 0 (List.replicate l.length 0) (by simp) (by omega) (by omega)
 simpa using this

theorem Azc {n:Nat} {x:Rt} (h:Sm x) (hn:1048577 <= n):Akh n x = some x:=by
 unfold Akh;rw [Adz h.1 hn,A2,Adz h.2 hn,A2]

theorem A7m {α:Type} {n:Nat} {l:List Rt} (hl:l.length <= 1048576) (hs:∀ x ∈ l,Sm x) (hn:1048577 <= n) {k0:List Rt->Option α}:∀ (m i:Nat) (z:List Rt),z.length = l.length - i->i <= l.length->l.length < i + m->Wf n m l (i:Int) (l.take i ++ z) k0 = k0 l
 | 0,i,z,hz,hi,hm=>by omega
 | m + 1,i,z,hz,hi,hm=>by
  rw [Aph];unfold Yy;dsimp only;rw [QI];by_cases h:i < l.length
  . rw [QL (by omega)]
    simp only [QS]
    rw [A4 (by simp;try omega),Azc (Sm.get hs i) hn,A2,A4 (by simp [hz];omega),A4 (by simp [hz];omega),Ru h hz,Ad (x:=(i:Int) + 1) (by omega) (by omega)]
    exact A7m hl hs hn m (i + 1) _ (by simp [hz];omega) (by omega) (by omega)
  . rw [QK (by omega)]
    obtain rfl:z = []:=XJ (by omega)
    rw [XM (by omega),XA]

theorem Azr {n:Nat} {l:List Rt} (h:SmL l) (hn:1048577 <= n):Akv n l = some l:=by
 obtain ⟨hl,hs⟩:=h;unfold Akv
 rw [A4 (by simp;try omega)]
 have:=A7m (n:=n) hl hs hn (k0:=fun a=>some a) n 0 (List.replicate l.length Mq) (by simp) (by omega) (by omega)
 simpa using this

def Ee (k:Int):Nat->List Int
 | 0=>[]
 | m + 1=>k :: Ee (k + 1) m

theorem F5:∀ (m:Nat) (k:Int),(Ee k m).length = m
 | 0,_=>rfl
 | m + 1,k=>by simp [Ee,F5 m]

theorem Ab7 {β:Type} {pre r:List β} {x y:β}:(pre ++ x :: r).set pre.length y = pre ++ y :: r:=by
 rw [KB _ _ (QY _)];simp

theorem Auw {β:Type} {pre r:List β} {x d:β}:(pre ++ x :: r).getD pre.length d = x:=by simp

theorem Aux {β:Type} {pre r:List β} {x:β}:pre ++ x :: r = (pre ++ [x]) ++ r:=by simp

theorem A7c {α:Type} {n:Nat} {k0:Int->List Int->Option α}:∀ (r:List Int) (m:Nat) (pre:List Int) (k:Int),pre.length + r.length <= 1048576->r.length < m->0 <= k->k + r.length <= 1152921504606846976 ->
  Vv n m k (pre.length:Int) (pre ++ r) k0 = k0 (k + r.length) (pre ++ Ee k r.length)
 | [],m + 1,pre,k,hN,hm,h0,hk=>by
  rw [A7e];unfold Py
  rw [QI,QK (by simp)]
  simp [Ee]
 | x :: r,m + 1,pre,k,hN,hm,h0,hk=>by
  simp only [ZA] at hN hm hk;rw [A7e];unfold Py
  rw [QI,QL (by simp;omega),A4 (by simp;omega),A4 (by simp)]
  rw [QS,Ab7,Ad (x:=k + 1) (by omega) (by omega),Ad (x:=(pre.length:Int) + 1) (by omega) (by omega),Aux]
  have ih:=A7c (n:=n) (k0:=k0) r m (pre ++ [k]) (k + 1) (by simp;omega) (by omega) (by omega) (by omega)
  simp only [XH,ZA,ZZ,YD] at ih;refine Eq.trans ih ?_
  rw [show k + 1 + (r.length:Int) = k + ((r.length + 1:Nat):Int) by omega]
  simp [Ee]

theorem A4t {n:Nat} {l:List Int} {k:Int} (hl:l.length <= 1048576) (h0:0 <= k) (hk:k + l.length <= 1152921504606846976) (hn:1048577 <= n):A4u n l k = some (k + l.length,Ee k l.length):=by
 unfold A4u
 exact A7c (n:=n) (k0:=fun z w=>some (z,w)) l n [] k (by simpa using hl) (by omega) h0 hk

theorem Az8 {n:Nat} {k:Int} (hn:1048577 <= n):f87 n [] k = some k:=by
 unfold f87
 obtain ⟨m,rfl⟩:∃ m,n = m + 1:=⟨n - 1,by omega⟩
 rw [Avm];rfl

theorem Abo {α:Type} {n:Nat} {l:List Int} {k0 k1:Int->Option α} (hl:l.length <= 1048576):∀ (q m i:Nat) (k:Int),l.drop i = Ee k q->i + q = l.length->q < m->0 <= k->k + q <= 1152921504606846976 ->
  A2n n m l k (i:Int) k0 k1 = k1 (k + q)
 | 0,m + 1,i,k,hd,hq,hm,h0,hk=>by
  rw [Abq];unfold Vt
  rw [QI,QK (by omega)]
  simp
 | q + 1,m + 1,i,k,hd,hq,hm,h0,hk=>by
  have hlt:i < l.length:=by omega
  have hx:l.drop i = l.getD i 0 :: l.drop (i + 1):=by
   rw [XN hlt];simp [QH,hlt]
  rw [hx] at hd;simp only [Ee,Qat] at hd;rw [Abq];unfold Vt
  rw [QI,QL (by omega),A4 (by simp;omega),QS,hd.1,XV,ZD,Ad (x:=k + 1) (by omega) (by omega),Ad (x:=(i:Int) + 1) (by omega) (by omega)]
  refine (Abo (n:=n) (k0:=k0) (k1:=k1) hl q m (i + 1) (k + 1) hd.2 (by omega) (by omega) (by omega) (by omega)).trans ?_
  rw [show k + 1 + (q:Int) = k + ((q + 1:Nat):Int) by omega]

theorem Aol {n m:Nat} {k:Int} (hm:m <= 1048576) (h0:0 <= k) (hk:k + m <= 1152921504606846976) (hn:1048577 <= n):f88 n (Ee k m) k = some (k + m):=by
 unfold f88
 exact Abo (n:=n) (k0:=fun z=>some z) (k1:=fun z=>some z) (by rw [F5];exact hm) m n 0 k rfl (by rw [F5];omega) (by omega) h0 hk

def Ce:List Rt->Int->Int × List Rt
 | [],k=>(k,[])
 | x :: r,k=>((Ce r (k + 1 + x.2.1.length + x.2.2.length)).1,(Int.tmod k 3 == 0,Ee (k + 1) x.2.1.length,Ee (k + 1 + x.2.1.length) x.2.2.length) :: (Ce r (k + 1 + x.2.1.length + x.2.2.length)).2)

theorem Ji:∀ (l:List Rt) (k:Int),(Ce l k).2.length = l.length
 | [],_=>rfl
 | x :: r,k=>by simp [Ce,Ji r]

theorem Yi:∀ (l:List Rt) (k:Int),k <= (Ce l k).1
 | [],k=>JV k
 | x :: r,k=>by have:=Yi r (k + 1 + x.2.1.length + x.2.2.length);simp only [Ce];omega

theorem A7j {α:Type} {n:Nat} (hn:1048577 <= n) {k0:Int->List Rt->Option α}:∀ (r:List Rt) (m:Nat) (pre:List Rt) (k:Int),pre.length + r.length <= 1048576->(∀ x ∈ r,Sm x)->r.length < m->0 <= k->k + 2097153 * r.length <= 1125899906842624 ->
  O9 n m k (pre.length:Int) (pre ++ r) k0 = k0 (Ce r k).1 (pre ++ (Ce r k).2)
 | [],m + 1,pre,k,hN,hs,hm,h0,hk=>by
  rw [A7l];unfold Q5
  rw [QI,QK (by simp)]
  simp [Ce]
 | x :: r,m + 1,pre,k,hN,hs,hm,h0,hk=>by
  simp only [ZA] at hN hm hk;obtain ⟨s,a,b⟩:=x
  obtain ⟨h1,h2⟩:=hs (s,a,b) (by simp)
  simp only at h1 h2
  have ih:=fun y=>A7j hn (k0:=k0) r m (pre ++ [y]) (k + 1 + a.length + b.length) (by simp;omega) (fun z hz=>hs z (by simp [hz])) (by omega) (by omega) (by omega)
  simp only [XH,ZA,ZZ,YD] at ih
  have ea:∀ (l:List Int) (k:Int),l.isEmpty = true->Ee k l.length = l /\ k + (l.length:Int) = k:=fun l k h=>by
   rw [YI] at h;subst h;simp [Ee]
  rw [A7l];unfold Q5
  rw [QI,QL (by simp;omega),A4 (by simp;omega),A4 (by simp)]
  simp only [QS,Ab7,Auw]
  have g1:∀ (y:Rt),(decide (0 <= (pre.length:Int)) && decide ((pre.length:Int) < ((pre ++ y :: r).length:Int))) = true:=fun y=>by simp;omega
  have g2:∀ (y:Rt),decide (pre.length < (pre ++ y :: r).length) = true:=fun y=>by simp
  have w1:W (k + 1) = k + 1:=Ad (by omega) (by omega)
  have w2:W ((pre.length:Int) + 1) = ((pre.length + 1:Nat):Int):=by rw [Ad (by omega) (by omega)];rfl
  simp only [g1,g2,Ih,w1,w2,Az8 hn,A4t h1 (show 0 <= k + 1 by omega) (show k + 1 + (a.length:Int) <= 1152921504606846976 by omega) hn,A2,F5,XD,XU]
  have fin:∀ (y:Rt),O9 n m (k + 1 + a.length + b.length) ((pre.length + 1:Nat):Int) (pre ++ y :: r) k0 = k0 (Ce r (k + 1 + a.length + b.length)).1 (pre ++ y :: (Ce r (k + 1 + a.length + b.length)).2):=fun y=>by
   have:=ih y;rw [ZM,ZM] at this;exact this
  show _ = k0 (Ce r (k + 1 + a.length + b.length)).1 (pre ++ (Int.tmod k 3 == 0,Ee (k + 1) a.length,Ee (k + 1 + a.length) b.length) :: (Ce r (k + 1 + a.length + b.length)).2);rw [<- fin]
  cases ha:a.isEmpty with
  | true =>
   obtain rfl:=YI.1 ha
   cases hb:b.isEmpty with
   | true =>
    obtain rfl:=YI.1 hb;simp [Ee]
   | false =>
    simp only [XO,ZD,A4t h2 (show 0 <= k + 1 by omega) (show k + 1 + (b.length:Int) <= 1152921504606846976 by omega) hn,A2,F5,XD,XU,Ih]
    simp [Ee]
  | false =>
   cases hb:b.isEmpty with
   | true =>
    obtain rfl:=YI.1 hb;simp [Ee]
   | false =>
    simp only [ZD,A4t h2 (show 0 <= k + 1 + (a.length:Int) by omega) (show k + 1 + (a.length:Int) + (b.length:Int) <= 1152921504606846976 by omega) hn,A2,F5,XD,XU,Ih]

theorem Ahj {n:Nat} {l:List Rt} {k:Int} (hl:SmL l) (h0:0 <= k) (hk:k <= 8796093022208) (hn:1048577 <= n):A5e n l k = some (Ce l k):=by
 unfold A5e
 refine (A7j (n:=n) hn (k0:=fun z w=>some (z,w)) l n [] k (by simpa using hl.1) hl.2 (by have:=hl.1;omega) h0 ?_).trans ?_
 . have:=hl.1;omega
 . simp

theorem Ac6 {α:Type} {n:Nat} {l:List Rt} {k0 k1:Int->Option α} (hl:l.length <= 1048576) (hn:1048577 <= n):∀ (r:List Rt) (m i:Nat) (k:Int),l.drop i = (Ce r k).2->i + r.length = l.length->(∀ x ∈ r,Sm x)->r.length < m->0 <= k->k + 2097153 * r.length <= 1125899906842624 ->
  A2r n m l k (i:Int) k0 k1 = k1 (Ce r k).1
 | [],m + 1,i,k,hd,hq,hs,hm,h0,hk=>by
  rw [Yt];unfold W9
  rw [QI,QK (by simp at hq;omega)]
  rfl
 | x :: r,m + 1,i,k,hd,hq,hs,hm,h0,hk=>by
  simp only [ZA] at hq hm hk
  obtain ⟨h1,h2⟩:=hs x (by simp)
  have hlt:i < l.length:=by omega
  have hx:l.drop i = l.getD i (false,[],[]) :: l.drop (i + 1):=by
   rw [XN hlt];simp [QH,hlt]
  rw [hx] at hd;simp only [Ce,Qat] at hd;rw [Yt];unfold W9
  rw [QI,QL (by omega),A4 (by simp;omega)]
  simp only [QS,hd.1,BEq.rfl,ZX,ZD]
  rw [A4 (by simp;omega),Ad (x:=k + 1) (by omega) (by omega),Aol h1 (by omega) (by omega) hn,A2,QI,QK (by omega),A4 (by simp;omega),Aol h2 (by omega) (by omega) hn,A2,QI,QK (by omega),
   Ad (x:=(i:Int) + 1) (by omega) (by omega)]
  exact Ac6 (n:=n) (k0:=k0) (k1:=k1) hl hn r m (i + 1) _ hd.2 (by omega) (fun z hz=>hs z (by simp [hz])) (by omega) (by omega) (by omega)

theorem B4a {n:Nat} {l:List Rt} {k:Int} (hl:SmL l) (h0:0 <= k) (hk:k <= 8796093022208) (hn:1048577 <= n):f47 n (Ce l k).2 k = some (Ce l k).1:=by
 unfold f47;have:=hl.1
 exact Ac6 (n:=n) (k0:=fun z=>some z) (k1:=fun z=>some z) (by rw [Ji];exact hl.1) hn l n 0 k rfl (by rw [Ji];omega) hl.2 (by omega) h0 (by omega)

theorem Azp {n:Nat} {k:Int} (hn:1048577 <= n):f37 n [] k = some k:=by
 unfold f37
 obtain ⟨m,rfl⟩:∃ m,n = m + 1:=⟨n - 1,by omega⟩
 rw [Aw3];rfl

theorem Azj {n:Nat} {k:Int} (hn:1048577 <= n):f47 n [] k = some k:=by
 unfold f47
 obtain ⟨m,rfl⟩:∃ m,n = m + 1:=⟨n - 1,by omega⟩
 rw [Yt];rfl

theorem A8q {n:Nat} {l:List Int} (h:l.length <= 17592186044416):Oy n l = some (if l = [] then .inr () else .inl l):=by
 unfold Oy Kl
 cases l with
 | nil=>rfl
 | cons a r =>
  simp only [List.isEmpty_cons,ZD,XI,Ih]
  rw [A4 (by simp at h ⊢;omega)]
  rfl

def U0:List Int->Int
 | []=>0
 | c :: r=>if c = 0 then U0 r else c

theorem Ac4 {n:Nat} {l:List Int} (hl:l.length <= 1048576):∀ (m i:Nat),i <= l.length->l.length < i + m->A2q n m l (l.length:Int) (i:Int) (fun z=>some z) (fun (_:Unit)=>some 0) = some (U0 (l.drop i))
 | 0,i,hi,hm=>by omega
 | m + 1,i,hi,hm=>by
  rw [Avy];unfold A58;rw [QI];by_cases h:i < l.length
  . have hx : l.drop i = l.getD i 0 :: l.drop (i + 1) := by
     rw [XN h];simp [QH,h]
    rw [QL (by omega),A4 (by simp;try omega),QS,hx]
    unfold U0;by_cases c:l.getD i 0 = 0
    . rw [c,XV,ZD,QL rfl,Ad (x:=(i:Int) + 1) (by omega) (by omega)]
      exact Ac4 hl m (i + 1) (by omega) (by omega)
    . rw [QK c,show (l.getD i 0 != 0) = true by rw [bne_iff_ne];exact c,XO]
  . rw [QK (by omega),ZC (by omega)];rfl

theorem U5 {n:Nat} {l:List Int} (hl:l.length <= 1048576) (hn:1048577 <= n):f64 n l = some (U0 l):=by
 unfold f64
 have:=Ac4 (n:=n) hl n 0 (by omega) (by omega)
 simpa using this

def Av0 (L:List (List Rt)):Bool:=L.any fun v=>decide (4096 < v.length)

theorem Aze {n:Nat} {L:List (List Rt)} (hl:L.length <= 1048576) (hn:1048577 <= n):f65 n L = some (if Av0 L = true then 2 else 0):=by
 obtain ⟨c,h1,h2⟩:=B44 (n:=n) hl hn;rw [h1];rcases h2 with ⟨rfl,h⟩ | ⟨rfl,v,hv,h⟩
 . rw [QK];intro c;obtain ⟨v,hv,h3⟩:=ZW.1 c;have:=h v hv;have:=JD h3;omega
 . rw [QL];exact ZW.2 ⟨v,hv,ZH h⟩

theorem Axf:∀ {l:List Rt},l.all Gy = true->∃ X:List Rat,l = vq X /\ Sv X 40
 | [],_=>⟨[],rfl,fun a h=>by simp at h⟩
 | r :: l,h=>by
  simp only [YA,QE] at h;obtain ⟨x,rfl,hx⟩:=B35 h.1;obtain ⟨X,rfl,hX⟩:=Axf h.2
  exact ⟨x :: X,rfl,fun a ha=>by rcases QT.1 ha with rfl | ha;exact hx;exact hX a ha⟩

theorem B7a {x:Rat}:(rq x).2.2 ≠ []:=by
 unfold rq;dsimp only;intro h;have h2:=V7 (m:=x.den);rw [h] at h2;have h3:=x.den_nz;rw [QX h3] at h2
 cases h2

theorem Azf {n:Nat} {x:Rat} (h:Sz x 1000000):Akn n (rq x) = some (if (rq x).2.1 = [] then .inr (.inl ((rq x).1,(),(rq x).2.2)) else .inl (rq x)):=by
 obtain ⟨h1,h2⟩:=h;have h1:(rq x).2.1.length <= 1000000:=h1;have h2:(rq x).2.2.length <= 1000000:=h2;unfold Akn
 rw [A8q (by omega),A2,A8q (by omega),A2]
 rw [QK B7a];by_cases c:(rq x).2.1 = []
 . rw [QL c,QL c];rfl
 . rw [QK c,QK c];rfl

theorem It {n:Nat} {b:Bool} {c:Int}:f114 n b c = some (if b = true then 0 else c):=by
 unfold f114;cases b <;> rfl

def B94 (X:List Rat) (k i:Nat):List Rat:=(X.drop (i * k)).take k

def mvR (A X:List Rat):List Rat:=(List.range X.length).map fun i=>C0 0 (B94 A X.length i) X

def Aa4 (w:Nat) (row:List Rt) (v:Nat->Rat):Prop:=row.length = w /\ ∀ c,c < w->row.getD c Mq = rq (v c)

def Aff (m w:Nat) (R:List (List Rt)) (M:Nat->Nat->Rat):Prop:=R.length = m /\ ∀ r,r < m->Aa4 w (R.getD r []) (M r)

def SzM (M:Nat->Nat->Rat) (L:Nat):Prop:=∀ r c,Sz (M r c) L

theorem Az4 {n L:Nat} {x:Rat} (hx:Sz x L) (hL:L <= 1099511627000):f61 n (rq x) = some (rq x):=by
 obtain ⟨x1,x2⟩:=hx;unfold f61 rq;dsimp only
 rw [Is n (by omega),A2,Is n (by omega),A2]

theorem SzM.mono {M:Nat->Nat->Rat} {L L':Nat} (h:SzM M L) (hL:L <= L'):SzM M L':=fun r c=>(h r c).mono hL

theorem Aa4.congr {w:Nat} {row:List Rt} {u v:Nat->Rat} (h:Aa4 w row u) (e:∀ c,c < w->u c = v c):Aa4 w row v:=⟨h.1,fun c hc=>by rw [h.2 c hc,e c hc]⟩

theorem Aff.congr {m w:Nat} {R:List (List Rt)} {M M':Nat->Nat->Rat} (h:Aff m w R M) (e:∀ r c,r < m->c < w->M r c = M' r c):Aff m w R M':=⟨h.1,fun r hr=>(h.2 r hr).congr fun c hc=>e r c hr hc⟩

structure A6i (m:Nat) (a b:List Rt) (M:Nat->Nat->Rat):Prop where
 la:a.length = m * m
 lb:b.length = m
 at_:∀ r c,r < m->c < m->a.getD (r * m + c) Mq = rq (M r c)
 bt:∀ r,r < m->b.getD r Mq = rq (M r m)

theorem A6i.congr {m:Nat} {a b:List Rt} {M M':Nat->Nat->Rat} (h:A6i m a b M) (e:∀ r c,r < m->c <= m->M r c = M' r c):A6i m a b M' :=
 ⟨h.la,h.lb,fun r c hr hc=>by rw [h.at_ r c hr hc,e r c hr (by omega)],fun r hr=>by rw [h.bt r hr,e r m hr (QY _)]⟩

theorem B7e {L:Nat} (h:1 <= L):Sz (1:Rat) L:=(B7f (c:=1) (by omega)).mono h

theorem Anc (a:Int):rq (a:Rat) = (decide (a < 0),dg a.natAbs,dg 1):=by
 unfold rq;rw [Rat.num_intCast,Rat.den_intCast]

theorem Anb {n:Nat} {a:Int} (h:-1000000000 <= a /\ a <= 1000000000) (hn:1048577 <= n):f127 n a = some (rq (a:Rat)):=by rw [B20 h hn,Anc]

theorem Ak1 {n:Nat} {x:Rat}:f131 n (rq x) = some (Cu x):=by
 unfold f131 Cu rq;dsimp only;rw [QI];by_cases h:(dg x.num.natAbs).length <= 40
 . rw [QL (by omega),ZH h,XT]
   by_cases c:(dg x.den).length <= 40
   . rw [ZH c,ZH (by omega)]
   . rw [QX c,QX (by omega)]
 . rw [QK (by omega),QX h];rfl

theorem B7q {n:Nat} {x:Rat}:f154 n (rq x) = some (Cu x):=by
 unfold f154 Cu rq;dsimp only;rw [QI];by_cases h:(dg x.num.natAbs).length <= 40
 . rw [QL (by omega),ZH h,XT]
   by_cases c:(dg x.den).length <= 40
   . rw [ZH c,ZH (by omega)]
   . rw [QX c,QX (by omega)]
 . rw [QK (by omega),QX h];rfl

theorem Ft {x y:Rat} {L K:Nat} (hx:Sz x L) (hy:Sz y K):Sz (x * y) (L + K + 1):=by
 obtain ⟨x1,x2⟩:=hx;obtain ⟨y1,y2⟩:=hy;have l1:=Bg x.num.natAbs y.num.natAbs;have l3:=Bg x.den y.den;rw [Ab6]
 exact Amt (KL (XY x.den_nz) (XY y.den_nz)) (by omega) (by omega)

theorem Aja {x y:Rat} {L K:Nat} (hx:Sz x L) (hy:Sz y K) (hy0:y ≠ 0):Sz (x / y) (L + K + 1):=by
 obtain ⟨x1,x2⟩:=hx;obtain ⟨y1,y2⟩:=hy;have l1:=Bg x.num.natAbs y.den;have l3:=Bg x.den y.num.natAbs;have hyn:y.num ≠ 0:=fun e=>hy0 (JA.1 e);rw [Aek hy0]
 exact Amt (KL (XY x.den_nz) (by omega)) (by omega) (by omega)

def B95 (M:Nat->Nat->Rat) (m i:Nat):List Rat:=(List.range m).map (M i)

def bsV (M:Nat->Nat->Rat) (m i:Nat) (X:List Rat):Rat:=(M i m - C0 0 (B95 M m i) X) / M i i

def bs (M:Nat->Nat->Rat) (m:Nat):Nat->List Rat->List Rat
 | 0,X=>X
 | i + 1,X=>bs M m i (X.set i (bsV M m i X))

theorem Gv:∀ (x y:List Rat) (a:Rat),C0 a x y = a + C0 0 x y
 | [],_,a=>by simp [C0,Rat.add_zero]
 | p :: x,[],a=>by simp [C0,Rat.add_zero]
 | p :: x,q :: y,a=>by
  simp only [C0];rw [Gv x y (a + p * q),Gv x y (0 + p * q)];grind

theorem A90:∀ (x y:List Rat),C0 0 x y = C0 0 y x
 | [],[]=>rfl
 | [],_ :: _=>rfl
 | _ :: _,[]=>rfl
 | p :: x,q :: y=>by
  simp only [C0];rw [Gv,Gv y,A90 x y];grind

theorem Rp:∀ (x:List Rat),0 <= C0 0 x x
 | []=>by simp only [C0];exact Rat.le_refl
 | p :: x=>by
  have:=Rp x
  have h2:(0:Rat) <= p * p:=by
   rcases Rat.le_total (a:=0) (b:=p) with h | h
   . exact Qbe h h
   . have:=Qbe (a:=-p) (b:=-p) (by grind) (by grind)
     grind
  simp only [C0];rw [Gv];grind

theorem Ajh (p:Rat):0 <= p * p:=by
 rcases Rat.le_total (a:=0) (b:=p) with h | h
 . exact Qbe h h
 . have:=Qbe (a:=-p) (b:=-p) (by grind) (by grind)
   grind

theorem Aej:∀ {x:List Rat},C0 0 x x = 0->∀ i,x.getD i 0 = 0
 | [],_,i=>by simp
 | p :: x,h,i=>by
  simp only [C0] at h;rw [Gv] at h;have h1:=Rp x;have h2:=Ajh p
  have h3:C0 0 x x = 0:=by grind
  have h4:p * p = 0:=by grind
  have h5:p = 0:=by rcases Rat.mul_eq_zero.1 h4 with h | h <;> exact h
  cases i with
  | zero=>simpa using h5
  | succ i=>simpa using Aej h3 i

theorem A8z:∀ {x:List Rat} (z:List Rat),(∀ i,x.getD i 0 = 0)->C0 0 x z = 0
 | [],_,_=>rfl
 | p :: x,[],_=>rfl
 | p :: x,c :: z,h=>by
  have h0:p = 0:=by simpa using h 0
  have h1:=A8z (x:=x) z fun i=>by simpa using h (i + 1)
  simp only [C0];rw [Gv,h1,h0];grind

structure Pd (A:List Rat) (k:Nat):Prop where
 sa:∀ X Y,X.length = k->Y.length = k->C0 0 (mvR A X) Y = C0 0 X (mvR A Y)
 pd:∀ X,X.length = k->C0 0 X X <= C0 0 X (mvR A X)

structure CgI (A R D:List Rat) (k:Nat):Prop where
 lR:R.length = k
 lD:D.length = k
 i1:C0 0 R D = C0 0 R R
 i2:C0 0 R (mvR A D) = C0 0 D (mvR A D)

theorem CgI.p {A R D:List Rat} {k:Nat} (h:CgI A R D k) (hA:Pd A k) (hr:C0 0 R R ≠ 0):C0 0 D (mvR A D) ≠ 0:=by
 intro e;have h1:=hA.pd D h.lD;have h2:=Rp D
 have h3:C0 0 D D = 0:=by grind
 have h4:=A8z R (Aej h3);rw [A90,h.i1] at h4;exact hr h4

theorem A3p {α:Type} {n:Nat} {e:List Nod} (hN:e.length <= 1048576) {k0:List Nod->Option α}:∀ (r:List Nod) (m:Nat) (out:List Nod),e.drop out.length = r->out.length + r.length = e.length->r.length < m ->
  (∀ j,j < out.length->out.getD j (0,0,0,0) = e.getD j (0,0,0,0))->O8 n m e (out.length:Int) (out ++ List.replicate r.length (0,0,0,0)) k0 = k0 e
 | [],m + 1,out,hd,hl,hm,ho=>by
  rw [A7i];unfold Q1;simp only [ZZ] at hl
  rw [QI,QK (by omega)]
  congr 1;simp only [ZZ,List.replicate_zero,XA]
  apply List.ext_getElem (by omega)
  intro j h1 h2;have:=ho j h1;simpa [QH,h1,h2] using this
 | x :: r,m + 1,out,hd,hl,hm,ho=>by
  obtain ⟨hx,hlt,hd'⟩:=O4 (d:=(0,0,0,0)) hd;rw [A7i];unfold Q1;simp only [ZA] at hl hm
  rw [QI,QL (by omega),A4 (by simp;omega),Ad (by omega) (by omega)]
  simp only [QS,hx];unfold f138
  rw [A2,A4 (by simp;omega),A4 (by simp)]
  have es:(out ++ List.replicate (x :: r).length (0,0,0,0)).set out.length x = (out ++ [x]) ++ List.replicate r.length (0,0,0,0):=by
   rw [KB _ _ (QY _)];simp [Qba]
  rw [es]
  have ih:=A3p hN r m (out ++ [x]) (by simpa using hd') (by simp;omega) (by omega) (fun j hj=>by
   simp only [XH,ZA,ZZ] at hj;rcases XF j out.length with h | h
   . rw [Cx h];exact ho j h
   . obtain rfl:j = out.length:=by omega
     rw [Cy,hx]) (n:=n) (k0:=k0)
  simp only [XH,ZA,ZZ,YD] at ih;exact ih

theorem B3u {n:Nat} {e:List Nod} (hN:e.length <= 1048576) (hn:1048577 <= n):f85 n e e = some true:=by
 unfold f85;simp only [XV,ZD]
 exact A6w (n:=n) hN (k0:=fun z=>some z) (k1:=fun _=>some true) n 0 (by omega) (by omega)

theorem B4d {n:Nat} {e:List Nod} {o:Int} (hN:e.length <= 1048576) (hn:1048577 <= n):f45 n (e,o) (e,o) = some true:=by
 unfold f45;simp [B3u hN hn]

def mkL (k:Int):Nat->List Nod
 | 0=>[]
 | m + 1=>(k,k + 1,k + 2,k + 3) :: mkL (k + 4) m

theorem Vj:∀ (m:Nat) (k:Int),(mkL k m).length = m
 | 0,_=>rfl
 | m + 1,k=>by simp [mkL,Vj m]

theorem gds {l:List Nod} {i:Nat} {a d:Nod} (h:i < l.length):(l.set i a).getD i d = a:=by
 simp [QH,h]

theorem Ajx {α:Type} {n:Nat} {b:List Nod} {i:Nat} {k:Int} (hi:i < b.length) (hN:b.length <= 1048576) (hk:0 <= k /\ k < 1000000000) {f} {k0:Int->List Nod->Option α} :
  Lt n k (i:Int) b f k0 = f (k + 4) ((i:Int) + 1) (b.set i (k,k + 1,k + 2,k + 3)):=by
 unfold Lt
 have w1:W (k + 1) = k + 1:=Ad (by omega) (by omega)
 have w2:W (k + 1 + 1) = k + 2:=by rw [Ad (by omega) (by omega)];omega
 have w3:W (k + 2 + 1) = k + 3:=by rw [Ad (by omega) (by omega)];omega
 have w4:W (k + 3 + 1) = k + 4:=by rw [Ad (by omega) (by omega)];omega
 simp only [w1,w2,w3,w4,QS,Qar,gds hi,JK]
 have g1:(decide (0 <= (i:Int)) && decide ((i:Int) < (b.length:Int))) = true:=by simp;omega
 have g2:decide (i < b.length) = true:=by simpa using hi
 rw [QI,QL (by omega)]
 simp only [g1,g2,Ih]
 rw [Ad (by omega) (by omega)]

theorem A70 {α:Type} {n:Nat} {k0:Int->List Nod->Option α}:∀ (r:List Nod) (m:Nat) (pre:List Nod) (k:Int),pre.length + r.length <= 1048576->r.length < m->0 <= k->k + 4 * r.length < 1000000000 ->
  Vw n m k (pre.length:Int) (pre ++ r) k0 = k0 (k + 4 * r.length) (pre ++ mkL k r.length)
 | [],m + 1,pre,k,hN,hm,h0,hk=>by
  rw [A7g];unfold Lt
  rw [QI,QK (by simp)]
  simp [mkL]
 | x :: r,m + 1,pre,k,hN,hm,h0,hk=>by
  simp only [ZA] at hN hm hk
  rw [A7g,Ajx (by simp) (by simp;omega) ⟨h0,by omega⟩]
  have es:(pre ++ x :: r).set pre.length (k,k + 1,k + 2,k + 3) = (pre ++ [(k,k + 1,k + 2,k + 3)]) ++ r:=by
   rw [KB _ _ (QY _)];simp
  rw [es]
  have ih:=A70 (n:=n) (k0:=k0) r m (pre ++ [(k,k + 1,k + 2,k + 3)]) (k + 4) (by simp;omega) (by omega) (by omega) (by omega)
  simp only [XH,ZA,ZZ,YD] at ih;refine Eq.trans ih ?_
  rw [show k + 4 + 4 * (r.length:Int) = k + 4 * ((r.length + 1:Nat):Int) by omega]
  simp [mkL]

theorem Aza {n:Nat} {e:List Nod} (hN:e.length <= 1048576) (hn:1048577 <= n):Akd n e 1 = some (1 + 4 * (e.length:Int),mkL 1 e.length):=by
 unfold Akd
 exact A70 (n:=n) (k0:=fun z w=>some (z,w)) e n [] 1 (by simpa using hN) (by omega) (by omega) (by omega)

theorem Azl {n:Nat} {e:List Nod} {o:Int} (hN:e.length <= 1048576) (hn:1048577 <= n):Ac8 n (e,o) 1 = some (1 + 4 * (e.length:Int),mkL 1 e.length):=by
 unfold Ac8
 rw [Aza hN hn,A2,A4 (by simp [Vj])]

structure Q4 where
 f:Rat
 a:Rat
 v:Rat
 c:Rat

theorem Q4.ext' {p q:Q4} (h1:p.f = q.f) (h2:p.a = q.a) (h3:p.v = q.v) (h4:p.c = q.c):p = q:=by
 cases p;cases q;simp only at h1 h2 h3 h4;rw [h1,h2,h3,h4]

def Q4.cst (k:Rat):Q4:=⟨k,0,0,0⟩

def Q4.add (p q:Q4):Q4:=⟨p.f + q.f,p.a + q.a,p.v + q.v,p.c + q.c⟩

def Q4.neg (p:Q4):Q4:=⟨-p.f,-p.a,-p.v,-p.c⟩

def Q4.mul (p q:Q4):Q4:=⟨p.f * q.f,p.a * q.f + p.f * q.a,p.v * q.f + p.f * q.v,p.c * q.f + p.f * q.c + (p.a * q.v + p.v * q.a)⟩

def Q4.inv (p:Q4):Q4:=⟨1 / p.f,-(p.a * (1 / p.f * (1 / p.f))),-(p.v * (1 / p.f * (1 / p.f))),2 * (1 / p.f * (1 / p.f) * (1 / p.f)) * (p.a * p.v) - p.c * (1 / p.f * (1 / p.f))⟩

def Q4.pow (p:Q4):Nat->Q4
 | 0=>cst 1
 | n + 1=>mul (pow p n) p

def Q4.d1 (f:Rat):Nat->Rat
 | 0=>0
 | n + 1=>f ^ n * ((n + 1:Nat):Rat)

def Q4.d2 (f:Rat):Nat->Rat
 | 0=>0
 | 1=>0
 | n + 2=>f ^ n * (((n + 2) * (n + 1):Nat):Rat)

theorem Q4.d1_suc (f:Rat) (n:Nat):d1 f (n + 1) = d1 f n * f + f ^ n:=by
 cases n with
 | zero=>simp [d1];grind
 | succ n=>simp only [d1,Rat.pow_succ];push_cast;grind

theorem Q4.d2_suc (f:Rat) (n:Nat):d2 f (n + 1) = d2 f n * f + 2 * d1 f n:=by
 match n with
 | 0=>simp [d2,d1];grind
 | 1=>simp [d2,d1];grind
 | n + 2=>simp only [d2,d1,Rat.pow_succ];push_cast;grind

theorem Q4.pow_eq (p:Q4):∀ n,pow p n = ⟨p.f ^ n,d1 p.f n * p.a,d1 p.f n * p.v,d2 p.f n * p.a * p.v + d1 p.f n * p.c⟩
 | 0=>by simp [pow,cst,d1,d2];grind
 | n + 1=>by
  rw [pow,pow_eq p n];simp only [mul];refine ext' ?_ ?_ ?_ ?_
  . simp only [Rat.pow_succ]
  . simp only [d1_suc];grind
  . simp only [d1_suc];grind
  . simp only [d1_suc,d2_suc];grind

structure Z4 where
 f:Int
 a:Int
 v:Int
 c:Int

def Z4.q (p:Z4):Q4:=⟨(p.f:Rat),(p.a:Rat),(p.v:Rat),(p.c:Rat)⟩

def Z4.n (p:Z4):Nat:=p.f.natAbs + p.a.natAbs + p.v.natAbs + p.c.natAbs

def Z4.add (p q:Z4):Z4:=⟨p.f + q.f,p.a + q.a,p.v + q.v,p.c + q.c⟩

def Z4.mul (p q:Z4):Z4:=⟨p.f * q.f,p.a * q.f + p.f * q.a,p.v * q.f + p.f * q.v,p.c * q.f + p.f * q.c + (p.a * q.v + p.v * q.a)⟩

theorem Z4.q_mul (p q:Z4):(mul p q).q = Q4.mul p.q q.q:=by
 refine Q4.ext' ?_ ?_ ?_ ?_ <;> simp only [Z4.q,mul,Q4.mul] <;> push_cast <;> rfl

theorem Z4.q_add (p q:Z4):(add p q).q = Q4.add p.q q.q:=by
 refine Q4.ext' ?_ ?_ ?_ ?_ <;> simp only [Z4.q,add,Q4.add] <;> push_cast <;> rfl

theorem Z4.n_add (p q:Z4):(add p q).n <= p.n + q.n:=by
 have h1:=YT p.f q.f;have h2:=YT p.a q.a;have h3:=YT p.v q.v;have h4:=YT p.c q.c;simp only [n,add];omega

theorem Z4.n_mul (p q:Z4):(mul p q).n <= p.n * q.n:=by
 have h2:=YT (p.a * q.f) (p.f * q.a);have h3:=YT (p.v * q.f) (p.f * q.v);have h4:=YT (p.c * q.f + p.f * q.c) (p.a * q.v + p.v * q.a);have h5:=YT (p.c * q.f) (p.f * q.c);have h6:=YT (p.a * q.v) (p.v * q.a);simp only [n,mul,YK,Nat.mul_add,KT] at *;generalize p.f.natAbs * q.f.natAbs = x1 at *;generalize p.a.natAbs * q.f.natAbs = x2 at *;generalize p.f.natAbs * q.a.natAbs = x3 at *;generalize p.v.natAbs * q.f.natAbs = x4 at *;generalize p.f.natAbs * q.v.natAbs = x5 at *;generalize p.c.natAbs * q.f.natAbs = x6 at *;generalize p.f.natAbs * q.c.natAbs = x7 at *;generalize p.a.natAbs * q.v.natAbs = x8 at *;generalize p.v.natAbs * q.a.natAbs = x9 at *;omega

def Dt (q:Q4) (M:Nat):Prop:=∃ P Q:Z4,Q.f ≠ 0 /\ Q4.mul q Q.q = P.q /\ P.n <= M /\ Q.n <= M

theorem Dt.mono {q:Q4} {M N:Nat} (h:Dt q M) (hN:M <= N):Dt q N:=by
 obtain ⟨P,Q,h1,h2,h3,h4⟩:=h;exact ⟨P,Q,h1,h2,ZK h3 hN,ZK h4 hN⟩

theorem Q4.mul_comm (p q:Q4):mul p q = mul q p:=by
 refine ext' ?_ ?_ ?_ ?_ <;> simp only [mul] <;> grind

theorem Q4.mul_assoc (p q r:Q4):mul (mul p q) r = mul p (mul q r):=by
 refine ext' ?_ ?_ ?_ ?_ <;> simp only [mul] <;> grind

theorem Q4.add_mul (p q r:Q4):mul (add p q) r = add (mul p r) (mul q r):=by
 refine ext' ?_ ?_ ?_ ?_ <;> simp only [mul,add] <;> grind

theorem Q4.neg_mul (p r:Q4):mul (neg p) r = neg (mul p r):=by
 refine ext' ?_ ?_ ?_ ?_ <;> simp only [mul,neg] <;> grind

theorem Q4.inv_mul (p:Q4) (h:p.f ≠ 0):mul (inv p) p = cst 1:=by
 have h1:1 / p.f * p.f = 1:=by grind
 generalize hr:1 / p.f = r at h1;refine ext' ?_ ?_ ?_ ?_ <;> simp only [mul,inv,cst,hr] <;> grind

theorem Q4.one_mul (p:Q4):mul (cst 1) p = p:=by
 refine ext' ?_ ?_ ?_ ?_ <;> simp only [mul,cst] <;> grind

theorem Q4.mul4 (p q r s:Q4):mul (mul p q) (mul r s) = mul (mul p r) (mul q s):=by
 rw [mul_assoc,<- mul_assoc q,mul_comm q r,mul_assoc r,<- mul_assoc]

theorem Ab5 {a b:Int} (ha:a ≠ 0) (hb:b ≠ 0):a * b ≠ 0:=by
 intro h;rcases Int.mul_eq_zero.1 h with h | h
 . exact ha h
 . exact hb h

theorem Dt.mul {p q:Q4} {M N:Nat} (hp:Dt p M) (hq:Dt q N):Dt (Q4.mul p q) (M * N):=by
 obtain ⟨P,Q,h1,h2,h3,h4⟩:=hp;obtain ⟨R,S,g1,g2,g3,g4⟩:=hq;refine ⟨Z4.mul P R,Z4.mul Q S,Ab5 h1 g1,?_,ZK (Z4.n_mul _ _) (XW h3 g3),ZK (Z4.n_mul _ _) (XW h4 g4)⟩;rw [Z4.q_mul,Z4.q_mul,Q4.mul4,h2,g2]

theorem Dt.add {p q:Q4} {M N:Nat} (hp:Dt p M) (hq:Dt q N):Dt (Q4.add p q) (2 * (M * N)):=by
 obtain ⟨P,Q,h1,h2,h3,h4⟩:=hp;obtain ⟨R,S,g1,g2,g3,g4⟩:=hq;have e1:=XW h3 g4;have e2:=XW h4 g3;have e3:=XW h4 g4;have n1:=Z4.n_mul P S;have n2:=Z4.n_mul R Q;have n3:=Z4.n_mul Q S;have n4:=Z4.n_add (Z4.mul P S) (Z4.mul R Q);rw [KV R.n] at n2
 refine ⟨Z4.add (Z4.mul P S) (Z4.mul R Q),Z4.mul Q S,Ab5 h1 g1,?_,by omega,by omega⟩
 rw [Z4.q_add,Z4.q_mul,Z4.q_mul,Z4.q_mul,Q4.add_mul,<- h2,<- g2,Q4.mul_assoc,Q4.mul_assoc,Q4.mul_comm Q.q S.q]

theorem Dt.neg {p:Q4} {M:Nat} (hp:Dt p M):Dt (Q4.neg p) M:=by
 obtain ⟨P,Q,h1,h2,h3,h4⟩:=hp
 refine ⟨⟨-P.f,-P.a,-P.v,-P.c⟩,Q,h1,?_,by simpa [Z4.n] using h3,h4⟩
 rw [Q4.neg_mul,h2];refine Q4.ext' ?_ ?_ ?_ ?_ <;> simp only [Q4.neg,Z4.q] <;> push_cast <;> rfl

theorem Dt.inv {p:Q4} {M:Nat} (hp:Dt p M) (h0:p.f ≠ 0):Dt (Q4.inv p) M:=by
 obtain ⟨P,Q,h1,h2,h3,h4⟩:=hp;refine ⟨Q,P,?_,?_,h4,h3⟩
 . have:p.f * (Q.f:Rat) = (P.f:Rat):=XR Q4.f h2;intro h;rw [h] at this
   have hq:(Q.f:Rat) ≠ 0:=by simpa using h1
   grind
 . rw [<- h2,<- Q4.mul_assoc,Q4.inv_mul p h0,Q4.one_mul]

theorem Dt.one:Dt (Q4.cst 1) 1:=⟨⟨1,0,0,0⟩,⟨1,0,0,0⟩,by decide,by
 refine Q4.ext' ?_ ?_ ?_ ?_ <;> simp only [Q4.mul,Q4.cst,Z4.q] <;> simp [Rat.add_zero],by decide,by decide⟩

theorem Dt.cst (k:Int):Dt (Q4.cst (k:Rat)) (max k.natAbs 1):=⟨⟨k,0,0,0⟩,⟨1,0,0,0⟩,by simp,by
 refine Q4.ext' ?_ ?_ ?_ ?_ <;> simp only [Q4.mul,Q4.cst,Z4.q] <;> simp [Rat.add_zero],by simp [Z4.n];omega,by simp [Z4.n];omega⟩

theorem Dt.pow {p:Q4} {M:Nat} (hp:Dt p M):∀ n,Dt (Q4.pow p n) (M ^ n)
 | 0=>by simpa [Q4.pow] using Dt.one
 | n + 1=>by simpa only [Q4.pow,KP] using (Dt.pow hp n).mul hp

def Hb (x:Rat) (B:Nat):Prop:=x.num.natAbs <= B /\ x.den <= B

theorem Hb.mono {x:Rat} {B C:Nat} (h:Hb x B) (hC:B <= C):Hb x C:=⟨ZK h.1 hC,ZK h.2 hC⟩

theorem Pl (x:Rat):x * ((x.den:Int):Rat) = (x.num:Rat):=by
 have h1:mkRat x.num x.den = x:=Rat.mkRat_self x;rw [Rat.mkRat_eq_div] at h1
 have h2:((x.den:Int):Rat) ≠ 0:=by have:=x.den_nz;simpa using this
 rw [KH] at h2 ⊢;generalize (x.den:Rat) = d at *;grind

theorem Dt.var {x w:Rat} {δ:Int} {A B C D:Nat} (hx:x.num.natAbs <= A) (hxd:x.den <= B) (hw:w.num.natAbs <= C) (hwd:w.den <= D) (hδ:δ.natAbs <= 1):Dt ⟨x,(δ:Rat),w,0⟩ (A * D + B * D + C * B):=by
 have h1:=Pl x;have h2:=Pl w;have e1:=XW hx hwd;have e2:=XW hxd hwd;have e3:=XW hw hxd;have e4:δ.natAbs * (x.den * w.den) <= 1 * (x.den * w.den):=XQ _ hδ
 refine ⟨⟨x.num * w.den,δ * (x.den * w.den),w.num * x.den,0⟩,⟨(x.den:Int) * w.den,0,0,0⟩,Ab5 (by have:=x.den_nz;omega) (by have:=w.den_nz;omega),?_,?_,?_⟩
 . refine Q4.ext' ?_ ?_ ?_ ?_ <;> simp only [Q4.mul,Z4.q] <;> simp only [Qad,<- h1,<- h2] <;> grind
 . simp only [Z4.n,KT,YE];have:((0:Int).natAbs) = 0:=rfl;omega
 . simp only [Z4.n,KT,YE];have:((0:Int).natAbs) = 0:=rfl;omega

theorem B2u {x:Rat} {z d:Int} {B:Nat} (h:x * (d:Rat) = (z:Rat)) (hd:d ≠ 0) (h1:z.natAbs <= B) (h2:d.natAbs <= B):Hb x B:=by
 have hx:x.num * d = z * x.den:=by
  have:=Pl x
  have h3:(x.num:Rat) * (d:Rat) = (z:Rat) * ((x.den:Int):Rat):=by grind
  exact_mod_cast h3
 have hc:=x.reduced
 have e1:x.num.natAbs * d.natAbs = z.natAbs * x.den:=by
  have:=XR Int.natAbs hx;simpa only [KT,YE] using this
 have d1:x.den ∣ d.natAbs:=hc.symm.dvd_of_dvd_mul_left (by rw [e1];exact Nat.dvd_mul_left _ _)
 have d2:x.num.natAbs ∣ z.natAbs:=hc.dvd_of_dvd_mul_right (by rw [<- e1];exact Nat.dvd_mul_right _ _)
 have p1:0 < d.natAbs:=by omega
 refine ⟨?_,ZK (Nat.le_of_dvd p1 d1) h2⟩;rcases YV z.natAbs with h0 | h0
 . rw [h0] at d2
   have:x.num.natAbs = 0:=by
    rw [h0,JF] at e1;rcases Qap.1 e1 with h | h
    . exact h
    . omega
   omega
 . exact ZK (Nat.le_of_dvd h0 d2) h1

abbrev Nd:=Int × Int × Int × Int

def Bn (x u w:Nat->Rat) (l:List Q4) (n:Nd):Q4 :=
 if n.1 = 1 then Q4.cst (n.2.2.2:Rat)
 else if n.1 = 2 then ⟨x n.2.2.2.toNat,u n.2.2.2.toNat,w n.2.2.2.toNat,0⟩
 else if n.1 = 3 then Q4.add (l.getD n.2.1.toNat (Q4.cst 0)) (l.getD n.2.2.1.toNat (Q4.cst 0))
 else if n.1 = 4 then Q4.add (l.getD n.2.1.toNat (Q4.cst 0)) (Q4.neg (l.getD n.2.2.1.toNat (Q4.cst 0)))
 else if n.1 = 5 then Q4.mul (l.getD n.2.1.toNat (Q4.cst 0)) (l.getD n.2.2.1.toNat (Q4.cst 0))
 else if n.1 = 6 then Q4.mul (l.getD n.2.1.toNat (Q4.cst 0)) (Q4.inv (l.getD n.2.2.1.toNat (Q4.cst 0)))
 else if n.1 = 7 then Q4.neg (l.getD n.2.1.toNat (Q4.cst 0))
 else Q4.pow (l.getD n.2.1.toNat (Q4.cst 0)) n.2.2.2.toNat

def evs (x u w:Nat->Rat):List Nd->List Q4->List Q4
 | [],l=>l
 | n :: r,l=>evs x u w r (l ++ [Bn x u w l n])

theorem A66 (x u w:Nat->Rat):∀ (ns:List Nd) (l:List Q4),(evs x u w ns l).length = l.length + ns.length
 | [],l=>by simp [evs]
 | n :: r,l=>by rw [evs,A66 x u w r];simp;omega

theorem Aiy (x u w:Nat->Rat):∀ (ns ms:List Nd) (l:List Q4),evs x u w (ns ++ ms) l = evs x u w ms (evs x u w ns l)
 | [],ms,l=>rfl
 | n :: r,ms,l=>by rw [YG,evs,Aiy x u w r,evs]

theorem Aix (x u w:Nat->Rat):∀ (ns:List Nd) (l:List Q4) (k:Nat),k < l.length->(evs x u w ns l).getD k (Q4.cst 0) = l.getD k (Q4.cst 0)
 | [],l,k,h=>rfl
 | n :: r,l,k,h=>by
  rw [evs,Aix x u w r _ k (by simp;omega)]
  simp only [QH,QW h]

structure Ew {ι:Type} (x:Nat->Rat) (u w:ι->Nat->Rat) (R:(ι->Q4)->Prop):Prop where
 cst:∀ k:Rat,R fun _=>Q4.cst k
 var:∀ n,R fun i=>⟨x n,u i n,w i n,0⟩
 add:∀ {p q:ι->Q4},R p->R q->R fun i=>Q4.add (p i) (q i)
 neg:∀ {p:ι->Q4},R p->R fun i=>Q4.neg (p i)
 mul:∀ {p q:ι->Q4},R p->R q->R fun i=>Q4.mul (p i) (q i)
 inv:∀ {p:ι->Q4},R p->R fun i=>Q4.inv (p i)

theorem Ew.pow {ι:Type} {x:Nat->Rat} {u w:ι->Nat->Rat} {R:(ι->Q4)->Prop} (h:Ew x u w R) {p:ι->Q4} (hp:R p):∀ n,R fun i=>Q4.pow (p i) n
 | 0=>h.cst 1
 | n + 1=>h.mul (h.pow hp n) hp

theorem Ew.of {ι:Type} {x:Nat->Rat} {u w:ι->Nat->Rat} {R:(ι->Q4)->Prop} (h:Ew x u w R) {l:ι->List Q4} (hl:∀ k,R fun i=>(l i).getD k (Q4.cst 0)) (n:Nd):R fun i=>Bn x (u i) (w i) (l i) n:=by
 unfold Bn;by_cases h1:n.1 = 1
 . simp only [QL h1];exact h.cst _
 by_cases h2:n.1 = 2
 . simp only [QK h1,QL h2];exact h.var _
 by_cases h3:n.1 = 3
 . simp only [QK h1,QK h2,QL h3];exact h.add (hl _) (hl _)
 by_cases h4:n.1 = 4
 . simp only [QK h1,QK h2,QK h3,QL h4];exact h.add (hl _) (h.neg (hl _))
 by_cases h5:n.1 = 5
 . simp only [QK h1,QK h2,QK h3,QK h4,QL h5];exact h.mul (hl _) (hl _)
 by_cases h6:n.1 = 6
 . simp only [QK h1,QK h2,QK h3,QK h4,QK h5,QL h6];exact h.mul (hl _) (h.inv (hl _))
 by_cases h7:n.1 = 7
 . simp only [QK h1,QK h2,QK h3,QK h4,QK h5,QK h6,QL h7];exact h.neg (hl _)
 . simp only [QK h1,QK h2,QK h3,QK h4,QK h5,QK h6,QK h7];exact h.pow (hl _) _

theorem Ew.evs {ι:Type} {x:Nat->Rat} {u w:ι->Nat->Rat} {R:(ι->Q4)->Prop} (h:Ew x u w R):∀ (ns:List Nd) {l:ι->List Q4} {N:Nat},(∀ i,(l i).length = N)->(∀ k,R fun i=>(l i).getD k (Q4.cst 0))->∀ k,R fun i=>(evs x (u i) (w i) ns (l i)).getD k (Q4.cst 0)
 | [],l,N,_,hl,k=>hl k
 | n :: r,l,N,hN,hl,k=>by
  simp only [Go.Ev.evs]
  refine h.evs r (N:=N + 1) (fun i=>by simp [hN i]) (fun k=>?_) k
  rcases JN k N with hk | hk | hk
  . have e : (fun i => (l i ++ [Bn x (u i) (w i) (l i) n]).getD k (Q4.cst 0)) = fun i => (l i).getD k (Q4.cst 0) := by
     funext i
     simp only [QH,QW (show k < (l i).length by rw [hN i];exact hk)]
    rw [e];exact hl k
  . have e : (fun i => (l i ++ [Bn x (u i) (w i) (l i) n]).getD k (Q4.cst 0)) = fun i => Bn x (u i) (w i) (l i) n := by
     funext i
     rw [QH,QZ (by rw [hN i];omega),hN i,hk];simp
    rw [e];exact h.of hl n
  . have e : (fun i => (l i ++ [Bn x (u i) (w i) (l i) n]).getD k (Q4.cst 0)) = fun _ => Q4.cst 0 := by
     funext i
     rw [QH,KA (by simp [hN i];omega)];rfl
    rw [e];exact h.cst 0

theorem Ew.run {ι:Type} {x:Nat->Rat} {u w:ι->Nat->Rat} {R:(ι->Q4)->Prop} (h:Ew x u w R) (ns:List Nd) (k:Nat):R fun i=>(Go.Ev.evs x (u i) (w i) ns []).getD k (Q4.cst 0) :=
 h.evs ns (N:=0) (fun _=>rfl) (fun k=>by simpa using h.cst 0) k

theorem Axl (x:Nat->Rat) (u w u' w':Nat->Rat) (ns:List Nd) (k:Nat):((evs x u w ns []).getD k (Q4.cst 0)).f = ((evs x u' w' ns []).getD k (Q4.cst 0)).f:=by
 have h:Ew x (fun b:Bool=>bif b then u else u') (fun b:Bool=>bif b then w else w') (fun p=>(p true).f = (p false).f):=by
  refine ⟨fun _=>rfl,fun _=>rfl,fun h1 h2=>?_,fun h1=>?_,fun h1 h2=>?_,fun h1=>?_⟩ <;> simp only [Q4.add,Q4.neg,Q4.mul,Q4.inv,h1] <;> (try simp only [h2])
 exact h.run ns k

def Fw (l:List Q4) (n:Nd):Prop:=n.1 = 6 /\ (l.getD n.2.2.1.toNat (Q4.cst 0)).f = 0

instance (l:List Q4) (n:Nd):Decidable (Fw l n):=by unfold Fw;infer_instance

def Dg (fit:Q4->Bool) (x u w:Nat->Rat):List Nd->List Q4->List Q4 ⊕ Int
 | [],l=>.inl l
 | n :: r,l=>if Fw l n then .inr 10 else if fit (Bn x u w l n) = true then Dg fit x u w r (l ++ [Bn x u w l n]) else .inr 7

theorem A67 {fit:Q4->Bool} {x u w:Nat->Rat}:∀ (ns:List Nd) (l l':List Q4),(∀ k,k < l.length->fit (l.getD k (Q4.cst 0)) = true)->Dg fit x u w ns l = .inl l'->(∀ k,k < l'.length->fit (l'.getD k (Q4.cst 0)) = true) /\ l' = evs x u w ns l
 | [],l,l',h,e=>by obtain rfl:=Sum.inl.inj e;exact ⟨h,rfl⟩
 | n :: r,l,l',h,e=>by
  simp only [Dg] at e;by_cases hb:Fw l n
  . rw [QL hb] at e;cases e
  . rw [QK hb] at e;by_cases hf:fit (Bn x u w l n) = true
    . rw [QL hf] at e;refine A67 r _ l' (fun k hk=>?_) e;simp only [XH,ZA,ZZ] at hk;rcases XF k l.length with h1 | h1
      . rw [QH,QW h1,<- QH];exact h k h1
      . obtain rfl:k = l.length:=by omega
        rw [QH,QZ (QY _)];simpa using hf
    . rw [QK hf] at e;cases e

theorem Aeg {fit:Q4->Bool} {x u w:Nat->Rat}:∀ (ns:List Nd) (l:List Q4) (c:Int),Dg fit x u w ns l = .inr c->c = 7 \/ c = 10
 | [],l,c,e=>by cases e
 | n :: r,l,c,e=>by
  simp only [Dg] at e;by_cases hb:Fw l n
  . rw [QL hb] at e;exact .inr (Sum.inr.inj e).symm
  . rw [QK hb] at e;by_cases hf:fit (Bn x u w l n) = true
    . rw [QL hf] at e;exact Aeg r _ c e
    . rw [QK hf] at e;exact .inl (Sum.inr.inj e).symm

theorem Aiz {x:Nat->Rat} {u w:Bool->Nat->Rat} {R:(Bool->Q4)->Prop} (h:Ew x u w R) {f g:Q4->Bool} (hfg:∀ p,R p->f (p true) = g (p false)) (hv:∀ p,R p->(p true).f = (p false).f) :
  ∀ (ns:List Nd) (l m:List Q4),l.length = m.length->(∀ k,R fun b=>bif b then l.getD k (Q4.cst 0) else m.getD k (Q4.cst 0)) ->
   (∃ c,Dg f x (u true) (w true) ns l = .inr c /\ Dg g x (u false) (w false) ns m = .inr c) \/
   ∃ l' m',Dg f x (u true) (w true) ns l = .inl l' /\ Dg g x (u false) (w false) ns m = .inl m' /\ l'.length = l.length + ns.length /\ m'.length = l.length + ns.length /\ ∀ k,R fun b=>bif b then l'.getD k (Q4.cst 0) else m'.getD k (Q4.cst 0)
 | [],l,m,hl,hk=>.inr ⟨l,m,rfl,rfl,by simp,by simp [hl],hk⟩
 | n :: r,l,m,hl,hk=>by
  simp only [Dg]
  have hb:Fw l n ↔ Fw m n:=by
   unfold Fw;have:=hv _ (hk n.2.2.1.toNat);simp only [XO,ZD] at this;rw [this]
  have hr:=h.of (l:=fun b=>bif b then l else m) (fun k=>by
   have:=hk k
   have e:(fun i=>((fun b=>bif b then l else m) i).getD k (Q4.cst 0)) = fun b=>bif b then l.getD k (Q4.cst 0) else m.getD k (Q4.cst 0):=by funext b;cases b <;> rfl
   rw [e];exact this) n
  have hq:=hfg _ hr;simp only [XO,ZD] at hq;by_cases h1:Fw l n
  . rw [QL h1,QL (hb.1 h1)];exact .inl ⟨10,rfl,rfl⟩
  . rw [QK h1,QK (fun q=>h1 (hb.2 q))];by_cases h2:f (Bn x (u true) (w true) l n) = true
    . rw [QL h2,QL (by rw [<- hq];exact h2)]
      have:=Aiz h hfg hv r (l ++ [Bn x (u true) (w true) l n]) (m ++ [Bn x (u false) (w false) m n]) (by simp [hl]) (fun k=>by
       rcases JN k l.length with hkl | hkl | hkl
       . have e1:(l ++ [Bn x (u true) (w true) l n]).getD k (Q4.cst 0) = l.getD k (Q4.cst 0):=by simp only [QH,QW hkl]
         have e2:(m ++ [Bn x (u false) (w false) m n]).getD k (Q4.cst 0) = m.getD k (Q4.cst 0):=by simp only [QH,QW (show k < m.length by omega)]
         rw [e1,e2];exact hk k
       . have e1:(l ++ [Bn x (u true) (w true) l n]).getD k (Q4.cst 0) = Bn x (u true) (w true) l n:=by rw [QH,QZ (by omega),hkl];simp
         have e2:(m ++ [Bn x (u false) (w false) m n]).getD k (Q4.cst 0) = Bn x (u false) (w false) m n:=by rw [QH,QZ (by omega),hkl,hl];simp
         rw [e1,e2]
         have e:(fun i=>Bn x (u i) (w i) ((fun b=>bif b then l else m) i) n) = fun b=>bif b then Bn x (u true) (w true) l n else Bn x (u false) (w false) m n:=by funext b;cases b <;> rfl
         rw [<- e];exact hr
       . have e1:(l ++ [Bn x (u true) (w true) l n]).getD k (Q4.cst 0) = Q4.cst 0:=by rw [QH,KA (by simp;omega)];rfl
         have e2:(m ++ [Bn x (u false) (w false) m n]).getD k (Q4.cst 0) = Q4.cst 0:=by rw [QH,KA (by simp;omega)];rfl
         rw [e1,e2]
         have e:(fun b:Bool=>bif b then Q4.cst 0 else Q4.cst 0) = fun _=>Q4.cst 0:=by funext b;cases b <;> rfl
         rw [e];exact h.cst 0)
      rcases this with h3 | ⟨l',m',a1,a2,a3,a4,a5⟩
      . exact .inl h3
      . exact .inr ⟨l',m',a1,a2,by rw [a3];simp;omega,by rw [a4];simp;omega,a5⟩
    . rw [QK h2,QK (by rw [<- hq];exact h2)];exact .inl ⟨7,rfl,rfl⟩

theorem Awz {x:Nat->Rat} {u w:Bool->Nat->Rat} {R:(Bool->Q4)->Prop} (h:Ew x u w R) {f g:Q4->Bool} (hfg:∀ p,R p->f (p true) = g (p false)) (hv:∀ p,R p->(p true).f = (p false).f) (ns:List Nd) :
  (∃ c,Dg f x (u true) (w true) ns [] = .inr c /\ Dg g x (u false) (w false) ns [] = .inr c) \/
  ∃ l' m',Dg f x (u true) (w true) ns [] = .inl l' /\ Dg g x (u false) (w false) ns [] = .inl m' /\ l'.length = ns.length /\ m'.length = ns.length /\ ∀ k,R fun b=>bif b then l'.getD k (Q4.cst 0) else m'.getD k (Q4.cst 0):=by
 have:=Aiz h hfg hv ns [] [] rfl (fun k=>by
  have e:(fun b:Bool=>bif b then ([]:List Q4).getD k (Q4.cst 0) else ([]:List Q4).getD k (Q4.cst 0)) = fun _=>Q4.cst 0:=by funext b;cases b <;> simp
  rw [e];exact h.cst 0)
 simpa using this

def B2x (n:Nd):Bool:=decide (n.1 = 3) || decide (n.1 = 4) || decide (n.1 = 5) || decide (n.1 = 6)

def B96 (n:Nd):Bool:=decide (n.1 = 7) || decide (n.1 = 8)

def B9o (n:Nd) (k:Nat):Prop:=(1 <= n.1 /\ n.1 <= 8) /\ (B2x n = true \/ B96 n = true->n.2.1.toNat < k) /\ (B2x n = true->n.2.2.1.toNat < k)

def CD (l:List Rat) (M:Nat):Prop:=∃ D:Nat,0 < D /\ D <= M /\ ∀ x ∈ l,∃ z:Int,x * (D:Rat) = (z:Rat) /\ z.natAbs <= M

theorem CD.mono {l:List Rat} {M N:Nat} (h:CD l M) (hN:M <= N):CD l N:=by
 obtain ⟨D,h1,h2,h3⟩:=h
 exact ⟨D,h1,ZK h2 hN,fun x hx=>by obtain ⟨z,q1,q2⟩:=h3 x hx;exact ⟨z,q1,ZK q2 hN⟩⟩

theorem Tb (x:Rat):x * (x.den:Rat) = (x.num:Rat):=by
 have:=Pl x
 rwa [KH] at this

theorem CD.step {l:List Rat} {M H:Nat} (h:CD l M) {p q a b x:Rat} (hp:Hb p H) (hq:Hb q H) (ha:a ∈ l \/ a = 0) (hb:b ∈ l \/ b = 0) (hx:x = p * a + q * b):CD (l ++ [x]) (2 * (H * H * M)):=by
 obtain ⟨D,h1,h2,h3⟩:=h;have pd:=p.den_pos;have qd:=q.den_pos;have hdd:p.den * q.den <= H * H:=XW hp.2 hq.2;have e1:p.den * q.den * D <= H * H * M:=XW hdd h2
 refine ⟨p.den * q.den * D,KL (KL pd qd) h1,by omega,fun y hy=>?_⟩
 rcases QF.1 hy with hy | hy
 . obtain ⟨z,q1,q2⟩:=h3 y hy;refine ⟨(p.den * q.den:Nat) * z,?_,?_⟩
   . simp only [Qay,Qad,KH,<- q1];grind
   . rw [KT,YE];have:=XW hdd q2;omega
 . obtain rfl:y = x:=by simpa using hy
   have za:∃ z:Int,a * (D:Rat) = (z:Rat) /\ z.natAbs <= M:=by
    rcases ha with ha | rfl
    . exact h3 a ha
    . exact ⟨0,by simp,by simp⟩
   have zb:∃ z:Int,b * (D:Rat) = (z:Rat) /\ z.natAbs <= M:=by
    rcases hb with hb | rfl
    . exact h3 b hb
    . exact ⟨0,by simp,by simp⟩
   obtain ⟨u,u1,u2⟩:=za;obtain ⟨v,v1,v2⟩:=zb;refine ⟨p.num * q.den * u + q.num * p.den * v,?_,?_⟩
   . have c:=Tb p;have d:=Tb q;simp only [Qay,Rat.intCast_add,Qad,KH,<- c,<- d,<- u1,<- v1,hx];grind
   . have t0:=YT (p.num * q.den * u) (q.num * p.den * v);have t1:p.num.natAbs * q.den <= H * H:=XW hp.1 hq.2;have t2:q.num.natAbs * p.den <= H * H:=XW hq.1 hp.2;have t3:=XW t1 u2;have t4:=XW t2 v2;simp only [KT,YE] at t0;omega

theorem CD.one {l:List Rat} {M H:Nat} (h:CD l M) {x:Rat} (hx:Hb x H) (h1:1 <= H):CD (l ++ [x]) (2 * (H * H * M)):=by
 obtain ⟨D,d1,d2,d3⟩:=h;have xd:=x.den_pos;have e0:x.den * D <= H * M:=XW hx.2 d2;have e2:H * M * 1 <= H * M * H:=YS _ h1
 have e3:H * M * H = H * H * M:=by rw [Nat.mul_assoc,KV M H,<- Nat.mul_assoc]
 refine ⟨x.den * D,KL xd d1,by omega,fun y hy=>?_⟩
 rcases QF.1 hy with hy | hy
 . obtain ⟨z,q1,q2⟩:=d3 y hy;refine ⟨(x.den:Nat) * z,?_,?_⟩
   . simp only [Qay,Qad,KH,<- q1];grind
   . rw [KT,YE];have:=XW hx.2 q2;omega
 . obtain rfl:y = x:=by simpa using hy
   refine ⟨y.num * D,?_,?_⟩
   . have a:=Tb y;simp only [Qay,Qad,KH,<- a];grind
   . rw [KT,YE];have:=XW hx.1 d2;omega

theorem CD.hb {l:List Rat} {M:Nat} (h:CD l M) {x:Rat} (hx:x ∈ l):Hb x M:=by
 obtain ⟨D,h1,h2,h3⟩:=h;obtain ⟨z,q1,q2⟩:=h3 x hx
 exact B2u (d:=(D:Int)) (z:=z) (by rw [KH];exact q1) (by omega) q2 (by simpa using h2)

theorem Aj0 {fit:Q4->Bool} {x u w:Nat->Rat}:∀ (ns:List Nd) (l l':List Q4),Dg fit x u w ns l = .inl l'->∀ i,i < ns.length->¬ Fw (evs x u w (ns.take i) l) (ns.getD i (0,0,0,0))
 | [],l,l',e,i,hi=>by simp at hi
 | n :: r,l,l',e,i,hi=>by
  simp only [Dg] at e;by_cases hb:Fw l n
  . rw [QL hb] at e;cases e
  . rw [QK hb] at e;by_cases hf:fit (Bn x u w l n) = true
    . rw [QL hf] at e
      cases i with
      | zero=>simpa [evs] using hb
      | succ i =>
       have:=Aj0 r _ l' e i (by simpa using hi)
       simpa [evs] using this
    . rw [QK hf] at e;cases e

theorem B2l (x u w:Nat->Rat) (ns:List Nd) {i k:Nat} (hk:k < i) (hi:i <= ns.length):(evs x u w (ns.take i) []).getD k (Q4.cst 0) = (evs x u w ns []).getD k (Q4.cst 0):=by
 conv=>rhs;rw [<- KY i ns,Aiy]
 exact (Aix x u w (ns.drop i) (evs x u w (ns.take i) []) k (by rw [A66];simp;omega)).symm

theorem iPl {n L K:Nat} {x y:Rat} (hx:Sz x L) (hy:Sz y K) (hL:L + K <= 1000000000) (hn:68719476736 <= n):f161 n (rq x) (rq y) = some (rq (x + y)):=B3f (L:=L + K) (hx.mono (by omega)) (hy.mono (by omega)) (by omega) (by omega)

theorem Sr {n L K:Nat} {x y:Rat} (hx:Sz x L) (hy:Sz y K) (hL:L + K <= 1000000000) (hn:68719476736 <= n):f178 n (rq x) (rq y) = some (rq (x * y)):=Az3 (L:=L + K) (hx.mono (by omega)) (hy.mono (by omega)) (by omega) (by omega)

theorem iOv {n L K:Nat} {x y:Rat} (hx:Sz x L) (hy:Sz y K) (h0:y ≠ 0) (hL:L + K <= 1000000000) (hn:68719476736 <= n):f223 n (rq x) (rq y) = some (rq (x / y)):=B3g (L:=L + K) (hx.mono (by omega)) (hy.mono (by omega)) h0 (by omega) (by omega)

theorem iNg {n L:Nat} {x:Rat} (hx:Sz x L) (hL:L <= 1000000000):f206 n (rq x) = some (rq (-x)):=B7v hx (by omega)

theorem sPl {n L K:Nat} {x y:Rat} (hx:Sz x L) (hy:Sz y K) (hL:L + K <= 1000000000) (hn:68719476736 <= n):f148 n (rq x) (rq y) = some (rq (x + y)):=Ana (L:=L + K) (hx.mono (by omega)) (hy.mono (by omega)) (by omega) (by omega)

theorem sTm {n L K:Nat} {x y:Rat} (hx:Sz x L) (hy:Sz y K) (hL:L + K <= 1000000000) (hn:68719476736 <= n):f150 n (rq x) (rq y) = some (rq (x * y)):=Aym (L:=L + K) (hx.mono (by omega)) (hy.mono (by omega)) (by omega) (by omega)

theorem sOv {n L K:Nat} {x y:Rat} (hx:Sz x L) (hy:Sz y K) (h0:y ≠ 0) (hL:L + K <= 1000000000) (hn:68719476736 <= n):f151 n (rq x) (rq y) = some (rq (x / y)):=B31 (L:=L + K) (hx.mono (by omega)) (hy.mono (by omega)) h0 (by omega) (by omega)

theorem sLs {n L K:Nat} {x y:Rat} (hx:Sz x L) (hy:Sz y K) (hL:L + K <= 1000000000) (hn:68719476736 <= n):f149 n (rq x) (rq y) = some (rq (x - y)):=B32 (L:=L + K) (hx.mono (by omega)) (hy.mono (by omega)) (by omega) (by omega)

theorem Fi {a:Int} (h:a.natAbs <= 1000000000):Sz (a:Rat) 3:=by
 unfold Sz;rw [Rat.num_intCast,Rat.den_intCast]
 exact ⟨Jj (by omega),Jj (by omega)⟩

theorem iW {n:Nat} {a:Int} (h:a.natAbs <= 1000000000) (hn:68719476736 <= n):f126 n a = some (rq (a:Rat)):=by
 unfold f126;rw [QI,Anc];by_cases h0:a < 0
 . rw [QL h0,Ad (by omega) (by omega),show (0 - a:Int) = ((a.natAbs:Nat):Int) by omega,A5x (by omega) (by omega),A2,show f180 n = some [1] from rfl,A2,ZH h0,Jo]
 . rw [QK h0]
   conv=>lhs;rw [show a = ((a.natAbs:Nat):Int) by omega]
   rw [A5x (by omega) (by omega),A2,show f180 n = some [1] from rfl,A2,QX h0,Jo]

theorem iW0 {n:Nat} (hn:68719476736 <= n):f126 n 0 = some (rq 0):=iW (a:=0) (by omega) hn

theorem iW1 {n:Nat} (hn:68719476736 <= n):f126 n 1 = some (rq 1):=iW (a:=1) (by omega) hn

theorem iW2 {n:Nat} (hn:68719476736 <= n):f126 n 2 = some (rq 2):=iW (a:=2) (by omega) hn

theorem iWm {n:Nat} (hn:68719476736 <= n):f126 n (-1) = some (rq (-1)):=iW (a:=-1) (by omega) hn

theorem Ayl (a:Int) (i:Nat):(!(decide (a ^ i < 0) == decide (a < 0))) = decide (a ^ (i + 1) < 0):=by
 rw [Int.pow_succ];by_cases h0:a = 0
 . subst h0
   have:¬ (0:Int) ^ i < 0:=by cases i with | zero=>decide | succ i=>rw [Int.pow_succ,Qaf];decide
   rw [Qaf,QX this];rfl
 . have hp:a ^ i ≠ 0:=Int.pow_ne_zero h0;generalize a ^ i = p at hp;rcases Int.lt_trichotomy p 0 with ha | ha | ha <;> rcases Int.lt_trichotomy a 0 with hb | hb | hb
   . have:=Int.mul_pos_of_neg_of_neg ha hb
     rw [ZH ha,ZH hb,QX (by omega)];rfl
   . exact absurd hb h0
   . have:=Int.mul_neg_of_neg_of_pos ha hb
     rw [ZH ha,QX (by omega),ZH this];rfl
   . exact absurd ha hp
   . exact absurd ha hp
   . exact absurd ha hp
   . have:=Int.mul_neg_of_pos_of_neg ha hb
     rw [QX (show ¬ p < 0 by omega),ZH hb,ZH this];rfl
   . exact absurd hb h0
   . have:=Int.mul_pos ha hb
     rw [QX (show ¬ p < 0 by omega),QX (show ¬ a < 0 by omega),QX (by omega)];rfl

theorem O3 (a L:Nat) (h:(dg a).length <= L):∀ i,(dg (a ^ i)).length <= L * i + 1
 | 0=>by rw [Nat.pow_zero];exact ZK (A4j (by decide)) (by omega)
 | i + 1=>by
  have h1:=Bg (a ^ i) a;have h2:=O3 a L h i;rw [KP,Nat.mul_succ];omega

theorem Ab0 {α:Type} {n L k:Nat} {x:Rat} (hx:Sz x L) (hL:L <= 10000000) (hk:k <= 10) (hn:68719476736 <= n) {k0:Bool->Bool->List Int->List Int->Option α}:∀ (m i:Nat),i <= k->k < i + m ->
  Oi n m (k:Int) (i:Int) (rq x).1 (rq x).2.1 (rq x).2.2 false (decide (x.num ^ i < 0)) (dg (x.num.natAbs ^ i)) (dg (x.den ^ i)) k0 = k0 false (decide (x.num ^ k < 0)) (dg (x.num.natAbs ^ k)) (dg (x.den ^ k))
 | 0,i,hi,hm=>by omega
 | m + 1,i,hi,hm=>by
  rw [Ar4];unfold A06;rw [QI];by_cases h:i < k
  . have l1:=O3 x.num.natAbs L hx.1 i;have l2:=O3 x.den L hx.2 i;have h1:=hx.1;have h2:=hx.2
    have h3:L * i <= L * 10:=YS _ (by omega)
    rw [QL (by omega)]
    show ob (f200 n (dg (x.num.natAbs ^ i)) (dg x.num.natAbs)) _ = _
    rw [Kh (by omega) (by omega),A2]
    show ob (f200 n (dg (x.den ^ i)) (dg x.den)) _ = _
    rw [Kh (by omega) (by omega),A2,Ad (x:=(i:Int) + 1) (by omega) (by omega),<- KP,<- KP]
    show Oi n m (k:Int) ((i + 1:Nat):Int) (rq x).1 (rq x).2.1 (rq x).2.2 false (!(decide (x.num ^ i < 0) == decide (x.num < 0))) _ _ k0 = _;rw [Ayl]
    exact Ab0 hx hL hk hn m (i + 1) (by omega) (by omega)
  . obtain rfl:i = k:=by omega
    rw [QK (by omega)]

theorem Abh {n L k:Nat} {x:Rat} (hx:Sz x L) (hL:L <= 10000000) (hk:k <= 10) (hn:68719476736 <= n):f197 n (rq x) (k:Int) = some (rq (x ^ k)):=by
 unfold f197;rw [iW1 hn,A2]
 have h1:=Ab0 (n:=n) hx hL hk hn (k0:=fun m f b c=>(
   bif f then
    ob (f195 n (f,b,c)) fun e =>
    ob (f195 n ((!e),b,c)) fun g =>
    bif g then
     ob (f180 n) fun i =>
     some ((!e),b,i)
    else
     some ((!e),b,c)
   else
    ob (f195 n (false,b,c)) fun j =>
    bif j then
     ob (f180 n) fun l =>
     some (false,b,l)
    else
     some (false,b,c))) n 0 (by omega) (by omega)
 rw [Int.pow_zero,Nat.pow_zero,Nat.pow_zero,show decide ((1:Int) < 0) = false from rfl,show ((0:Nat):Int) = 0 from rfl] at h1;rw [show rq 1 = (false,dg 1,dg 1) from B33 1,h1]
 have f195e:∀ (s:Bool) (a d:Nat),f195 n (s,dg a,dg d) = some (decide (a = 0)):=fun s a d=>by
  unfold f195;dsimp only;rw [V7]
 have key:rq (x ^ k) = (decide (x.num ^ k < 0),dg (x.num.natAbs ^ k),dg (x.den ^ k)):=by
  unfold rq;rw [Rat.num_pow,Rat.den_pow,Int.natAbs_pow]
 have hz:x.num.natAbs ^ k = 0->x.den ^ k = 1:=fun h=>by
  rcases YV k with h2 | h2
  . subst h2;rfl
  . have h3:x.num.natAbs = 0:=(Nat.pow_eq_zero.1 h).1
    have:x = 0:=JA.1 (by omega)
    rw [this];exact Nat.one_pow k
 have hs:x.num.natAbs ^ k = 0->¬ x.num ^ k < 0:=fun h=>by rw [<- Int.natAbs_pow] at h;omega
 rw [key];by_cases h2:x.num ^ k < 0
 . rw [ZH h2,XO,f195e,A2,f195e,A2];have h3:¬ x.num.natAbs ^ k = 0:=fun h=>hs h h2;rw [QX h3];rfl
 . rw [QX h2,ZD,f195e,A2];by_cases h3:x.num.natAbs ^ k = 0
   . rw [ZH h3,XO,show f180 n = some [1] from rfl,A2,hz h3,Jo]
   . rw [QX h3];rfl

abbrev Jn:=Rt × List Rt × Unit × Rt

def jn (f v:Rat):Jn:=(rq f,[],(),rq v)

theorem B9a {n:Nat} (hn:68719476736 <= n):f100 n 0 = some []:=by
 obtain ⟨m,rfl⟩:∃ m,n = m + 1:=⟨n - 1,by omega⟩
 rfl

theorem B7x {n:Nat} (hn:68719476736 <= n):Amj n 0 = some []:=by
 obtain ⟨m,rfl⟩:∃ m,n = m + 1:=⟨n - 1,by omega⟩
 rfl

theorem Avb {n:Nat} (hn:68719476736 <= n):f76 n [] = some ([],0):=by
 have:=B3h (n:=n) (x:=[]) (by simp) (by omega)
 exact this

theorem Vd {x:Rat} {L:Nat} (h:Sz x L) (k:Nat):Sz (x ^ k) (L * k + 1):=by
 unfold Sz;rw [Rat.num_pow,Rat.den_pow,Int.natAbs_pow];exact ⟨O3 _ _ h.1 k,O3 _ _ h.2 k⟩

theorem B8t {x:Rat} {L k:Nat} (h:Sz x L) (hk:k <= 8):Sz (Q4.d1 x k) (L * 8 + 5):=by
 cases k with
 | zero=>exact Ld.mono (by omega)
 | succ k =>
  have h1:=Ft (Vd h k) (Fi (a:=((k + 1:Nat):Int)) (by omega))
  have:L * k <= L * 8:=YS _ (by omega)
  exact h1.mono (by omega)

def Dr (V:List Rat) (k:Nat):Rat:=V.getD k 0

theorem Av7 {n:Nat} {f:Rat} (hn:68719476736 <= n):f190 n (0,()) (rq f) = some (jn f 0):=by
 unfold f190;dsimp only;rw [B9a hn,A2,iW0 hn,A2];rfl

theorem Ah8 {n L K:Nat} {f g v w:Rat} (hf:Sz f L) (hg:Sz g L) (hv:Sz v K) (hw:Sz w K) (hL:L <= 1000) (hK:K <= 100000000) (hn:68719476736 <= n):f192 n (jn f v) (jn g w) = some (jn (f + g) (v + w)):=by
 unfold f192 jn;dsimp only
 rw [iPl hf hg (by omega) hn,A2,iPl hv hw (by omega) hn,A2];rfl

theorem Axt {n L K:Nat} {f v k:Rat} (hf:Sz f L) (hv:Sz v K) (hk:Sz k 10) (hL:L <= 1000) (hK:K <= 100000000) (hn:68719476736 <= n):f193 n (jn f v) (rq k) = some (jn (f * k) (v * k)):=by
 unfold f193 jn;dsimp only
 rw [Sr hf hk (by omega) hn,A2,Sr hv hk (by omega) hn,A2];rfl

theorem Abe {n L K:Nat} {f g v w:Rat} (hf:Sz f L) (hg:Sz g L) (hv:Sz v K) (hw:Sz w K) (hL:L <= 1000) (hK:K <= 100000000) (hn:68719476736 <= n):f194 n (jn f v) (jn g w) = some (jn (f * g) (v * g + f * w)):=by
 unfold f194 jn;dsimp only
 rw [Sr hf hg (by omega) hn,A2,Sr hv hg (by omega) hn,A2,Sr hf hw (by omega) hn,A2,iPl (Ft hv hg) (Ft hf hw) (by omega) hn,A2];rfl

theorem Abg {n L K:Nat} {f v g d:Rat} {e:Rt} (hd:Sz d L) (hv:Sz v K) (hL:L <= 100000) (hK:K <= 100000000) (hn:68719476736 <= n):f224 n (jn f v) (rq g) (rq d) e = some (jn g (d * v)):=by
 unfold f224 jn;dsimp only
 rw [Sr hd hv (by omega) hn,A2];rfl

theorem B3d {n L K:Nat} {f v:Rat} (hf:Sz f L) (h0:f ≠ 0) (hv:Sz v K) (hL:L <= 1000) (hK:K <= 100000000) (hn:68719476736 <= n):f196 n (jn f v) = some (jn (1 / f) (-(1 / f * (1 / f)) * v)):=by
 have h1:=Aja (Fi (a:=1) (by omega)) hf h0
 have h1:Sz (1 / f) (3 + L + 1):=h1;have h2:=Ft h1 h1;have h3:=Ft h2 h1
 have t2:f178 n (rq (1 / f * (1 / f) * (1 / f))) (rq 2) = some (rq (1 / f * (1 / f) * (1 / f) * 2)):=Sr h3 (Fi (a:=2) (by omega)) (by omega) hn
 unfold f196
 rw [iW1 hn,A2,show (jn f v).1 = rq f from rfl,iOv (B7e (L:=1) (by omega)) hf h0 (by omega) hn,A2,Sr h1 h1 (by omega) hn,A2,iNg h2 (by omega),A2,Sr h2 h1 (by omega) hn,A2,iW2 hn,A2,t2,A2]
 have:=Abg (n:=n) (f:=f) (g:=1 / f) (e:=rq (1 / f * (1 / f) * (1 / f) * 2)) (Af7 h2) hv (by omega) hK hn
 have this:f224 n (rq f,(jn f v).2.1,(),(jn f v).2.2.2) (rq (1 / f)) (rq (-(1 / f * (1 / f)))) (rq (1 / f * (1 / f) * (1 / f) * 2)) = _:=this;rw [this,A2]

theorem Aoa {n L k:Nat} {f:Rat} {v:Rat} (hf:Sz f L) (hL:L <= 1000) (hk:k <= 8) (hn:68719476736 <= n):f209 n (jn f v) (k:Int) = some (rq (Q4.d1 f k),rq (Q4.d2 f k)):=by
 unfold f209;rw [iW0 hn,A2,A2];dsimp only;rw [show (jn f v).1 = rq f from rfl]
 match k with
 | 0=>rfl
 | 1 =>
  rw [show decide (((1:Nat):Int) >= 1) = true from rfl,XO,show W (((1:Nat):Int) - 1) = ((0:Nat):Int) from rfl,Abh hf (by omega) (by omega) hn,A2,iW (by omega) hn,A2,Sr (Vd hf 0) (Fi (a:=((1:Nat):Int)) (by omega)) (by omega) hn,A2]
  rfl
 | k + 2 =>
  have h2:(k + 2) * (k + 1) <= 8 * 8:=XW (by omega) (by omega)
  have l1:L * (k + 1) <= L * 8:=YS _ (by omega)
  have l2:L * k <= L * 8:=YS _ (by omega)
  rw [QI,QL (by omega),Ad (x:=((k + 2:Nat):Int) - 1) (by omega) (by omega),show ((k + 2:Nat):Int) - 1 = ((k + 1:Nat):Int) by omega,Abh hf (by omega) (by omega) hn,A2,iW (by omega) hn,A2,
   Sr (Vd hf (k + 1)) (Fi (a:=((k + 2:Nat):Int)) (by omega)) (by omega) hn,A2,QI,QL (by omega),
   Ad (x:=((k + 2:Nat):Int) - 2) (by omega) (by omega),show ((k + 2:Nat):Int) - 2 = ((k:Nat):Int) by omega,Abh hf (by omega) (by omega) hn,A2,show ((k + 2:Nat):Int) * ((k + 1:Nat):Int) = (((k + 2) * (k + 1):Nat):Int) by rw [YF],
   Ad (x:=(((k + 2) * (k + 1):Nat):Int)) (by omega) (by omega),iW (by rw [YE];omega) hn,A2,Sr (Vd hf k) (Fi (a:=(((k + 2) * (k + 1):Nat):Int)) (by rw [YE];omega)) (by omega) hn,A2]
  rfl

theorem Av5 {n L K k:Nat} {f v:Rat} (hf:Sz f L) (hv:Sz v K) (hL:L <= 1000) (hK:K <= 100000000) (hk:k <= 8) (hn:68719476736 <= n):f198 n (jn f v) (k:Int) = some (jn (f ^ k) (Q4.d1 f k * v)):=by
 unfold f198
 rw [Aoa hf hL hk hn,A2,show (jn f v).1 = rq f from rfl,Abh hf (by omega) (by omega) hn,A2]
 have:=Abg (n:=n) (f:=f) (g:=f ^ k) (e:=rq (Q4.d2 f k)) (B8t hf hk) hv (by omega) hK hn
 dsimp only;rw [this,A2]

theorem Ayy {n:Nat} {f v:Rat} (hn:68719476736 <= n):f167 n (jn f v) = some (Cu f && Cu v):=by
 unfold f167 jn;dsimp only;rw [Avb hn,A2,Ak1,A2,Ak1]
 cases Cu f <;> cases Cu v <;> rfl

theorem B3c {n:Nat} {f:Rat} {k:Int} {V:List Rat} (hk:0 <= k /\ k < V.length) (hn:68719476736 <= n):f191 n (0,()) (rq f) k = some (jn f 0):=by
 unfold f191 Alr;dsimp only
 rw [B7x hn,A2,iW0 hn,A2,A2,QI,QK (by omega)];rfl

def Am (q:Q4):Jn:=jn q.f q.v

theorem Abf {l:List Q4} {k:Nat} (h:k < l.length):(l.map Am).getD k ((false,[],[]),[],(),(false,[],[])) = Am (l.getD k (Q4.cst 0)):=by
 simp [QH,QN h]

structure Ayg (l:List Q4) (K:Nat):Prop where
 f:∀ k,Sz (l.getD k (Q4.cst 0)).f 40
 v:∀ k,Sz (l.getD k (Q4.cst 0)).v K

theorem Av6 {n K:Nat} {X V:List Rat} {l:List Q4} {x:Nod} (hx:Er x l.length) (hd:x.1 = 2->x.2.2.2 < X.length /\ x.2.2.2 < V.length) (hs:Ayg l K) (hK:K <= 90000000) (hn:68719476736 <= n) :
  A9z n (0,()) x (vq X) (l.map Am) = some ((if x.1 = 6 /\ (l.getD x.2.2.1.toNat (Q4.cst 0)).f = 0 then (((false,[],[]),[],(),(false,[],[])),10) else if x.1 = 8 /\ Cu ((l.getD x.2.1.toNat (Q4.cst 0)).f ^ x.2.2.2.toNat) = false then (((false,[],[]),[],(),(false,[],[])),7) else (Am (Bn (Dr X) (fun _=>0) (fun _=>0) l x),0)),l.map Am):=by
 obtain ⟨op,A,B,N⟩:=x;obtain ⟨⟨o1,o2⟩,hN,hA,hB⟩:=hx;unfold A9z;simp only [Air,A2];unfold Pq at hN;unfold Pu at hA hB ⊢;unfold Bn;dsimp only at *
 obtain rfl | rfl | rfl | rfl | rfl | rfl | rfl | rfl:op = 1 \/ op = 2 \/ op = 3 \/ op = 4 \/ op = 5 \/ op = 6 \/ op = 7 \/ op = 8:=by omega
 . simp only [Int.reduceEq,or_self,if_false,if_true,Int.reduceBEq,XO,ZD,Int.reduceLT,gt_iff_lt,decide_false,false_and] at *
   rw [iW (by omega) hn,A2,Av7  hn,A2];rfl
 . simp only [Int.reduceEq,or_self,if_false,if_true,Int.reduceBEq,XO,ZD,Int.reduceLT,gt_iff_lt,decide_false,false_and] at *;have hd:=hd trivial
   rw [Lf,A4 (by simp;omega),Aa8 (by omega),B3c (V:=V) ⟨hN.1,hd.2⟩ hn,A2];rfl
 all_goals simp only [Int.reduceEq,or_self,or_true,true_or,if_false,if_true,Int.reduceBEq,XO,ZD,Int.reduceLT,gt_iff_lt,decide_true,false_and,true_and] at *
 all_goals (have lA:A.toNat < l.length:=by omega)
 all_goals (have lB:B.toNat < l.length:=by omega)
 all_goals (rw [ZG,A4 (by simp;omega),A4 (by simp;omega),A4 (by simp;omega),A4 (by simp;omega),Abf lA])
 all_goals (try rw [Abf lB])
 all_goals (have a1:=hs.f A.toNat;have a2:=hs.v A.toNat;have b:=hs.f B.toNat;have d:=hs.v B.toNat)
 all_goals (generalize hP:l.getD A.toNat (Q4.cst 0) = P at a1 a2 ⊢;generalize hQ:l.getD B.toNat (Q4.cst 0) = Q at b d ⊢)
 . have e:f192 n (Am P) (Am Q) = _:=Ah8 a1 b a2 d (by omega) (by omega) hn
   have e:f192 n (((Am P).1.1,(Am P).1.2.1,(Am P).1.2.2),(Am P).2.1,(),(Am P).2.2.2.1,(Am P).2.2.2.2.1,(Am P).2.2.2.2.2) (((Am Q).1.1,(Am Q).1.2.1,(Am Q).1.2.2),(Am Q).2.1,(),(Am Q).2.2.2.1,(Am Q).2.2.2.2.1,(Am Q).2.2.2.2.2) = some _:=e;rw [e,A2];rfl
 . have e:f193 n (Am Q) (rq (-1)) = _:=Axt b d (Fi (a:=-1) (by omega) |>.mono (by omega)) (by omega) (by omega) hn
   have e:f193 n (((Am Q).1.1,(Am Q).1.2.1,(Am Q).1.2.2),(Am Q).2.1,(),(Am Q).2.2.2.1,(Am Q).2.2.2.2.1,(Am Q).2.2.2.2.2) (rq (-1)) = some _:=e
   have e2:f192 n (Am P) (jn (Q.f * -1) (Q.v * -1)) = _:=Ah8 (L:=60) (K:=K + 5) (a1.mono (by omega)) ((Ft b (Fi (a:=-1) (by omega))).mono (by omega)) (a2.mono (by omega)) ((Ft d (Fi (a:=-1) (by omega))).mono (by omega)) (by omega) (by omega) hn
   have e2:f192 n (((Am P).1.1,(Am P).1.2.1,(Am P).1.2.2),(Am P).2.1,(),(Am P).2.2.2.1,(Am P).2.2.2.2.1,(Am P).2.2.2.2.2) (jn (Q.f * -1) (Q.v * -1)) = some _:=e2;rw [iWm hn,A2,e,A2,e2,A2,Rat.mul_neg,Rat.mul_one,Rat.mul_neg,Rat.mul_one];rfl
 . have e:f194 n (Am P) (Am Q) = _:=Abe a1 b a2 d (by omega) (by omega) hn
   have e:f194 n (((Am P).1.1,(Am P).1.2.1,(Am P).1.2.2),(Am P).2.1,(),(Am P).2.2.2.1,(Am P).2.2.2.2.1,(Am P).2.2.2.2.2) (((Am Q).1.1,(Am Q).1.2.1,(Am Q).1.2.2),(Am Q).2.1,(),(Am Q).2.2.2.1,(Am Q).2.2.2.2.1,(Am Q).2.2.2.2.2) = some _:=e;rw [e,A2];rfl
 . have z:f195 n (rq Q.f) = _:=B3e;have z:f195 n ((rq Q.f).1,(rq Q.f).2.1,(rq Q.f).2.2) = _:=z;have z:f195 n ((Am Q).1.1,(Am Q).1.2.1,(Am Q).1.2.2) = _:=z;rw [z,A2,QI];by_cases h0:Q.f = 0
   . rw [QL h0,QL h0]
   . rw [QK h0,QK h0]
     have e:f196 n (Am Q) = _:=B3d b h0 d (by omega) (by omega) hn
     have e:f196 n (((Am Q).1.1,(Am Q).1.2.1,(Am Q).1.2.2),(Am Q).2.1,(),(Am Q).2.2.2.1,(Am Q).2.2.2.2.1,(Am Q).2.2.2.2.2) = some _:=e
     have g:Sz (1 / Q.f) (3 + 40 + 1):=Aja (Fi (a:=1) (by omega)) b h0
     have e2:f194 n (Am P) (jn (1 / Q.f) (-(1 / Q.f * (1 / Q.f)) * Q.v)) = _:=Abe (L:=60) (K:=K + 100) (a1.mono (by omega)) (g.mono (by omega)) (a2.mono (by omega)) ((Ft (Af7 (Ft g g)) d).mono (by omega)) (by omega) (by omega) hn
     have e2:f194 n (((Am P).1.1,(Am P).1.2.1,(Am P).1.2.2),(Am P).2.1,(),(Am P).2.2.2.1,(Am P).2.2.2.2.1,(Am P).2.2.2.2.2) (jn (1 / Q.f) (-(1 / Q.f * (1 / Q.f)) * Q.v)) = some _:=e2;rw [e,A2,e2,A2]
     have c:P.v * (1 / Q.f) + P.f * (-(1 / Q.f * (1 / Q.f)) * Q.v) = (Q4.mul P (Q4.inv Q)).v:=by
      simp only [Q4.mul,Q4.inv];generalize 1 / Q.f = r;grind
     rw [c];rfl
 . have e:f193 n (Am P) (rq (-1)) = _:=Axt a1 a2 (Fi (a:=-1) (by omega) |>.mono (by omega)) (by omega) (by omega) hn
   have e:f193 n (((Am P).1.1,(Am P).1.2.1,(Am P).1.2.2),(Am P).2.1,(),(Am P).2.2.2.1,(Am P).2.2.2.2.1,(Am P).2.2.2.2.2) (rq (-1)) = some _:=e;rw [iWm hn,A2,e,A2,Rat.mul_neg,Rat.mul_one,Rat.mul_neg,Rat.mul_one];rfl
 . obtain ⟨N',rfl⟩:∃ N':Nat,N = (N':Int):=⟨N.toNat,by omega⟩
   have e0:f197 n (rq P.f) (N':Int) = _:=Abh a1 (by omega) (by omega) hn
   have e0:f197 n ((Am P).1.1,(Am P).1.2.1,(Am P).1.2.2) (N':Int) = some _:=e0
   have e:f198 n (Am P) (N':Int) = _:=Av5 a1 a2 (by omega) (by omega) (by omega) hn
   have e:f198 n (((Am P).1.1,(Am P).1.2.1,(Am P).1.2.2),(Am P).2.1,(),(Am P).2.2.2.1,(Am P).2.2.2.2.1,(Am P).2.2.2.2.2) (N':Int) = some _:=e;rw [e0,A2,Ak1,A2,QS]
   cases hfit:Cu (P.f ^ N') with
   | false=>simp only [XI,XO,if_true]
   | true =>
    simp only [ZX,ZD,Bool.true_eq_false,if_false];rw [e,A2,Q4.pow_eq];rfl

structure SzQ (q:Q4) (L:Nat):Prop where
 f:Sz q.f L
 a:Sz q.a L
 v:Sz q.v L
 c:Sz q.c L

theorem SzQ.mono {q:Q4} {L K:Nat} (h:SzQ q L) (hK:L <= K):SzQ q K:=⟨h.f.mono hK,h.a.mono hK,h.v.mono hK,h.c.mono hK⟩

theorem sW1 {n:Nat} (hn:68719476736 <= n):f127 n 1 = some (rq 1):=Anb (a:=1) (by omega) (by omega)

def A23 (e:List Nod) (d:Int):Prop:=∀ k,k < e.length->Er (e.getD k (0,0,0,0)) k /\ ((e.getD k (0,0,0,0)).1 = 2->(e.getD k (0,0,0,0)).2.2.2 < d)

theorem Km {e:List Nod} {i:Nat} (h:i < e.length):e.drop i = e.getD i (0,0,0,0) :: e.drop (i + 1):=by
 rw [XN h,QH,QN h];rfl

def Gq (q:Q4):Bool:=Cu q.f && Cu q.v

theorem A3z {l:List Q4} {q:Q4} {k:Nat} (h:k < l.length):(l ++ [q]).getD k (Q4.cst 0) = l.getD k (Q4.cst 0):=by
 simp only [QH,QW h]

theorem A40 {l:List Q4} {q:Q4}:(l ++ [q]).getD l.length (Q4.cst 0) = q:=by
 rw [QH,QZ (QY _)];simp

theorem Sd {l:List Q4} {k:Nat} (h:l.length <= k):l.getD k (Q4.cst 0) = Q4.cst 0:=by
 rw [QH,KA h];rfl

theorem Aur {x u w:Nat->Rat} {l:List Q4} {n:Nod} (h:n.1 = 8):(Bn x u w l n).f = (l.getD n.2.1.toNat (Q4.cst 0)).f ^ n.2.2.2.toNat:=by
 unfold Bn
 rw [QK (by omega),QK (by omega),QK (by omega),QK (by omega),QK (by omega),QK (by omega),QK (by omega),Q4.pow_eq]

theorem B7n {l:List Q4} (h:∀ k,k < l.length->Gq (l.getD k (Q4.cst 0)) = true):Ayg l 40:=by
 have key:∀ k,Sz (l.getD k (Q4.cst 0)).f 40 /\ Sz (l.getD k (Q4.cst 0)).v 40:=fun k=>by
  rcases XF k l.length with h1 | h1
  . have:=h k h1;unfold Gq at this;simp only [QE,Ii] at this;exact this
  . rw [Sd h1];exact ⟨Ld.mono (by omega),Ld.mono (by omega)⟩
 exact ⟨fun k=>(key k).1,fun k=>(key k).2⟩

theorem Ah9 {α:Type} {n:Nat} {X V:List Rat} {e:List Nod} (hp:A23 e X.length) (he:e.length <= 60) (hVX:V.length = X.length) (hn:68719476736 <= n)
  {k0:Int->Option α} {k1:List Jn->Option α}:∀ (m:Nat) (l:List Q4),(∀ k,k < l.length->Gq (l.getD k (Q4.cst 0)) = true)->l.length <= e.length->e.length < l.length + m ->
  X4 n m (vq X) e (e.length:Int) (l.length:Int) 0 (l.map Am) k0 k1 = match Dg Gq (Dr X) (fun _=>0) (fun _=>0) (e.drop l.length) l with
   | .inl l'=>k1 (l'.map Am)
   | .inr c=>k0 c
 | 0,l,hs,hl,hm=>by omega
 | m + 1,l,hs,hl,hm=>by
  rw [At3];unfold A1q;rw [QI];by_cases h:l.length < e.length
  . obtain ⟨h1,h2⟩:=hp _ h
    rw [QL (by omega),A4 (by simp;omega),QS,Km h,Dg]
    generalize hx:e.getD l.length (0,0,0,0) = x at h1 h2
    have hg:=Av6 (n:=n) (X:=X) (V:=V) h1 (fun h=>⟨h2 h,by rw [hVX];exact h2 h⟩) (B7n hs) (by omega) hn
    dsimp only
    rw [hg,A2,A4 (by simp)]
    generalize hq:Bn (Dr X) (fun _=>0) (fun _=>0) l x = q;by_cases hb:Fw l x
    . have hb':x.1 = 6 /\ (l.getD x.2.2.1.toNat (Q4.cst 0)).f = 0:=hb;rw [QL hb,QL hb'];rfl
    . have hb':¬ (x.1 = 6 /\ (l.getD x.2.2.1.toNat (Q4.cst 0)).f = 0):=hb;rw [QK hb,QK hb'];by_cases h8:x.1 = 8 /\ Cu ((l.getD x.2.1.toNat (Q4.cst 0)).f ^ x.2.2.2.toNat) = false
      . rw [QL h8]
        have:Gq q = false:=by
         unfold Gq;rw [<- hq,Aur h8.1,h8.2];rfl
        rw [this,QK (by simp)];rfl
      . rw [QK h8];show (ob (f167 n (jn q.f q.v)) fun a=>_) = _;rw [Ayy hn,A2]
        show (bif (!Gq q) then k0 7 else _) = _
        cases hf:Gq q with
        | false=>rfl
        | true =>
         rw [ZX,ZD,A4 (by simp;omega),Ad (by omega) (by omega)]
         simp only [if_true]
         have:=Ah9 hp he hVX hn (k0:=k0) (k1:=k1) m (l ++ [q]) (fun k hk=>by
          simp only [XH,ZA,ZZ] at hk;rcases XF k l.length with h3 | h3
          . rw [A3z h3];exact hs k h3
          . obtain rfl:k = l.length:=by omega
            rw [A40];exact hf) (by simp;omega) (by simp;omega)
         rw [XH,JL] at this;exact this
  . have h0:l.length = e.length:=by omega
    rw [QK (by omega),ZC (by omega)]
    rfl

theorem Ayx {n:Nat} {X V:List Rat} {e:List Nod} (hp:A23 e X.length) (he:e.length <= 60) (hVX:V.length = X.length) (hn:68719476736 <= n) :
  f104 n (0,()) e (vq X) = some (match Dg Gq (Dr X) (fun _=>0) (fun _=>0) e [] with
   | .inl l=>(l.map Am,0)
   | .inr c=>([],c)):=by
 unfold f104
 have:=Ah9 (n:=n) hp he hVX hn (k0:=fun a=>(some (([],a):List Jn × Int))) (k1:=fun b=>some (b,0)) n [] (by simp) (by simp) (by simp;omega)
 refine Eq.trans this ?_;rw [ZZ,ZR]
 cases Dg Gq (Dr X) (fun _=>0) (fun _=>0) e [] <;> rfl

theorem Aj1:∀ (l:List Nod) (s:Int),s <= Gw s l /\ ∀ x ∈ l,x.1 = 2->0 <= x.2.2.2 /\ x.2.2.2 <= 3->x.2.2.2 < Gw s l
 | [],s=>⟨JV _,fun x h=>by simp at h⟩
 | y :: l,s=>by
  obtain ⟨h1,h2⟩:=Aj1 l (if y.1 = 2 then max s (W (y.2.2.2 + 1)) else s)
  have e:Gw s (y :: l) = Gw (if y.1 = 2 then max s (W (y.2.2.2 + 1)) else s) l:=rfl
  rw [e];refine ⟨Int.le_trans ?_ h1,fun x hx hx2 hx3=>?_⟩
  . split <;> omega
  . rcases QT.1 hx with rfl | hx
    . rw [QL hx2,Ad (by omega) (by omega)] at h1 ⊢
      omega
    . exact h2 x hx hx2 hx3

theorem B2v {l:List Rt} (h:T3 l = true):∃ X:List Rat,l = vq X /\ Sv X 40 /\ 1 <= X.length /\ X.length <= 4:=by
 unfold T3 at h;simp only [QE,QQ] at h;obtain ⟨X,rfl,hX⟩:=Axf h.2;rw [Lf] at h;exact ⟨X,rfl,hX,h.1.1,h.1.2⟩

theorem B7p {n:Nat} {x:Rat} {L:Nat} (h:Sz x L) (hL:L <= 1000000000):f91 n (rq x) = some (rq x):=by
 obtain ⟨h1,h2⟩:=h;unfold f91
 rw [A4 (by show decide ((0 + (dg x.num.natAbs).length) * 8 <= _) = true;simp;omega),A4 (by show decide ((0 + (dg x.den).length) * 8 <= _) = true;simp;omega)]

theorem B80:Cu 0 = true:=Ii.2 (Ld.mono (by omega))

theorem B7o {x:Rat} (h:Sz x 40):Sm (rq x):=⟨ZK h.1 (by omega),ZK h.2 (by omega)⟩

def hasN (l:List Nod) (x:Nod):Bool:=l.any fun y=>decide (y = x)

theorem Ans {x y:Nod}:(x.1 == y.1 && (x.2.1 == y.2.1 && (x.2.2.1 == y.2.2.1 && (x.2.2.2 == y.2.2.2 && true)))) = decide (y = x):=by
 obtain ⟨a,b,c,d⟩:=x;obtain ⟨a',b',c',d'⟩:=y;by_cases h:(a',b',c',d') = (a,b,c,d)
 . obtain ⟨rfl,rfl,rfl,rfl⟩:a' = a /\ b' = b /\ c' = c /\ d' = d:=by simpa using h
   simp
 . rw [QX h];simp only [XU,Bool.and_eq_false_iff,beq_eq_false_iff_ne];by_cases h1:a = a'
   . by_cases h2:b = b'
     . by_cases h3:c = c'
       . exact .inr (.inr (.inr fun h4=>h (by rw [h1,h2,h3,h4])))
       . exact .inr (.inr (.inl h3))
     . exact .inr (.inl h2)
   . exact .inl h1

theorem A8s {n:Nat} {l:List Nod} {x:Nod} (hl:l.length <= 1048576):∀ (m i:Nat),i <= l.length->l.length < i + m ->
  ∃ r:Int,P0 n m l (l.length:Int) (i:Int) x.1 x.2.1 x.2.2.1 x.2.2.2 (fun a=>some a) (fun (_:Unit)=>some (-1)) = some r /\ (decide (r >= 0)) = hasN (l.drop i) x
 | 0,i,hi,hm=>by omega
 | m + 1,i,hi,hm=>by
  rw [Asz];unfold A1n;rw [QI];by_cases h:i < l.length
  . have e:l.drop i = l.getD i (0,0,0,0) :: l.drop (i + 1):=Km h
    rw [QL (by omega),A4 (by simp;omega),QS,e]
    dsimp only;rw [Ans,QI];unfold hasN;by_cases h1:l.getD i (0,0,0,0) = x
    . rw [QL h1]
      exact ⟨_,rfl,by rw [YY,ZH h1,ZH (by omega)];rfl⟩
    . rw [QK h1,Ad (by omega) (by omega)]
      obtain ⟨r,h2,h3⟩:=A8s (n:=n) (x:=x) hl m (i + 1) (by omega) (by omega)
      exact ⟨r,h2,by rw [h3,YY,QX h1];rfl⟩
  . rw [QK (by omega),ZC (by omega)]
    exact ⟨-1,rfl,rfl⟩

theorem B00 {n:Nat} {l:List Nod} {x:Nod} (hl:l.length <= 1048576) (hn:1048577 <= n):f230 n l x = some (hasN l x):=by
 obtain ⟨r,h1,h2⟩:=A8s (n:=n) (x:=x) hl n 0 (by omega) (by omega)
 unfold f230 f110;have h1:P0 n n l (l.length:Int) 0 x.1 x.2.1 x.2.2.1 x.2.2.2 _ _ = _:=h1;rw [h1,A2,h2,ZR]

theorem A81 {n:Nat} {l:List Nod} {x:Nod} (hl:l.length <= 1048576):∀ (m i:Nat),i <= l.length->l.length < i + m ->
  ∃ r:Int,Wn n m l (i:Int) x.1 x.2.1 x.2.2.1 x.2.2.2 (fun a=>some a) (fun (_:Unit)=>some (-1)) = some r /\ (decide (r >= 0)) = hasN (l.drop i) x
 | 0,i,hi,hm=>by omega
 | m + 1,i,hi,hm=>by
  rw [Aqz];unfold A03;rw [QI];by_cases h:i < l.length
  . have e:l.drop i = l.getD i (0,0,0,0) :: l.drop (i + 1):=Km h
    rw [QL (by omega),A4 (by simp;omega),QS,e]
    dsimp only
    have:∀ y:Nod,(y.1 == x.1 && (y.2.1 == x.2.1 && (y.2.2.1 == x.2.2.1 && (y.2.2.2 == x.2.2.2 && true)))) = decide (y = x):=fun y=>by rw [Ans];exact decide_eq_decide.2 ⟨Eq.symm,Eq.symm⟩
    rw [this,QI];unfold hasN;by_cases h1:l.getD i (0,0,0,0) = x
    . rw [QL h1]
      exact ⟨_,rfl,by rw [YY,ZH h1,ZH (by omega)];rfl⟩
    . rw [QK h1,Ad (by omega) (by omega)]
      obtain ⟨r,h2,h3⟩:=A81 (n:=n) (x:=x) hl m (i + 1) (by omega) (by omega)
      exact ⟨r,h2,by rw [h3,YY,QX h1];rfl⟩
  . rw [QK (by omega),ZC (by omega)]
    exact ⟨-1,rfl,rfl⟩

theorem B0d {n:Nat} {x:Nod} {i:Int} (hi:0 <= i /\ i < 1152921504606846976):f210 n x i = some (decide (Er x i)):=by
 obtain ⟨op,A,B,N⟩:=x;unfold f210
 simp only [Aih,Aif,A2,L9,La,B1j hi,Ad (x:=i - 1) (by omega) (by omega),XE,QQ,KQ]
 have e:W (8 * (if op = 8 then 1 else 0)) = if op = 8 then 8 else 0:=by
  by_cases h:op = 8 <;> simp [h] <;> exact Ad (by omega) (by omega)
 unfold Er Pr Pq Pu;dsimp only;by_cases h1:3 <= op /\ op <= 6
 . obtain h | h | h | h:op = 3 \/ op = 4 \/ op = 5 \/ op = 6:=by omega
   all_goals (subst h;simp;grind)
 . by_cases h2:op = 7 \/ op = 8
   . rcases h2 with h | h
     . subst h
       rw [QK (by omega),QL (by simp),e]
       by_cases a1:0 <= A /\ A <= i - 1
       . by_cases a2:B = 0
         . simp [a1,a2]
           rw [<- Bool.decide_and];exact decide_eq_decide.2 (by omega)
         . simp [a1,a2]
       . simp [a1]
     . subst h
       rw [QK (by omega),QL (by simp),e]
       by_cases a1:0 <= A /\ A <= i - 1
       . by_cases a2:B = 0
         . simp [a1,a2]
         . simp [a1,a2]
       . simp [a1]
   . simp only [QK h1,QK h2];congr 1;apply decide_eq_decide.2;grind

theorem B0s {n:Nat} {l:List Nod} {x:Nod} (hl:l.length <= 1048576) (hn:1048577 <= n):∃ r:Int,f199 n l x = some r /\ decide (r >= 0) = hasN l x:=by
 obtain ⟨r,h1,h2⟩:=A81 (n:=n) (x:=x) hl n 0 (by omega) (by omega)
 exact ⟨r,h1,by rw [h2,ZR]⟩

def Aaj (e:List Nod) (k:Nat):Bool:=decide (Er (e.getD k (0,0,0,0)) k) && !hasN (e.take k) (e.getD k (0,0,0,0))

def J4 (e:List Nod):Nat->Nat->Bool
 | _,0=>true
 | k,c + 1=>Aaj e k && J4 e (k + 1) c

def H9 (e:List Nod) (o:Int):Bool:=decide (1 <= e.length /\ e.length <= 60) && (o == (e.length:Int) - 1 && J4 e 0 e.length)

theorem A7x {α:Type} {n:Nat} {e:List Nod} {o:Int} (hl:e.length <= 1000) (hn:1048577 <= n) {k0:Bool->Option α} {k1:Unit->Option α}:∀ (m i:Nat),i <= e.length->e.length < i + m ->
  Wl n m e (e.length:Int) (i:Int) e o k0 k1 = bif J4 e i (e.length - i) then k1 () else k0 false
 | 0,i,hi,hm=>by omega
 | m + 1,i,hi,hm=>by
  rw [Aqb];unfold Zn;rw [QI];by_cases h:i < e.length
  . obtain ⟨q,hq⟩:∃ q,e.length - i = q + 1:=⟨e.length - i - 1,by omega⟩
    have hq2:e.length - (i + 1) = q:=by omega
    rw [QL (by omega),A4 (by simp;omega),QS,hq]
    dsimp only
    rw [B02 (by omega),A2,A4 (by simp;omega)]
    simp only [ZR,KU]
    rw [B00 (by simp;omega) hn,A2,Ad (by omega) (by omega)]
    unfold J4 Aaj
    cases decide (Er (e.getD i (0,0,0,0)) i) with
    | false=>rfl
    | true =>
     cases hasN (e.take i) (e.getD i (0,0,0,0)) with
     | true=>rfl
     | false =>
      have:=A7x hl hn (o:=o) (k0:=k0) (k1:=k1) m (i + 1) (by omega) (by omega)
      rw [hq2] at this;exact this
  . rw [QK (by omega),show e.length - i = 0 by omega];rfl

theorem A8f {α:Type} {n:Nat} {e:List Nod} {o:Int} (hl:e.length <= 1000) (hn:1048577 <= n) {k0:Bool->Option α} {k1:Unit->Option α}:∀ (m i:Nat),i <= e.length->e.length < i + m ->
  Ww n m (i:Int) e o k0 k1 = bif J4 e i (e.length - i) then k1 () else k0 false
 | 0,i,hi,hm=>by omega
 | m + 1,i,hi,hm=>by
  rw [As5];unfold A10;rw [QI];by_cases h:i < e.length
  . obtain ⟨q,hq⟩:∃ q,e.length - i = q + 1:=⟨e.length - i - 1,by omega⟩
    have hq2:e.length - (i + 1) = q:=by omega
    rw [QL (by omega),A4 (by simp;omega),QS,hq]
    dsimp only
    rw [B0d (by omega),A2,A4 (by simp;omega),A4 (by simp;omega)]
    simp only [ZR,KU]
    obtain ⟨r,h1,h2⟩:=B0s (n:=n) (l:=e.take i) (x:=e.getD i (0,0,0,0)) (by simp;omega) hn
    rw [h1,A2,h2,Ad (by omega) (by omega)]
    unfold J4 Aaj
    cases decide (Er (e.getD i (0,0,0,0)) i) with
    | false=>rfl
    | true =>
     cases hasN (e.take i) (e.getD i (0,0,0,0)) with
     | true=>rfl
     | false =>
      have:=A8f hl hn (o:=o) (k0:=k0) (k1:=k1) m (i + 1) (by omega) (by omega)
      rw [hq2] at this;exact this
  . rw [QK (by omega),show e.length - i = 0 by omega];rfl

theorem B0b {n:Nat} {e:List Nod} {o:Int} (hN:e.length <= 1048576) (hn:1048577 <= n):f211 n (e,o) = some (H9 e o):=by
 unfold f211 H9;dsimp only;rw [Wr,A2];by_cases h1:(1:Int) <= (e.length:Int) /\ (e.length:Int) <= 60
 . rw [ZH h1,ZH (show 1 <= e.length /\ e.length <= 60 by omega),Ad (by omega) (by omega)]
   simp only [ZX,ZD,XT]
   cases ho:(o == (e.length:Int) - 1) with
   | false=>rw [show (o != (e.length:Int) - 1) = true by rw [bne,ho];rfl];rfl
   | true =>
    rw [show (o != (e.length:Int) - 1) = false by rw [bne,ho];rfl,ZD]
    have:=A7x (n:=n) (e:=e) (o:=o) (by omega) hn (k0:=fun a=>some a) (k1:=fun (_:Unit)=>some true) n 0 (by omega) (by omega)
    refine Eq.trans this ?_;rw [KU]
    cases J4 e 0 e.length <;> rfl
 . rw [QX h1,QX (show ¬ (1 <= e.length /\ e.length <= 60) by omega)];rfl

theorem B1q {n:Nat} {e:List Nod} {o:Int} (hN:e.length <= 1048576) (hn:1048577 <= n):f163 n (e,o) = some (H9 e o):=by
 unfold f163 H9;dsimp only;rw [L9,A2];by_cases h1:(1:Int) <= (e.length:Int) /\ (e.length:Int) <= 60
 . rw [ZH h1,ZH (show 1 <= e.length /\ e.length <= 60 by omega),Ad (by omega) (by omega)]
   simp only [ZX,ZD,XT]
   cases ho:(o == (e.length:Int) - 1) with
   | false=>rw [show (o != (e.length:Int) - 1) = true by rw [bne,ho];rfl];rfl
   | true =>
    rw [show (o != (e.length:Int) - 1) = false by rw [bne,ho];rfl,ZD]
    have:=A8f (n:=n) (e:=e) (o:=o) (by omega) hn (k0:=fun a=>some a) (k1:=fun (_:Unit)=>some true) n 0 (by omega) (by omega)
    refine Eq.trans this ?_;rw [KU]
    cases J4 e 0 e.length <;> rfl
 . rw [QX h1,QX (show ¬ (1 <= e.length /\ e.length <= 60) by omega)];rfl

theorem Aai {e:List Nod}:∀ {c k j:Nat},J4 e k c = true->k <= j->j < k + c->Aaj e j = true
 | 0,k,j,h,h1,h2=>by omega
 | c + 1,k,j,h,h1,h2=>by
  simp only [J4,QE] at h;rcases KW h1 with h3 | h3
  . exact Aai h.2 (by omega) (by omega)
  . subst h3;exact h.1

theorem Auf {e:List Nod} {o d:Int} (h:H9 e o = true) (hd:Gw 0 e <= d):A23 e d /\ 1 <= e.length /\ e.length <= 60 /\ o = (e.length:Int) - 1:=by
 unfold H9 at h;simp only [QE,QQ,KQ] at h;obtain ⟨h1,h2,h3⟩:=h;refine ⟨fun k hk=>?_,h1.1,h1.2,h2⟩
 have hs:=Aai h3 (KD k) (by omega)
 unfold Aaj at hs;simp only [QE,QQ] at hs;have hp:=hs.1;refine ⟨hp,fun h2=>?_⟩
 have hm:e.getD k (0,0,0,0) ∈ e:=by
  rw [QH,QN hk];exact JT hk
 have:=(Aj1 e 0).2 _ hm h2 (by have:=hp.2.1;unfold Pq at this;rw [QK (by omega),QL h2] at this;exact this)
 omega

theorem A6t {α:Type} {n L k:Nat} {x:Rat} (hx:Sz x L) (hL:L <= 1000) (hk:k <= 10) (hn:68719476736 <= n) {k0:Bool->Bool->List Int->List Int->Option α}:∀ (m i:Nat),i <= k->k < i + m ->
  Wx n m (k:Int) (i:Int) (rq x).1 (rq x).2.1 (rq x).2.2 false (rq (x ^ i)).1 (rq (x ^ i)).2.1 (rq (x ^ i)).2.2 k0 = k0 false (rq (x ^ k)).1 (rq (x ^ k)).2.1 (rq (x ^ k)).2.2
 | 0,i,hi,hm=>by omega
 | m + 1,i,hi,hm=>by
  rw [Asa];unfold A13;rw [QI];by_cases h:i < k
  . have l1:L * i <= L * 10:=YS _ (by omega)
    rw [QL (by omega)]
    show (ob (f150 n (rq (x ^ i)) (rq x)) fun a=>_) = _
    rw [sTm (Vd hx i) hx (by omega) hn,A2,Ad (by omega) (by omega),<- Rat.pow_succ]
    exact A6t hx hL hk hn m (i + 1) (by omega) (by omega)
  . obtain rfl:i = k:=by omega
    rw [QK (by omega)]

theorem B92 {n L k:Nat} {x:Rat} (hx:Sz x L) (hL:L <= 1000) (hk:k <= 10) (hn:68719476736 <= n):f153 n (rq x) (k:Int) = some (rq (x ^ k)):=by
 unfold f153;rw [sW1 hn,A2]
 have:=A6t (n:=n) hx hL hk hn (k0:=fun d a b c=>some ((a,b,c):Rt)) n 0 (by omega) (by omega)
 rw [Rat.pow_zero] at this;exact this

theorem div_one {x y:Rat}:x / y = x * (1 / y):=by rw [Rat.div_def,Rat.div_def,Rat.one_mul]

def Jz (q:Q4):Bool:=Cu q.f

def fq (q:Q4):Rt:=rq q.f

theorem G4 {l:List Q4} {k:Nat} (h:k < l.length):(l.map fq).getD k (false,[],[]) = rq (l.getD k (Q4.cst 0)).f:=by
 simp [QH,QN h,fq]

theorem Amz {α:Type} {n:Nat} {X:List Rat} {e:List Nod} {o:Int} {l:List Q4} {x:Nod} (hx:Er x l.length) (he:e.getD l.length (0,0,0,0) = x) (hl:l.length < e.length) (hl2:l.length <= 1000) (hd:x.1 = 2->x.2.2.2 < X.length)
  (hs:∀ k,k < l.length->Sz (l.getD k (Q4.cst 0)).f 40) (hX:Sv X 40) (hn:68719476736 <= n)
  {f:List Rt->Int->List Nod->Int->List Rt->Option α} {k0:List Rt->Int->Option α} {k1:List Rt->Option α} :
  O7 n (vq X) (l.length:Int) e o (l.map fq) f k0 k1 =
   if Fw l x then k0 [] 10 else if Jz (Bn (Dr X) (fun _=>0) (fun _=>0) l x) = true then f (vq X) ((l.length + 1:Nat):Int) e o ((l ++ [Bn (Dr X) (fun _=>0) (fun _=>0) l x]).map fq) else k0 [] 7:=by
 have J : ∀ q : Q4, (ob (f154 n (rq q.f)) fun a =>
       bif (!a) then
        k0 [] 7
       else
        ob (f91 n (rq q.f)) fun b =>
        gd (decide (((l.map fq).length + 1) * 56 <= 140737488355328)) (
         f (vq X) (W ((l.length:Int) + 1)) e o (l.map fq ++ [b]))) = if Jz q = true then f (vq X) ((l.length + 1:Nat):Int) e o ((l ++ [q]).map fq) else k0 [] 7:=by
  intro q
  rw [B7q,A2,Ad (by omega) (by omega)]
  unfold Jz
  cases hf:Cu q.f with
  | false=>rfl
  | true =>
   rw [ZX,ZD,B7p (Ii.1 hf) (by omega),A2,A4 (by simp;omega),JL]
   simp only [if_true];rfl
 obtain ⟨op,A,B,N⟩:=x;obtain ⟨⟨o1,o2⟩,hN,hA,hB⟩:=hx;unfold O7 Fw
 rw [QI,QL (by omega),A4 (by simp;omega),QS,he]
 unfold Pq at hN;unfold Pu at hA hB;unfold Bn
 have hNb:N.natAbs <= 1000000000:=by
  dsimp only at hN;split at hN
  . omega
  . split at hN
    . omega
    . split at hN <;> omega
 dsimp only at *
 rw [Anb (by omega) (by omega),A2]
 obtain rfl | rfl | rfl | rfl | rfl | rfl | rfl | rfl:op = 1 \/ op = 2 \/ op = 3 \/ op = 4 \/ op = 5 \/ op = 6 \/ op = 7 \/ op = 8:=by omega
 all_goals simp only [Int.reduceEq,or_self,or_true,true_or,if_false,if_true,Int.reduceBEq,XO,ZD,Int.reduceLT,gt_iff_lt,decide_true,decide_false,false_and,true_and] at *
 . exact J (Q4.cst (N:Rat))
 . have hd:=hd trivial
   rw [Lf,A4 (by simp;omega),Aa8 (by omega)]
   exact J ⟨Dr X N.toNat,0,0,0⟩
 all_goals (have lA:A.toNat < l.length:=by omega)
 . have lB:B.toNat < l.length:=by omega
   rw [ZG,A4 (by simp;omega),A4 (by simp;omega),A4 (by simp;omega),A4 (by simp;omega),G4 lA,G4 lB,sPl (hs _ lA) (hs _ lB) (by omega) hn,A2]
   have:=J (Q4.add (l.getD A.toNat (Q4.cst 0)) (l.getD B.toNat (Q4.cst 0)));rw [ZG] at this;exact this
 . have lB:B.toNat < l.length:=by omega
   rw [ZG,A4 (by simp;omega),A4 (by simp;omega),A4 (by simp;omega),A4 (by simp;omega),G4 lA,G4 lB,sLs (hs _ lA) (hs _ lB) (by omega) hn,A2,Rat.sub_eq_add_neg]
   have:=J (Q4.add (l.getD A.toNat (Q4.cst 0)) (Q4.neg (l.getD B.toNat (Q4.cst 0))));rw [ZG] at this;exact this
 . have lB:B.toNat < l.length:=by omega
   rw [ZG,A4 (by simp;omega),A4 (by simp;omega),A4 (by simp;omega),A4 (by simp;omega),G4 lA,G4 lB,sTm (hs _ lA) (hs _ lB) (by omega) hn,A2]
   have:=J (Q4.mul (l.getD A.toNat (Q4.cst 0)) (l.getD B.toNat (Q4.cst 0)));rw [ZG] at this;exact this
 . have lB:B.toNat < l.length:=by omega
   rw [ZG,A4 (by simp;omega),A4 (by simp;omega),G4 lB,show f145 n (rq (l.getD B.toNat (Q4.cst 0)).f) = some (decide ((l.getD B.toNat (Q4.cst 0)).f = 0)) from B30,A2,QI]
   by_cases h0:(l.getD B.toNat (Q4.cst 0)).f = 0
   . rw [QL h0,QL h0]
   . rw [QK h0,QK h0,A4 (by simp;omega),A4 (by simp;omega),A4 (by simp;omega),A4 (by simp;omega),G4 lA,sOv (hs _ lA) (hs _ lB) h0 (by omega) hn,A2,div_one]
     have:=J (Q4.mul (l.getD A.toNat (Q4.cst 0)) (Q4.inv (l.getD B.toNat (Q4.cst 0))));rw [ZG] at this;exact this
 . rw [ZG,A4 (by simp;omega),A4 (by simp;omega),G4 lA,Axj,A2]
   have:=J (Q4.neg (l.getD A.toNat (Q4.cst 0)));rw [ZG] at this;exact this
 . obtain ⟨N',rfl⟩:∃ N':Nat,N = (N':Int):=⟨N.toNat,by omega⟩
   rw [ZG,A4 (by simp;omega),A4 (by simp;omega),G4 lA,B92 (hs _ lA) (by omega) (by omega) hn,A2,QS]
   have:=J (Q4.pow (l.getD A.toNat (Q4.cst 0)) N');rw [ZG,Q4.pow_eq] at this;rw [Q4.pow_eq];exact this

theorem Aaa {α:Type} {n:Nat} {X:List Rat} {e:List Nod} {o:Int} (hp:A23 e X.length) (he:e.length <= 60) (hX:Sv X 40) (hn:68719476736 <= n)
  {k0:List Rt->Int->Option α} {k1:List Rt->Option α}:∀ (m:Nat) (l:List Q4),(∀ k,k < l.length->Sz (l.getD k (Q4.cst 0)).f 40)->l.length <= e.length->e.length < l.length + m ->
  A2m n m (vq X) (l.length:Int) e o (l.map fq) k0 k1 = match Dg Jz (Dr X) (fun _=>0) (fun _=>0) (e.drop l.length) l with
   | .inl l'=>k1 (l'.map fq)
   | .inr c=>k0 [] c
 | 0,l,hs,hl,hm=>by omega
 | m + 1,l,hs,hl,hm=>by
  rw [Avg];by_cases h:l.length < e.length
  . obtain ⟨h1,h2⟩:=hp _ h
    rw [Amz h1 rfl h (by omega) h2 hs hX hn,Km h,Dg]
    by_cases hb:Fw l (e.getD l.length (0,0,0,0))
    . rw [QL hb,QL hb]
    . rw [QK hb,QK hb];generalize hq:Bn (Dr X) (fun _=>0) (fun _=>0) l (e.getD l.length (0,0,0,0)) = q;by_cases hf:Jz q = true
      . rw [QL hf,QL hf]
        have:=Aaa hp he hX hn (o:=o) (k0:=k0) (k1:=k1) m (l ++ [q]) (fun k hk=>by
         simp only [XH,ZA,ZZ] at hk;rcases XF k l.length with h3 | h3
         . rw [A3z h3];exact hs k h3
         . obtain rfl:k = l.length:=by omega
           rw [A40];exact Ii.1 hf) (by simp;omega) (by simp;omega)
        rw [XH] at this;exact this
      . rw [QK hf,QK hf]
  . have h0:l.length = e.length:=by omega
    unfold O7
    rw [QI,QK (by omega),ZC (by omega)]
    rfl

theorem Aua {n:Nat} {X:List Rat} {e:List Nod} {o:Int} (hp:A23 e X.length) (he:e.length <= 60) (hX:Sv X 40) (hn:68719476736 <= n) :
  f93 n (e,o) (vq X) = some (match Dg Jz (Dr X) (fun _=>0) (fun _=>0) e [] with
   | .inl l=>(l.map fq,0)
   | .inr c=>([],c)):=by
 unfold f93
 have:=Aaa (n:=n) (o:=o) hp he hX hn (k0:=fun a b=>some ((a,b):List Rt × Int)) (k1:=fun d=>some (d,0)) n [] (by simp) (by simp) (by simp;omega)
 refine Eq.trans this ?_;rw [ZZ,ZR]
 cases Dg Jz (Dr X) (fun _=>0) (fun _=>0) e [] <;> rfl

def J0 (e:List Nod) (o:Int) (l:List Rt):Int:=if 4096 < l.length then 2 else if H9 e o = true /\ T3 l = true then (if (l.length:Int) < Gw 0 e then 8 else 0) else 1

theorem Awu {n:Nat} {e:List Nod} {o:Int} {l:List Rt} (hN:e.length <= 1048576) (hn:1048577 <= n):f103 n (e,o) l = some (J0 e o l):=by
 unfold f103 f166 J0
 rw [Aze (by simp) hn,A2,B0b hN hn,A2,It,A2,A2,B2c hn,A2,It,A2,U5 (by simp) hn,A2]
 have hL:Av0 [l] = decide (4096 < l.length):=by simp [Av0]
 rw [hL];by_cases h1:4096 < l.length
 . simp only [h1,decide_true,if_true]
   rw [show U0 [2,if H9 e o = true then 0 else 1,if T3 l = true then 0 else 1] = 2 from rfl,show ((2:Int) != 0) = true from rfl,XO,It,A2,U5 (by simp) hn];rfl
 . simp only [h1,decide_false,if_false,YB]
   cases h2:H9 e o with
   | true =>
    cases h3:T3 l with
    | true =>
     simp only [if_true,and_self]
     rw [show U0 [0,0,0] = 0 from rfl,show ((0:Int) != 0) = false from rfl,ZD,B2a hN hn,A2,It,A2,U5 (by simp) hn,A2]
     by_cases h4:(l.length:Int) < Gw 0 e
     . rw [QL h4,QK (by simp;omega)];rfl
     . rw [QK h4,QL (by simp;omega)];rfl
    | false =>
     simp only [if_true,YB,if_false,and_false]
     rw [show U0 [0,0,1] = 1 from rfl,show ((1:Int) != 0) = true from rfl,XO,It,A2,U5 (by simp) hn];rfl
   | false =>
    simp only [if_false,YB,false_and]
    rw [show ∀ b:Int,U0 [0,1,b] = 1 from fun _=>rfl,show ((1:Int) != 0) = true from rfl,XO,It,A2,U5 (by simp) hn];rfl

theorem Awv {n:Nat} {e:List Nod} {o:Int} {l:List Rt} (hN:e.length <= 1048576) (hn:1048577 <= n):f101 n (e,o) l = some (J0 e o l):=by
 unfold f101 f164 J0;rw [QI];by_cases h1:4096 < l.length
 . rw [QL (by omega),QL h1]
 . rw [QK (by omega),QK h1,B1q hN hn,A2]
   dsimp only
   cases h2:H9 e o with
   | true =>
    simp only [ZX,ZD];rw [B25 hn,A2]
    cases h3:T3 l with
    | true =>
     simp only [ZX,ZD,and_self,if_true];rw [B23 hN hn,A2,A2,QI];by_cases h4:(l.length:Int) < Gw 0 e
     . rw [QL h4,QL h4]
     . rw [QK h4,QK h4]
    | false=>simp
   | false=>simp

theorem B2r {e:List Nod} {o:Int} {l:List Rt} (h:J0 e o l = 0):H9 e o = true /\ T3 l = true /\ Gw 0 e <= l.length /\ l.length <= 4096:=by
 unfold J0 at h;split at h
 . omega
 . split at h
   . rename_i h1;split at h
     . omega
     . exact ⟨h1.1,h1.2,by omega,by omega⟩
   . omega

theorem Ait {n i:Nat} {l:List Q4} (h:i < l.length):f106 n (i:Int) (l.map Am) = some (rq (l.getD i (Q4.cst 0)).f):=by
 unfold f106
 rw [ZG,A4 (by simp;omega),QS,Abf h];rfl

theorem Ahd {l:List Q4} {i:Nat} (h:i < l.length):(l.take (i + 1)).map fq = (l.take i).map fq ++ [rq (l.getD i (Q4.cst 0)).f]:=by
 rw [KK h,JL,QH,QN h];rfl

theorem A8u {α:Type} {n:Nat} {l:List Q4} (hl:l.length <= 60) (hs:∀ k,k < l.length->Sz (l.getD k (Q4.cst 0)).f 40) {k0:List Rt->Option α}:∀ (m i:Nat),i <= l.length->l.length < i + m ->
  J7 n m (l.map Am) (l.length:Int) (i:Int) ((l.take i).map fq) k0 = k0 (l.map fq)
 | 0,i,hi,hm=>by omega
 | m + 1,i,hi,hm=>by
  rw [A9k];unfold Mf;rw [QI];by_cases h:i < l.length
  . rw [QL (by omega),Ait h,A2,Az4 (hs i h) (by omega),A2,A4 (by simp;omega),Ad (by omega) (by omega),<- Ahd h]
    exact A8u hl hs m (i + 1) (by omega) (by omega)
  . rw [QK (by omega),XM (by omega)]

theorem A3l {α:Type} {n:Nat} {l:List Q4} (hl:l.length <= 60) (hs:∀ k,k < l.length->Sz (l.getD k (Q4.cst 0)).f 40) {k0:List Rt->Option α}:∀ (m i:Nat),i <= l.length->l.length < i + m ->
  Hr n m (l.map Am) (l.length:Int) (i:Int) ((l.take i).map fq) k0 = k0 (l.map fq)
 | 0,i,hi,hm=>by omega
 | m + 1,i,hi,hm=>by
  rw [A62];unfold K2;rw [QI];by_cases h:i < l.length
  . rw [QL (by omega),Ait h,A2,Azf ((hs i h).mono (by omega)),A2]
    have hg:decide ((((l.take i).map fq).length + 1) * 56 <= 140737488355328) = true:=by simp;omega
    have hrec:=A3l (n:=n) hl hs (k0:=k0) m (i + 1) (by omega) (by omega)
    rw [Ahd h] at hrec;by_cases h0:(rq (l.getD i (Q4.cst 0)).f).2.1 = []
    . rw [QL h0];simp only [Gj]
      rw [A4 hg,Ad (by omega) (by omega)]
      rw [show ((rq (l.getD i (Q4.cst 0)).f).1,[],(rq (l.getD i (Q4.cst 0)).f).2.2) = rq (l.getD i (Q4.cst 0)).f by rw [<- h0]]
      exact hrec
    . rw [QK h0];simp only [Gj]
      rw [A4 hg,Ad (by omega) (by omega)]
      exact hrec
  . rw [QK (by omega),XM (by omega)]

theorem B2e {n:Nat} {l:List Q4} (hl:l.length <= 60) (hs:∀ k,k < l.length->Sz (l.getD k (Q4.cst 0)).f 40) (hn:1048577 <= n):Rk n (l.length:Int) (l.map Am) = some (l.map fq):=by
 unfold Rk
 have:=A8u (n:=n) hl hs (k0:=fun a=>some a) n 0 (by omega) (by omega)
 exact this

theorem Awt {n:Nat} {l:List Q4} (hl:l.length <= 60) (hs:∀ k,k < l.length->Sz (l.getD k (Q4.cst 0)).f 40) (hn:1048577 <= n):N6 n (l.length:Int) (l.map Am) = some (l.map fq):=by
 unfold N6
 have:=A3l (n:=n) hl hs (k0:=fun a=>some a) n 0 (by omega) (by omega)
 exact this

theorem Aup (x:Nat->Rat):Ew x (fun _:Bool=>fun _=>0) (fun _:Bool=>fun _=>0) (fun p=>(p true).f = (p false).f /\ (p false).v = 0):=by
 refine ⟨fun _=>⟨rfl,rfl⟩,fun _=>⟨rfl,rfl⟩,?_,?_,?_,?_⟩
 . rintro p q ⟨h1,h2⟩ ⟨g1,g2⟩
   simp only [Q4.add,h1,h2,g1,g2]
   exact ⟨trivial,by grind⟩
 . rintro p ⟨h1,h2⟩
   simp only [Q4.neg,h1,h2]
   exact ⟨trivial,by grind⟩
 . rintro p q ⟨h1,h2⟩ ⟨g1,g2⟩
   simp only [Q4.mul,h1,h2,g1,g2]
   exact ⟨trivial,by grind⟩
 . rintro p ⟨h1,h2⟩
   simp only [Q4.inv,h1,h2]
   exact ⟨trivial,by grind⟩

theorem B39 {l m:List Q4} (h:l.length = m.length) (hk:∀ k,(l.getD k (Q4.cst 0)).f = (m.getD k (Q4.cst 0)).f):l.map fq = m.map fq:=by
 apply List.ext_getElem
 . simp [h]
 . intro i h1 h2;simp only [ZG] at h1 h2;have:=hk i;simp only [QH,QN h1,QN h2,XP] at this;simp only [List.getElem_map,fq,this]

theorem Aue {X:List Rat} {e:List Nod}:(∃ c,Dg Jz (Dr X) (fun _=>0) (fun _=>0) e [] = .inr c /\ Dg Gq (Dr X) (fun _=>0) (fun _=>0) e [] = .inr c /\ c ≠ 0) \/
  ∃ l m,Dg Jz (Dr X) (fun _=>0) (fun _=>0) e [] = .inl l /\ Dg Gq (Dr X) (fun _=>0) (fun _=>0) e [] = .inl m /\ m.length = e.length /\ l.map fq = m.map fq /\ ∀ k,k < m.length->Sz (m.getD k (Q4.cst 0)).f 40:=by
 rcases Awz (Aup (Dr X)) (f:=Jz) (g:=Gq) (fun p hp=>by
   obtain ⟨h1,h2⟩:=hp;unfold Jz Gq
   rw [h1,h2,B80];simp) (fun p hp=>hp.1) e with ⟨c,h1,h2⟩ | ⟨l,m,h1,h2,h3,h4,h5⟩
 . exact .inl ⟨c,h1,h2,by rcases Aeg _ _ _ h1 with rfl | rfl <;> decide⟩
 . refine .inr ⟨l,m,h1,h2,h4,B39 (by omega) (fun k=>(h5 k).1),fun k hk=>?_⟩
   have:=(A67 e [] m (fun k hk=>by simp at hk) h2).1 k hk
   unfold Gq at this;simp only [QE,Ii] at this;exact this.1

theorem B7i {l:List Q4} (hl:l.length <= 60) (hs:∀ k,k < l.length->Sz (l.getD k (Q4.cst 0)).f 40):SmL (l.map fq):=by
 refine ⟨by simp;omega,fun y hy=>?_⟩
 obtain ⟨q,hq,rfl⟩:=ZN.1 hy;obtain ⟨i,hi,rfl⟩:=Qaz hq;have:=hs i hi;rw [QH,QN hi] at this;exact B7o this

theorem Aum {n:Nat} {e:List Nod} {o:Int} {l:List Rt} (hN:e.length <= 1048576) (hn:68719476736 <= n):∃ (r:List Rt) (c:Int),f52 n (e,o) l = some (r,c) /\ f51 n (e,o) l = some (r,c) /\
  A59 n (e,o) l = some (if c = 0 then .inl (r,0) else .inr ((),c)) /\ SmL r /\ (c ≠ 0->r = []):=by
 have h103:=Awu (n:=n) (e:=e) (o:=o) (l:=l) hN (by omega)
 have h101:=Awv (n:=n) (e:=e) (o:=o) (l:=l) hN (by omega)
 have nilS:SmL []:=⟨by simp,fun y hy=>by cases hy⟩
 by_cases ha:J0 e o l = 0
 . rw [ha] at h103 h101;obtain ⟨ht,hv,hd,hl⟩:=B2r ha;obtain ⟨X,rfl,hX,x1,x4⟩:=B2v hv;rw [Lf] at hd hl;obtain ⟨hp,e1,e60,eo⟩:=Auf ht hd
   have h104:=Ayx (n:=n) (X:=X) (V:=List.replicate X.length 0) hp e60 (by simp) hn
   have h93:=Aua (n:=n) (o:=o) hp e60 hX hn;rcases Aue (X:=X) (e:=e) with ⟨c,a,b,f⟩ | ⟨L,M,a,b,i,g,d⟩
   . rw [a] at h93;rw [b] at h104
     have hc:(c != 0) = true:=by simpa using f
     refine ⟨[],c,?_,?_,?_,nilS,fun _=>rfl⟩
     . unfold f52;rw [h103,A2,XV,ZD,h104,A2];dsimp only;rw [hc,XO]
     . unfold f51
       rw [QI,QK (by rw [Lf];omega),h101,A2,XV,ZD,h93,A2]
     . unfold A59;rw [h103,A2,XV,ZD,h104,A2];dsimp only;rw [hc,XO,QK f]
   . rw [a] at h93;rw [b] at h104
     refine ⟨M.map fq,0,?_,?_,?_,B7i (by omega) d,fun h=>absurd rfl h⟩
     . unfold f52;rw [h103,A2,XV,ZD,h104,A2];dsimp only
       rw [XV,ZD,ZG,B2e (by omega) d (by omega),A2]
     . unfold f51
       rw [QI,QK (by rw [Lf];omega),h101,A2,XV,ZD,h93,A2,<- g]
     . unfold A59;rw [h103,A2,XV,ZD,h104,A2];dsimp only
       rw [XV,ZD,ZG,Awt (by omega) d (by omega),A2,QL rfl]
 . refine ⟨[],J0 e o l,?_,?_,?_,nilS,fun _=>rfl⟩
   . unfold f52
     rw [h103,A2,show (J0 e o l != 0) = true by simpa using ha,XO]
   . unfold f51;rw [QI];by_cases h1:(l.length:Int) > 4096
     . rw [QL h1]
       have:J0 e o l = 2:=by unfold J0;rw [QL (by omega)]
       rw [this]
     . rw [QK h1,h101,A2,show (J0 e o l != 0) = true by simpa using ha,XO]
   . unfold A59
     rw [h103,A2,show (J0 e o l != 0) = true by simpa using ha,XO,QK ha]

theorem Azo {n:Nat} {e:List Nod} {o:Int} (hl:e.length <= 9223372036854775807):∃ r,f41 n (e,o) 1048576 = some r /\ (r = -1 \/ ((0 <= r /\ r <= 1048576) /\ e.length <= 1048576)):=by
 unfold f41 f80;dsimp only
 rw [Ad (by omega) (by omega),QI]
 by_cases h:e.length <= 1048576
 . rw [QK (by omega),A2,QI,QK (by omega)];exact ⟨_,rfl,.inr ⟨by omega,h⟩⟩
 . rw [QL (by omega),A2];exact ⟨_,rfl,.inl rfl⟩

theorem B4e {n:Nat} {e:List Nod} {o:Int} (hN:e.length <= 1048576) (hn:1048577 <= n):f43 n (e,o) = some (e,o):=by
 unfold f43 f82;dsimp only
 rw [A4 (by simp;omega)]
 have:=A91 (n:=n) hN (k0:=fun z=>some z) e n [] rfl (by simp) (by omega) (fun j hj=>by simp at hj)
 simp only [ZZ,KN] at this;rw [QS];have this:U3 n n e 0 (List.replicate e.length (0,0,0,0)) (fun z=>some z) = some e:=this;rw [this,A2]

theorem Azn {n:Nat} {e:List Nod} {o:Int} (hN:e.length <= 1048576) (hn:1048577 <= n):Aca n (e,o) = some (e,o):=by
 unfold Aca Avv;dsimp only
 rw [A4 (by simp;omega)]
 have:=A3p (n:=n) hN (k0:=fun z=>some z) e n [] rfl (by simp) (by omega) (fun j hj=>by simp at hj)
 simp only [ZZ,KN] at this;rw [QS];have this:O8 n n e 0 (List.replicate e.length (0,0,0,0)) (fun z=>some z) = some e:=this;rw [this,A2]

theorem B72 {n:Nat} {e:List Nod} {o:Int} {l:List Rt} (he:e.length <= 9223372036854775807) (hl:BdL l) (hn:68719476736 <= n):f10 n (e,o) l = some true:=by
 have hn1:1048577 <= n:=by omega
 unfold f10;obtain ⟨r,e1,c⟩:=Azo (n:=n) (o:=o) he;rw [e1,A2];rcases c with rfl | ⟨b,a⟩
 . rfl
 obtain ⟨r',e',c'⟩:=Azs b hl hn1
 rw [QI,QK (by omega),e',A2]
 rcases c' with rfl | ⟨b',sl⟩
 . rfl
 obtain ⟨R,c,a1,a2,a3,a4,a5⟩:=Aum (n:=n) (e:=e) (o:=o) (l:=l) a hn;have x1:f43 n (e,o) = some (e,o):=B4e a hn1;have x2:=B4l sl.1 sl.2 hn1;have x3:Aca n (e,o) = some (e,o):=Azn a hn1;have x4:=Azr sl hn1;have x5:=B4d (o:=o) a hn1;have x6:=Ape sl.1 sl.2 hn1;have m1:=Azl (n:=n) (o:=o) a hn1
 have m2:=Ahj (n:=n) (k:=1 + 4 * (e.length:Int)) sl (by omega) (by omega) hn1
 have z1:decide ((Ce l (1 + 4 * (e.length:Int))).1 < 0) = false:=by
  have:=Yi l (1 + 4 * (e.length:Int));simp;omega
 have one:decide ((1:Int) < 0) = false:=rfl;have q:f35 n R R = some true:=Ape a4.1 a4.2 hn1
 rw [QI,QK (by omega),x1,A2,x2,A2,a2,A2,x3,A2,x4,A2,a3,A2]
 by_cases h0:c = 0
 . subst h0;rw [QL rfl]
   have m3:=Ahj (n:=n) (k:=1) a4 (by omega) (by omega) hn1
   have h3:=B4a (n:=n) (k:=1) a4 (by omega) (by omega) hn1
   have z2:decide ((Ce R 1).1 < 0) = false:=by
    have:=Yi R 1;simp;omega
   simp only [Gj,A2,q,ZX,ZD,XV,x1,x2,x5,x6,m1,m2,a1,m3,h3,z1,z2,F5,Ji,Vj,XD,XU,Ih]
 . have e0:=a5 h0;subst e0;rw [QK h0];simp only [Gj,A2,q,ZX,ZD,XV,x1,x2,x5,x6,m1,m2,a1,Azp hn1,Azj hn1,z1,one,F5,Ji,Vj,XD,XU,Ih]

structure Aa3 (X V:List Rat) (e:List Nod):Prop where
 all:A23 e X.length
 len:e.length <= 60
 vx:V.length = X.length
 sX:Sv X 40
 sV:Sv V 40
 fit:∀ k,Sz ((evs (Dr X) (fun _=>0) (Dr V) e []).getD k (Q4.cst 0)).f 40
 ok:∀ i,i < e.length->¬ Fw (evs (Dr X) (fun _=>0) (Dr V) (e.take i) []) (e.getD i (0,0,0,0))

theorem Aa3.of {X V:List Rat} {e:List Nod} {l:List Q4} (ha:A23 e X.length) (hl:e.length <= 60) (hv:V.length = X.length) (sX:Sv X 40) (sV:Sv V 40) (h:Dg Jz (Dr X) (fun _=>0) (fun _=>0) e [] = .inl l):Aa3 X V e:=by
 obtain ⟨h1,h2⟩:=A67 e [] l (fun k hk=>by simp at hk) h
 refine ⟨ha,hl,hv,sX,sV,fun k=>?_,fun i hi hb=>?_⟩
 . rw [Axl (Dr X) (fun _=>0) (Dr V) (fun _=>0) (fun _=>0) e k,<- h2];rcases XF k l.length with h3 | h3
   . exact Ii.1 (h1 k h3)
   . rw [Sd h3];exact Ld.mono (by omega)
 . refine Aj0 e [] l h i hi ⟨hb.1,?_⟩;rw [Axl (Dr X) (fun _=>0) (fun _=>0) (fun _=>0) (Dr V)];exact hb.2

theorem Aa3.pre {X V:List Rat} {e:List Nod} (h:Aa3 X V e) {i:Nat} (hi:i <= e.length) (k:Nat):Sz ((evs (Dr X) (fun _=>0) (Dr V) (e.take i) []).getD k (Q4.cst 0)).f 40:=by
 rcases XF k i with h1 | h1
 . rw [B2l _ _ _ e h1 hi];exact h.fit k
 . rw [Sd (by rw [A66];simp;omega)];exact Ld.mono (by omega)

end Go.Ev
