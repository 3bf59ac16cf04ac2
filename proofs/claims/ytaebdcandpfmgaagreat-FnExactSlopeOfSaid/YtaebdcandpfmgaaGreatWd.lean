/- DERIVED. The plain laws: what the models compute. -/
import Derived.Test.YtaebdcandpfmgaaGreatWc

set_option linter.all false
set_option linter.unusedVariables false
set_option linter.unusedSimpArgs false

namespace Go.Ev
open Go

theorem Ae {x:Int} (h:-9223372036854775808 <= x) (h':x < 9223372036854775808):W x = x:=Apl h h'

@[simp] theorem A2 {α β:Type} (r:β) (k:β->Option α):ob (some r) k = k r:=rfl

@[simp] theorem Bbj {α β:Type} (k:β->Option α):ob (none:Option β) k = none:=rfl

@[simp] theorem Fb {α:Type} (x:Option α):gd true x = x:=rfl

@[simp] theorem Bbe {α:Type} (x:Option α):gd false x = none:=rfl

theorem A4 {α:Type} {g:Bool} (h:g = true) (x:Option α):gd g x = x:=by rw [h];rfl

theorem Adq (l:List Int) (a b:Int):l.foldl max a <= b ↔ a <= b /\ ∀ x ∈ l,x <= b:=by
 induction l generalizing a with
 | nil=>simp
 | cons y r ih =>
  simp only [List.foldl_cons,ih,QT,forall_eq_or_imp];constructor
  . rintro ⟨h,h'⟩;exact ⟨by omega,by omega,h'⟩
  . rintro ⟨h,h',h''⟩;exact ⟨by omega,h''⟩

theorem C1 {α:Type} {l m:List α} {i:Nat} {d:α} (h:i < l.length):(l ++ m).getD i d = l.getD i d:=by
 simp [QI,ZA h]

theorem Ch {α:Type} {l:List α} {x d:α}:(l ++ [x]).getD l.length d = x:=by
 simp [QI]

theorem D8 {α:Type} {l r:List α} {x d:α} {k:Nat} (h:l.drop k = x :: r):l.getD k d = x /\ k < l.length /\ l.drop (k + 1) = r:=by
 have hk:k < l.length:=by
  rcases XN k l.length with h' | h'
  . exact h'
  . rw [ZF h'] at h;cases h
 have:=XT hk;rw [h] at this;injection this with h1 h2
 exact ⟨by simp [QI,hk,h1],hk,h2.symm⟩

def vl:List Int->Int
 | []=>0
 | x :: r=>x + 10000 * vl r

def Lm (l:List Int):Prop:=∀ x ∈ l,0 <= x /\ x < 10000

def dg (n:Nat):List Int:=if n = 0 then [] else ((n % 10000:Nat):Int) :: dg (n / 10000)
termination_by n
decreasing_by omega

theorem Cd:dg 0 = []:=by rw [dg];rfl

theorem Em {n:Nat} (h:n ≠ 0):dg n = ((n % 10000:Nat):Int) :: dg (n / 10000):=by rw [dg,QH h]

theorem Lm.nil:Lm []:=fun _ h=>by cases h

theorem Lm.cons {x:Int} {l:List Int} (hx:0 <= x /\ x < 10000) (hl:Lm l):Lm (x :: l):=fun y hy=>by
 rcases QT.1 hy with rfl | hy
 . exact hx
 . exact hl y hy

theorem Lm.head {x:Int} {l:List Int} (h:Lm (x :: l)):0 <= x /\ x < 10000:=h x (by simp)

theorem Lm.tail {x:Int} {l:List Int} (h:Lm (x :: l)):Lm l:=fun y hy=>h y (by simp [hy])

theorem Lm.app {l m:List Int} (h:Lm l) (h':Lm m):Lm (l ++ m):=fun y hy=>(QF.1 hy).elim (h y) (h' y)

theorem Lm.take {l:List Int} (h:Lm l) (k:Nat):Lm (l.take k):=fun y hy=>h y (Qat hy)

theorem Lm.drop {l:List Int} (h:Lm l) (k:Nat):Lm (l.drop k):=fun y hy=>h y (Qar hy)

theorem Lm.set {l:List Int} (h:Lm l) (k:Nat) {x:Int} (hx:0 <= x /\ x < 10000):Lm (l.set k x):=fun y hy=>by
 rcases JY hy with hy | rfl
 . exact h y hy
 . exact hx

theorem Lm.get {l:List Int} (h:Lm l) (k:Nat):0 <= l.getD k 0 /\ l.getD k 0 < 10000:=by
 rw [QI]
 cases e:l[k]? with
 | none=>simp
 | some x=>exact h x (QV e)

theorem Lm.rep (n:Nat):Lm (List.replicate n 0):=fun y hy=>by
 obtain rfl:=(List.mem_replicate.1 hy).2;omega

theorem Dd (n:Nat):Lm (dg n):=by
 induction n using Nat.strongRecOn with
 | _ n ih =>
  by_cases h:n = 0
  . subst h;rw [Cd];exact Lm.nil
  . rw [Em h]
    exact Lm.cons (by omega) (ih _ (by omega))

theorem Bg (n:Nat):vl (dg n) = n:=by
 induction n using Nat.strongRecOn with
 | _ n ih =>
  by_cases h:n = 0
  . subst h;rw [Cd];rfl
  . rw [Em h,vl,ih _ (by omega)]
    omega

theorem B0 {l:List Int} (h:Lm l):0 <= vl l:=by
 induction l with
 | nil=>exact JR _
 | cons x r ih =>
  have:=h.head;have:=ih h.tail;simp only [vl];omega

theorem F4 (k:Nat):(0:Int) < 10000 ^ k:=Int.pow_pos (by omega)

theorem Bn (k:Nat):(10000:Int) ^ (k + 1) = 10000 * 10000 ^ k:=by rw [Int.pow_succ,Int.mul_comm]

theorem X7 {i j:Nat} (h:i <= j):(10000:Int) ^ i <= 10000 ^ j:=by
 induction j with
 | zero => obtain rfl : i = 0 := by omega
           exact JR _
 | succ j ih =>
  by_cases e:i = j + 1
  . subst e;exact JR _
  . have:=ih (by omega)
    have:=F4 j;rw [Bn];omega

theorem Am2 {i j:Nat} (h:(10000:Int) ^ i < 10000 ^ j):i < j:=by
 rcases XN i j with h' | h'
 . exact h'
 . have:=X7 h';omega

theorem H8 {l:List Int} (h:Lm l):vl l < 10000 ^ l.length:=by
 induction l with
 | nil=>simp [vl]
 | cons x r ih =>
  have:=h.head;have:=ih h.tail;simp only [vl,QU,Bn];omega

theorem A3k (l m:List Int):vl (l ++ m) = vl l + 10000 ^ l.length * vl m:=by
 induction l with
 | nil=>simp [vl]
 | cons x r ih=>simp only [YK,vl,ih,QU,Bn];grind

theorem P3 (l:List Int) (x:Int):vl (l ++ [x]) = vl l + 10000 ^ l.length * x:=by rw [A3k];simp [vl]

theorem Ud (n:Nat):vl (List.replicate n 0) = 0:=by
 induction n with
 | zero=>rfl
 | succ n ih=>simp [Qay,vl,ih]

theorem Bz {l:List Int} {k:Nat} (h:k < l.length):vl (l.take (k + 1)) = vl (l.take k) + 10000 ^ k * l.getD k 0:=by
 rw [JA h,P3,YO,JE (by omega),QI,QN h]
 rfl

theorem K7 {l:List Int} {k:Nat} (x:Int) (h:k < l.length):vl (l.set k x) = vl l + 10000 ^ k * (x - l.getD k 0):=by
 induction l generalizing k with
 | nil=>simp at h
 | cons y r ih =>
  cases k with
  | zero=>simp [vl];omega
  | succ k =>
   have:=ih (k:=k) (by simpa using h)
   simp only [List.set_cons_succ,vl,this,JV,Bn];grind

def Cn (l:List Int):Prop:=Lm l /\ (l ≠ []->l.getD (l.length - 1) 0 ≠ 0)

theorem Gf (n:Nat):Cn (dg n):=by
 refine ⟨Dd n,?_⟩
 induction n using Nat.strongRecOn with
 | _ n ih =>
  by_cases h:n = 0
  . subst h;rw [Cd];exact fun h=>absurd rfl h
  . rw [Em h];intro _;by_cases e:dg (n / 10000) = []
    . rw [e]
      have h0:n / 10000 = 0:=by
       have:=Bg (n / 10000);rw [e] at this;simp only [vl] at this;omega
      simp;omega
    . have:=ih (n / 10000) (by omega) e
      have hl:0 < (dg (n / 10000)).length:=XC.2 e;simp only [QU,Qab]
      rw [show (dg (n / 10000)).length = ((dg (n / 10000)).length - 1) + 1 by omega,JV]
      exact this

theorem Cn.tail {x:Int} {l:List Int} (h:Cn (x :: l)):Cn l:=by
 refine ⟨h.1.tail,fun hn=>?_⟩
 have:=h.2 (by simp)
 have hl:0 < l.length:=XC.2 hn;simp only [QU,Qab] at this
 rw [show l.length = (l.length - 1) + 1 by omega,JV] at this
 exact this

theorem Cn.pos {l:List Int} (h:Cn l) (hn:l ≠ []):0 < vl l:=by
 induction l with
 | nil=>exact absurd rfl hn
 | cons x r ih =>
  have hx:=h.1.head;have hr:=B0 h.1.tail;by_cases e:r = []
  . subst e
    have:=h.2 (by simp)
    simp at this;simp only [vl];omega
  . have:=ih h.tail e;simp only [vl];omega

theorem Hc {l:List Int} (h:Cn l):dg (vl l).toNat = l:=by
 induction l with
 | nil=>exact Cd
 | cons x r ih =>
  have hx:=h.1.head;have hr:=B0 h.1.tail
  have hp:=h.pos (by simp)
  have ih:=ih h.tail;simp only [vl] at hp ⊢
  rw [Em (by omega)]
  congr 1
  . omega
  . rw [<- ih];congr 1;rw [ih];omega

theorem Cn.ge {l:List Int} (h:Cn l) (hn:l ≠ []):(10000:Int) ^ (l.length - 1) <= vl l:=by
 have hl:0 < l.length:=XC.2 hn
 have h1:=Bz (l:=l) (k:=l.length - 1) (by omega)
 rw [show l.length - 1 + 1 = l.length by omega,YG] at h1
 have h2:=h.2 hn;have h3:=h.1.get (l.length - 1);have h4:=B0 (h.1.take (l.length - 1));have h5:=F4 (l.length - 1)
 have h6:(10000:Int) ^ (l.length - 1) * 1 <= 10000 ^ (l.length - 1) * l.getD (l.length - 1) 0:=XK (by omega) (by omega)
 omega

theorem Qb {n k:Nat}:(dg n).length <= k ↔ (n:Int) < 10000 ^ k:=by
 constructor
 . intro h;have:=H8 (Dd n);rw [Bg] at this;exact Int.lt_of_lt_of_le this (X7 h)
 . intro h;by_cases e:dg n = []
   . rw [e];simp
   . have:=(Gf n).ge e;rw [Bg] at this;have:=Am2 (Int.lt_of_le_of_lt this h);have hl:0 < (dg n).length:=XC.2 e;omega

theorem Avr {n:Nat}:dg n = [] ↔ n = 0:=by
 constructor
 . intro h;have:=Bg n;rw [h] at this;simp only [vl] at this;omega
 . rintro rfl;exact Cd

theorem B7 {a b:Nat} (h:a <= b):(dg a).length <= (dg b).length:=by
 refine Qb.2 ?_;have:=H8 (Dd b);rw [Bg] at this;omega

def cm (x y:Int):Int:=if x < y then -1 else if x = y then 0 else 1

theorem Ta {a b:List Int} (ha:Lm a) (hb:Lm b) {k:Nat} (h1:k < a.length) (h2:k < b.length) (h:a.getD k 0 < b.getD k 0):vl (a.take (k + 1)) < vl (b.take (k + 1)):=by
 rw [Bz h1,Bz h2];have q1:=H8 (ha.take k)
 rw [YO,JE (by omega)] at q1
 have q2:=B0 (hb.take k)
 have q3:(10000:Int) ^ k * (a.getD k 0 + 1) <= 10000 ^ k * b.getD k 0:=XK (by omega) (by have:=F4 k;omega)
 rw [Int.mul_add,Int.mul_one] at q3;omega

theorem Cn.lt_of_len {a b:List Int} (ha:Cn a) (hb:Cn b) (h:a.length < b.length):vl a < vl b:=by
 have h1:=H8 ha.1
 have h2:=hb.ge (by intro e;subst e;simp at h)
 have h3:(10000:Int) ^ a.length <= 10000 ^ (b.length - 1):=X7 (by omega)
 omega

theorem Cn.of_take {l:List Int} (h:Lm l) {t:Nat} (ht:t <= l.length) (hl:t = 0 \/ l.getD (t - 1) 0 ≠ 0):Cn (l.take t):=by
 refine ⟨h.take t,fun hn=>?_⟩
 have hlen:(l.take t).length = t:=by simp;omega
 rcases hl with rfl | hl
 . simp at hn
 . have ht0:t ≠ 0:=by rintro rfl;simp at hn
   rw [hlen,QI,XD,QK (by omega),<- QI]
   exact hl

theorem tdv {x:Int} (h:0 <= x):Int.tdiv x 10000 = x / 10000:=KF h

theorem tmd {x:Int} (h:0 <= x):Int.tmod x 10000 = x % 10000:=Int.tmod_eq_emod_of_nonneg h

theorem Aj9 {α:Type} {n:Nat} {l:List Int} (hN:l.length <= 1099511627776) {k0:List Int->Int->Option α}:∀ (m k:Nat),k < m->k <= l.length ->
  ∃ t,t <= k /\ Y7 n m l (k:Int) k0 = k0 l (t:Int) /\ vl (l.take t) = vl (l.take k) /\ (t = 0 \/ l.getD (t - 1) 0 ≠ 0)
 | 0,k,h,_=>by omega
 | m + 1,k,h,hk=>by
  rw [Asv];unfold A17;dsimp only;by_cases h0:k = 0
  . subst h0;exact ⟨0,QY _,rfl,rfl,.inl rfl⟩
  . rw [QJ,QK (by omega),Ae (by omega) (by omega),A4 (by simp;omega)]
    have e:((k:Int) - 1).toNat = k - 1:=by omega
    rw [e,XI];by_cases hz:l.getD (k - 1) 0 = 0
    . rw [QK (by rw [hz];rfl)]
      obtain ⟨t,h1,h2,h3,h4⟩:=Aj9 (n:=n) hN (k0:=k0) m (k - 1) (by omega) (by omega)
      refine ⟨t,by omega,?_,?_,h4⟩
      . rw [show (k:Int) - 1 = ((k - 1:Nat):Int) by omega];exact h2
      . rw [h3]
        have:=Bz (l:=l) (k:=k - 1) (by omega)
        rw [show k - 1 + 1 = k by omega,hz] at this
        rw [this];simp
    . rw [QH (by simpa using hz)]
      exact ⟨k,QY _,rfl,rfl,.inr hz⟩

theorem Y6 {n:Nat} {l:List Int} (hl:Lm l) (hN:l.length <= 1099511627776) (hn:l.length < n):f218 n l = some (dg (vl l).toNat):=by
 unfold f218;obtain ⟨t,h1,h2,h3,h4⟩:=Aj9 (n:=n) hN (k0:=fun b a=>gd (decide (0 <= a) && decide (a <= (b.length:Int))) (gd (decide ((0 + ((b.drop 0).take (a.toNat - 0)).length) * 8 <= 140737488355328)) (some ((b.drop 0).take (a.toNat - 0))))) n l.length hn (QY _)
 rw [h2,A4 (by simp;omega),A4 (by simp;omega)]
 simp only [XG,QS,Qan];rw [YG] at h3
 rw [<- h3,Hc (Cn.of_take hl (by omega) h4)]

theorem Aj8 {α:Type} {n:Nat} {l:List Int} (hN:l.length <= 1099511627776) {k0:List Int->Int->Option α}:∀ (m k:Nat),k < m->k <= l.length ->
  ∃ t,t <= k /\ Y3 n m l (k:Int) k0 = k0 l (t:Int) /\ vl (l.take t) = vl (l.take k) /\ (t = 0 \/ l.getD (t - 1) 0 ≠ 0)
 | 0,k,h,_=>by omega
 | m + 1,k,h,hk=>by
  rw [Asr];unfold A0y;dsimp only;by_cases h0:k = 0
  . subst h0;exact ⟨0,QY _,rfl,rfl,.inl rfl⟩
  . rw [QJ,QK (by omega),Ae (by omega) (by omega),A4 (by simp;omega)]
    have e:((k:Int) - 1).toNat = k - 1:=by omega
    rw [e,XI];by_cases hz:l.getD (k - 1) 0 = 0
    . rw [QK (by rw [hz];rfl)]
      obtain ⟨t,h1,h2,h3,h4⟩:=Aj8 (n:=n) hN (k0:=k0) m (k - 1) (by omega) (by omega)
      refine ⟨t,by omega,?_,?_,h4⟩
      . rw [show (k:Int) - 1 = ((k - 1:Nat):Int) by omega];exact h2
      . rw [h3]
        have:=Bz (l:=l) (k:=k - 1) (by omega)
        rw [show k - 1 + 1 = k by omega,hz] at this
        rw [this];simp
    . rw [QH (by simpa using hz)]
      exact ⟨k,QY _,rfl,rfl,.inr hz⟩

theorem Po {n:Nat} {l:List Int} (hl:Lm l) (hN:l.length <= 1099511627776) (hn:l.length < n):f225 n l = some (dg (vl l).toNat):=by
 unfold f225;obtain ⟨t,h1,h2,h3,h4⟩:=Aj8 (n:=n) hN (k0:=fun b a=>gd (decide (0 <= a) && decide (a <= (b.length:Int))) (some ((b.drop 0).take (a.toNat - 0)))) n l.length hn (QY _)
 rw [h2,A4 (by simp;omega)]
 simp only [XG,QS,Qan];rw [YG] at h3
 rw [<- h3,Hc (Cn.of_take hl (by omega) h4)]

theorem Acm {α:Type} {n:Nat} {k0:List Int->Option α}:∀ (m x:Nat) (o:List Int),(x:Int) <= 9223372036854775807->(dg x).length < m->o.length + (dg x).length <= 1099511627776->Yi n m (x:Int) o k0 = k0 (o ++ dg x)
 | 0,x,o,_,h,_=>by omega
 | m + 1,x,o,hx,h,hN=>by
  rw [Au7];unfold A2h;dsimp only;by_cases h0:x = 0
  . subst h0;rw [Cd];simp
  . rw [Em h0] at h hN ⊢;simp only [QU] at h hN
    rw [QJ,QK (by omega),A4 (by simp;omega),tdv (by omega),tmd (by omega),Ae (by omega) (by omega),show (x:Int) / 10000 = ((x / 10000:Nat):Int) by omega,show (x:Int) % 10000 = ((x % 10000:Nat):Int) by omega]
    rw [Acm (n:=n) m (x / 10000) _ (by omega) (by omega) (by simp;omega)]
    simp

theorem Q0 {n:Nat} {x:Nat} (hx:(x:Int) <= 9223372036854775807) (hn:10 < n):f181 n (x:Int) = some (dg x):=by
 have hl:(dg x).length <= 5:=Qb.2 (by rw [show (10000:Int) ^ 5 = 100000000000000000000 from rfl];omega)
 unfold f181
 rw [Acm (n:=n) n x [] hx (by omega) (by simp;omega)]
 simp

theorem Acn {α:Type} {n:Nat} {k0:List Int->Option α}:∀ (m x:Nat) (o:List Int),(x:Int) <= 9223372036854775807->(dg x).length < m->o.length + (dg x).length <= 1099511627776->Yj n m (x:Int) o k0 = k0 (o ++ dg x)
 | 0,x,o,_,h,_=>by omega
 | m + 1,x,o,hx,h,hN=>by
  rw [Aud];unfold A2k;dsimp only;by_cases h0:x = 0
  . subst h0;rw [Cd];simp
  . rw [Em h0] at h hN ⊢;simp only [QU] at h hN
    rw [QJ,QK (by omega),A4 (by simp;omega),tdv (by omega),tmd (by omega),Ae (by omega) (by omega),show (x:Int) / 10000 = ((x / 10000:Nat):Int) by omega,show (x:Int) % 10000 = ((x % 10000:Nat):Int) by omega]
    rw [Acn (n:=n) m (x / 10000) _ (by omega) (by omega) (by simp;omega)]
    simp

theorem A81 {n:Nat} {x:Nat} (hx:(x:Int) <= 9223372036854775807) (hn:10 < n):f179 n (x:Int) = some (dg x):=by
 have hl:(dg x).length <= 5:=Qb.2 (by rw [show (10000:Int) ^ 5 = 100000000000000000000 from rfl];omega)
 unfold f179
 rw [Acn (n:=n) n x [] hx (by omega) (by simp;omega)]
 simp

theorem Q5 {n:Nat} {b:Bool}:f170 n b = some (if b = true then 1 else 0):=by cases b <;> rfl

theorem Ip {x y:Int} (h:x < y):cm x y = -1:=by unfold cm;rw [QK h]

theorem Iq {x y:Int} (h:y < x):cm x y = 1:=by unfold cm;rw [QH (by omega),QH (by omega)]

theorem K5 {x y:Int} (h:x = y):cm x y = 0:=by unfold cm;rw [QH (by omega),QK h]

theorem Avu (x y z:Int):cm (x + z) (y + z) = cm x y:=by
 rcases Int.lt_trichotomy x y with h | h | h
 . rw [Ip h,Ip (by omega)]
 . rw [K5 h,K5 (by omega)]
 . rw [Iq h,Iq (by omega)]

theorem Avt {α:Type} {n:Nat} {a b:List Int} (ha:Lm a) (hb:Lm b) (hab:a.length = b.length) (hN:a.length <= 1099511627776) {k0:Int->Option α} {k1:Unit->Option α}:∀ (m k:Nat),k < m->k <= a.length ->
  Yf n m a b ((k:Int) - 1) k0 k1 = if vl (a.take k) = vl (b.take k) then k1 () else k0 (cm (vl (a.take k)) (vl (b.take k)))
 | 0,k,h,_=>by omega
 | m + 1,k,h,hk=>by
  rw [Atw];unfold A23;dsimp only;by_cases h0:k = 0
  . subst h0;simp
  . rw [QJ,QK (by omega),A4 (by simp;omega),A4 (by simp;omega)]
    have e:((k:Int) - 1).toNat = k - 1:=by omega
    rw [e,XI]
    have ta:=Bz (l:=a) (k:=k - 1) (by omega)
    have tb:=Bz (l:=b) (k:=k - 1) (by omega)
    rw [show k - 1 + 1 = k by omega] at ta tb
    by_cases hz:a.getD (k - 1) 0 = b.getD (k - 1) 0
    . rw [QH (by simpa using hz),Ae (by omega) (by omega)]
      rw [show (k:Int) - 1 - 1 = ((k - 1:Nat):Int) - 1 by omega,Avt (n:=n) ha hb hab hN m (k - 1) (by omega) (by omega)]
      rw [ta,tb,hz];by_cases h1:vl (a.take (k - 1)) = vl (b.take (k - 1))
      . rw [QK h1,QK (by omega)]
      . rw [QH h1,QH (by omega)]
        rw [Avu]
    . rw [QK (by simpa using hz),A4 (by simp;omega),A4 (by simp;omega),Q5,A2]
      rcases Int.lt_or_gt_of_ne hz with h1 | h1
      . have:=Ta ha hb (k:=k - 1) (by omega) (by omega) h1
        rw [show k - 1 + 1 = k by omega] at this
        rw [show (if vl (a.take k) = vl (b.take k) then k1 () else k0 (cm (vl (a.take k)) (vl (b.take k)))) = k0 (-1) by rw [QH (by omega),Ip this],QH (by rw [QR];omega)]
        rfl
      . have:=Ta hb ha (k:=k - 1) (by omega) (by omega) h1
        rw [show k - 1 + 1 = k by omega] at this
        rw [show (if vl (a.take k) = vl (b.take k) then k1 () else k0 (cm (vl (a.take k)) (vl (b.take k)))) = k0 1 by rw [QH (by omega),Iq this],QK (by rw [QR];omega)]
        rfl

theorem B3l {n:Nat} {a b:List Int} (ha:Cn a) (hb:Cn b) (hN:a.length <= 1099511627776) (hn:a.length < n):f188 n a b = some (cm (vl a) (vl b)):=by
 unfold f188;rw [XI];by_cases h:a.length = b.length
 . rw [QH (by simp [h]),Ae (by omega) (by omega),Avt (n:=n) ha.1 hb.1 h hN n a.length hn (QY _)]
   rw [YG,h,YG];by_cases h1:vl a = vl b
   . rw [QK h1,K5 h1]
   . rw [QH h1]
 . rw [QK (by simp;omega),Q5,A2]
   rcases Nat.lt_or_gt_of_ne h with h1 | h1
   . rw [Ip (ha.lt_of_len hb h1),QH (by simp;omega)];rfl
   . rw [Iq (hb.lt_of_len ha h1),QK (by simp;omega)];rfl

theorem Avs {α:Type} {n:Nat} {a b:List Int} (ha:Lm a) (hb:Lm b) (hab:a.length = b.length) {k0 k1:Int->Option α}:∀ (k:Nat),k <= a.length ->
  N9 n a k a b 0 k0 k1 = if vl (a.take k) = vl (b.take k) then k0 0 else k1 (cm (vl (a.take k)) (vl (b.take k)))
 | 0,_=>by rw [Atd];simp
 | k + 1,hk=>by
  rw [Atb];unfold A1l;dsimp only
  rw [A4 (by simp;omega),XI]
  have ta:=Bz (l:=a) (k:=k) (by omega)
  have tb:=Bz (l:=b) (k:=k) (by omega)
  simp only [QS];by_cases hz:a.getD k 0 = b.getD k 0
  . rw [QH (by simpa using hz),A4 (by simp),Avs ha hb hab k (by omega)]
    rw [ta,tb,hz];by_cases h1:vl (a.take k) = vl (b.take k)
    . rw [QK h1,QK (by omega)]
    . rw [QH h1,QH (by omega)]
      rw [Avu]
  . rw [QK (by simpa using hz),A4 (by simp;omega),QJ]
    rcases Int.lt_or_gt_of_ne hz with h1 | h1
    . have:=Ta ha hb (k:=k) (by omega) (by omega) h1
      rw [show (if vl (a.take (k + 1)) = vl (b.take (k + 1)) then k0 0 else k1 (cm (vl (a.take (k + 1))) (vl (b.take (k + 1))))) = k1 (-1) by rw [QH (by omega),Ip this],QK h1]
    . have:=Ta hb ha (k:=k) (by omega) (by omega) h1
      rw [show (if vl (a.take (k + 1)) = vl (b.take (k + 1)) then k0 0 else k1 (cm (vl (a.take (k + 1))) (vl (b.take (k + 1))))) = k1 1 by rw [QH (by omega),Iq this],QH (by omega)]

theorem B34 {n:Nat} {a b:List Int} (ha:Cn a) (hb:Cn b) (hN:a.length <= 1099511627776):f203 n a b = some (cm (vl a) (vl b)):=by
 unfold f203;rw [XI];by_cases h:a.length = b.length
 . rw [QH (by simp [h])]
   rw [show f228 n a = some a from rfl,A2,Atc,A4 (by simp;omega),Avs ha.1 hb.1 h a.length (QY _)]
   rw [YG,h,YG];by_cases h1:vl a = vl b
   . rw [QK h1,K5 h1]
   . rw [QH h1]
 . rw [QK (by simp;omega),QJ]
   rcases Nat.lt_or_gt_of_ne h with h1 | h1
   . rw [Ip (ha.lt_of_len hb h1),QK (by omega)]
   . rw [Iq (hb.lt_of_len ha h1),QH (by omega)]

theorem B1 (l:List Int) (k:Nat):vl (l.take (k + 1)) = vl (l.take k) + 10000 ^ k * l.getD k 0:=by
 rcases XN k l.length with h | h
 . exact Bz h
 . rw [XV (by omega),XV (by omega),QI,YW h]
   simp

theorem B8 {l:List Int} {k:Nat} (h:l.length <= k):l.getD k 0 = 0:=by
 rw [QI,YW h];rfl

theorem Cn.of_ge {l:List Int} (h:Lm l) (hg:l ≠ []->(10000:Int) ^ (l.length - 1) <= vl l):Cn l:=by
 refine ⟨h,fun hn e=>?_⟩;have hl:0 < l.length:=XC.2 hn;have h1:=B1 l (l.length - 1)
 rw [show l.length - 1 + 1 = l.length by omega,YG,e] at h1
 have h2:=H8 (h.take (l.length - 1))
 rw [YO,JE (by omega)] at h2
 have:=hg hn;omega

theorem J0 (l:List Int) {k:Nat} (h:l.length <= k):l.take k = l:=XV h

theorem Awa {α:Type} {n:Nat} {a b:List Int} (ha:Cn a) (hb:Cn b) (hN:a.length <= 1099511627776) (hNb:b.length <= 1099511627776) {k0:List Int->Option α}:∀ (m i:Nat) (c:Int) (o:List Int),o.length = i->Lm o->0 <= c->c <= 1 ->
  vl o + 10000 ^ i * c = vl (a.take i) + vl (b.take i)->(i <= max a.length b.length \/ (i = max a.length b.length + 1 /\ c = 0 /\ o.getD (i - 1) 0 ≠ 0))->max a.length b.length + 2 <= i + m ->
  Px n m a b c (i:Int) o k0 = k0 (dg (vl a + vl b).toNat)
 | 0,i,c,o,ho,hlo,hc0,hc1,hv,hq,hm=>by omega
 | m + 1,i,c,o,ho,hlo,hc0,hc1,hv,hq,hm=>by
  rw [Atz];unfold A26;dsimp only
  have fin:a.length <= i->b.length <= i->c = 0->o = dg (vl a + vl b).toNat:=fun h1 h2 h3=>by
   rw [J0 a h1,J0 b h2,h3] at hv
   have hv':vl o = vl a + vl b:=by simpa using hv
   have:Cn o:=Cn.of_ge hlo fun hn=>by
    have hl:0 < o.length:=XC.2 hn;rcases hq with hq | ⟨hq1,_,hq3⟩
    . have hmx:i = max a.length b.length:=by omega
      rw [ho,hv'];rcases Nat.le_total a.length b.length with hab | hab
      . have h4:=hb.ge (XC.1 (by omega))
        have h5:=B0 ha.1
        rw [show i - 1 = b.length - 1 by omega];omega
      . have h4:=ha.ge (XC.1 (by omega))
        have h5:=B0 hb.1
        rw [show i - 1 = a.length - 1 by omega];omega
    . have h1:=B1 o (o.length - 1)
      rw [show o.length - 1 + 1 = o.length by omega,YG] at h1
      have h2:=B0 (hlo.take (o.length - 1));have h3:=hlo.get (o.length - 1);rw [<- ho] at hq3;have h4:=F4 (o.length - 1)
      have h5:(10000:Int) ^ (o.length - 1) * 1 <= 10000 ^ (o.length - 1) * o.getD (o.length - 1) 0:=XK (by omega) (by omega)
      omega
   rw [<- hv',Hc this]
  have go:∀ (y:Int),y = c + a.getD i 0 + b.getD i 0->(i < max a.length b.length \/ (i = max a.length b.length /\ 0 < c))->Px n m a b (W (Int.tdiv y 10000)) (W ((i:Int) + 1)) (o ++ [Int.tmod y 10000]) k0 = k0 (dg (vl a + vl b).toNat):=by
   intro y hy hi;have h1:=ha.1.get i;have h2:=hb.1.get i
   rw [tdv (by omega),tmd (by omega),Ae (by omega) (by omega),Ae (by omega) (by omega)]
   have ta:=B1 a i;have tb:=B1 b i
   have hyy:y = 10000 * (y / 10000) + y % 10000:=by omega
   refine Awa (n:=n) ha hb hN hNb m (i + 1) _ _ (by simp [ho]) (hlo.app (Lm.cons (by omega) Lm.nil)) (by omega) (by omega) ?_ ?_ (by omega)
   . rw [P3,ho,ta,tb,Bn];generalize y / 10000 = q at *;generalize y % 10000 = r at *;generalize (10000:Int) ^ i = P at *;grind
   . rcases hi with hi | ⟨hi,hc⟩
     . exact .inl (by omega)
     . right
       have e1:a.getD i 0 = 0:=B8 (by omega)
       have e2:b.getD i 0 = 0:=B8 (by omega)
       have e3:y = 1:=by omega
       subst e3
       refine ⟨by omega,by rfl,?_⟩
       rw [Qab,<- ho,QI];simp
  have hcases:(i < a.length \/ i < b.length \/ 0 < c)->(i < max a.length b.length \/ (i = max a.length b.length /\ 0 < c)):=fun h=>by
   rcases h with h | h | h
   . exact .inl (by omega)
   . exact .inl (by omega)
   . rcases hq with hq | ⟨_,h0,_⟩
     . omega
     . omega
  have ho2:(decide ((o.length + 1) * 8 <= 140737488355328)) = true:=by
   rw [QR];rcases hq with hq | ⟨hq,_⟩ <;> omega
  have h1:=ha.1.get i;have h2:=hb.1.get i;by_cases hA:i < a.length
  . have dA:decide ((i:Int) < (a.length:Int)) = true:=by rw [QR];omega
    simp only [dA,ZM,QS]
    rw [A4 (by simp;try omega),Ae (x:=c + a.getD i 0) (by omega) (by omega)]
    by_cases hB:i < b.length
    . have dB:decide ((i:Int) < (b.length:Int)) = true:=by rw [QR];omega
      simp only [dB,ZM]
      rw [A4 (by simp;try omega),A4 ho2,Ae (x:=c + a.getD i 0 + b.getD i 0) (by omega) (by omega)]
      exact go _ rfl (hcases (.inl hA))
    . have dB:decide ((i:Int) < (b.length:Int)) = false:=by rw [ZU];omega
      simp only [dB,QW];rw [A4 ho2]
      exact go _ (by rw [B8 (l:=b) (by omega)];omega) (hcases (.inl hA))
  . have dA:decide ((i:Int) < (a.length:Int)) = false:=by rw [ZU];omega
    simp only [dA,QW,QS];by_cases hB:i < b.length
    . have dB:decide ((i:Int) < (b.length:Int)) = true:=by rw [QR];omega
      simp only [dB,ZM]
      rw [A4 (by simp;try omega),A4 ho2,Ae (x:=c + b.getD i 0) (by omega) (by omega)]
      exact go _ (by rw [B8 (l:=a) (by omega)];omega) (hcases (.inr (.inl hB)))
    . have dB:decide ((i:Int) < (b.length:Int)) = false:=by rw [ZU];omega
      simp only [dB,QW];rw [QJ];by_cases hc:0 < c
      . rw [QK (by omega),A4 ho2]
        exact go _ (by rw [B8 (l:=a) (by omega),B8 (l:=b) (by omega)];omega) (hcases (.inr (.inr hc)))
      . rw [QH (by omega),fin (by omega) (by omega) (by omega)]

theorem B3n {n:Nat} {a b:List Int} (ha:Cn a) (hb:Cn b) (hN:a.length <= 1099511627776) (hNb:b.length <= 1099511627776) (hn:max a.length b.length + 2 <= n):f187 n a b = some (dg (vl a + vl b).toNat):=by
 unfold f187
 have:=Awa (n:=n) ha hb hN hNb (k0:=fun c=>some c) n 0 0 [] rfl Lm.nil (by omega) (by omega) (by simp [vl]) (.inl (by omega)) (by omega)
 exact this

theorem Apr {α:Type} {n:Nat} {a b:List Int} (ha:Lm a) (hb:Lm b) (hN:a.length <= 1099511627776) {k0:List Int->Option α}:∀ (m i:Nat) (c:Int) (o:List Int),o.length = i->Lm o->0 <= c->c <= 1->i <= a.length ->
  vl o - 10000 ^ i * c = vl (a.take i) - vl (b.take i)->a.length + 1 <= i + m ->
  ∃ o' c',M2 n m a b c (i:Int) o k0 = k0 o' /\ o'.length = a.length /\ Lm o' /\ 0 <= c' /\ c' <= 1 /\ vl o' - 10000 ^ a.length * c' = vl a - vl (b.take a.length)
 | 0,i,c,o,ho,hlo,hc0,hc1,hi,hv,hm=>by omega
 | m + 1,i,c,o,ho,hlo,hc0,hc1,hi,hv,hm=>by
  rw [Atu];unfold A20;dsimp only;by_cases hA:i < a.length
  . rw [QJ,QK (by omega),A4 (by simp;try omega)]
    have h1:=ha.get i;have h2:=hb.get i;have ta:=B1 a i;have tb:=B1 b i
    have ho2:(decide ((o.length + 1) * 8 <= 140737488355328)) = true:=by
     rw [QR];omega
    have go:∀ y:Int,y = a.getD i 0 - c - b.getD i 0->∃ o' c',M2 n m a b (if y < 0 then 1 else 0) (W ((i:Int) + 1)) (o ++ [W (y + W ((if y < 0 then 1 else 0) * 10000))]) k0 = k0 o' /\ o'.length = a.length /\ Lm o' /\ 0 <= c' /\ c' <= 1 /\ vl o' - 10000 ^ a.length * c' = vl a - vl (b.take a.length):=by
     intro y hy
     obtain ⟨d,hd⟩:∃ d:Int,d = if y < 0 then 1 else 0:=⟨_,rfl⟩
     have hd1:0 <= d /\ d <= 1 /\ 0 <= y + d * 10000 /\ y + d * 10000 < 10000:=by
      rw [hd];split <;> omega
     rw [<- hd,Ae (x:=d * 10000) (by omega) (by omega),Ae (x:=y + d * 10000) (by omega) (by omega),Ae (x:=(i:Int) + 1) (by omega) (by omega)]
     refine Apr (n:=n) ha hb hN m (i + 1) d _ (by simp [ho]) (hlo.app (Lm.cons (by omega) Lm.nil)) (by omega) (by omega) (by omega) ?_ (by omega)
     rw [P3,ho,ta,tb,Bn];generalize (10000:Int) ^ i = P at *;grind
    simp only [QS];by_cases hB:i < b.length
    . have dB:decide ((i:Int) < (b.length:Int)) = true:=by rw [QR];omega
      simp only [dB,ZM]
      rw [A4 (by simp;try omega)]
      simp only [Ae (x:=a.getD i 0 - c) (by omega) (by omega),Ae (x:=a.getD i 0 - c - b.getD i 0) (by omega) (by omega)]
      rw [Q5,A2,A4 ho2];simp only [QR];exact go _ rfl
    . have dB:decide ((i:Int) < (b.length:Int)) = false:=by rw [ZU];omega
      simp only [dB,QW]
      simp only [Ae (x:=a.getD i 0 - c) (by omega) (by omega)]
      rw [Q5,A2,A4 ho2];simp only [QR]
      exact go _ (by rw [B8 (l:=b) (by omega)];omega)
  . rw [QJ,QH (by omega)]
    obtain rfl:i = a.length:=by omega
    rw [YG] at hv;exact ⟨o,c,rfl,ho,hlo,hc0,hc1,hv⟩

theorem B3j {n:Nat} {a b:List Int} (ha:Cn a) (hb:Cn b) (hN:a.length <= 1099511627776) (hn:a.length + 1 <= n) (hab:vl b <= vl a):f189 n a b = some (dg (vl a - vl b).toNat):=by
 have hl:b.length <= a.length:=by
  rcases XN a.length b.length with h | h
  . have:=ha.lt_of_len hb h;omega
  . exact h
 unfold f189
 obtain ⟨o,c,h1,h2,h3,h4,h5,h6⟩:=Apr (n:=n) ha.1 hb.1 hN (k0:=fun d=>ob (f218 n d) fun e=>some e) n 0 0 [] rfl Lm.nil (by omega) (by omega) (by omega) (by simp [vl]) (by omega)
 have h1:M2 n n a b 0 0 [] (fun d=>ob (f218 n d) fun e=>some e) = _:=h1
 rw [h1,Y6 h3 (by omega) (by omega),A2]
 rw [J0 b hl] at h6;have h7:=H8 h3;rw [h2] at h7
 have:c = 0:=by
  rcases Int.lt_or_eq_of_le h4 with h | h
  . have:c = 1:=by omega
    rw [this] at h6;omega
  . exact h.symm
 rw [this] at h6
 rw [show vl o = vl a - vl b by simpa using h6]

theorem Lt {l:List Int} {k:Nat} (h:k < l.length):vl (l.drop k) = l.getD k 0 + 10000 * vl (l.drop (k + 1)):=by
 rw [XT h,vl,QI,QN h];rfl

theorem Ad9 {P o ok y q r c ai bk v' T:Int} (h:o + P * (c + ai * (bk + 10000 * v')) = T) (hy:y = ok + c + ai * bk) (hq:y = 10000 * q + r):o + P * (r - ok) + 10000 * P * (q + ai * v') = T:=by
 grind

theorem A0a {x y:Int} (hx:0 <= x /\ x < 10000) (hy:0 <= y /\ y < 10000):0 <= x * y /\ x * y <= 99980001:=by
 have h1:=Int.mul_nonneg hx.1 hy.1
 have h2:x * y <= 9999 * y:=Int.mul_le_mul_of_nonneg_right (by omega) hy.1
 omega

theorem Aqm {α:Type} {n:Nat} {a b:List Int} (ha:Lm a) (hb:Lm b) (i:Nat) (hi:i < a.length) {S:Nat} (hS:a.length + b.length < S) (hN:S <= 1099511627776) {T:Int} (hT:T < 10000 ^ S) {k0:List Int->List Int->Int->List Int->Option α} :
  ∀ (m k:Nat) (c:Int) (o:List Int),Lm o->o.length = S->0 <= c->c < 10000->i + k <= S->vl o + 10000 ^ (i + k) * (c + a.getD i 0 * vl (b.drop k)) = T->S + 1 <= i + k + m ->
  ∃ o',Lm o' /\ o'.length = S /\ vl o' = T /\ M3 n m a b (i:Int) c (k:Int) o k0 = k0 a b (i:Int) o'
 | 0,k,c,o,hlo,ho,hc0,hc1,hik,hv,hm=>by omega
 | m + 1,k,c,o,hlo,ho,hc0,hc1,hik,hv,hm=>by
  rw [Au2];unfold A29;dsimp only;have h1:=ha.get i;have h2:=hb.get k;have h3:=hlo.get (i + k);have h4:=A0a h1 h2;have hvo:=B0 hlo
  have go:∀ y:Int,i + k < S->(k < b.length \/ b.length <= k)->y = o.getD (i + k) 0 + c + a.getD i 0 * b.getD k 0 ->
    ∃ o',Lm o' /\ o'.length = S /\ vl o' = T /\ M3 n m a b (i:Int) (W (Int.tdiv y 10000)) (W ((k:Int) + 1)) (o.set (i + k) (Int.tmod y 10000)) k0 = k0 a b (i:Int) o':=by
   intro y hlt hk hy
   rw [tdv (by omega),tmd (by omega),Ae (by omega) (by omega),Ae (by omega) (by omega)]
   refine Aqm (n:=n) ha hb i hi hS hN hT m (k + 1) _ _ (hlo.set _ (by omega)) (by simpa using ho) (by omega) (by omega) (by omega) ?_ (by omega)
   rw [K7 _ (by omega),show i + (k + 1) = (i + k) + 1 by omega,Bn]
   have hyy:y = 10000 * (y / 10000) + y % 10000:=by omega
   refine Ad9 (bk:=b.getD k 0) ?_ hy hyy;rcases hk with hk | hk
   . rw [<- Lt hk];exact hv
   . rw [ZF (by omega)] at hv ⊢
     rw [B8 hk];simpa [vl] using hv
  by_cases hB:k < b.length
  . have dB:decide ((k:Int) < (b.length:Int)) = true:=by rw [QR];omega
    simp only [dB,ZM,QS]
    rw [Ae (x:=(i:Int) + (k:Int)) (by omega) (by omega)]
    have e:((i:Int) + (k:Int)).toNat = i + k:=by omega
    simp only [e]
    rw [A4 (by simp;try omega),A4 (by simp;try omega),A4 (by simp;try omega),A4 (by simp;try omega),Ae (x:=a.getD i 0 * b.getD k 0) (by omega) (by omega),Ae (x:=o.getD (i + k) 0 + c) (by omega) (by omega),Ae (x:=o.getD (i + k) 0 + c + a.getD i 0 * b.getD k 0) (by omega) (by omega),A4 (by simp;try omega),A4 (by simp;try omega)]
    exact go _ (by omega) (.inl hB) rfl
  . have dB:decide ((k:Int) < (b.length:Int)) = false:=by rw [ZU];omega
    simp only [dB,QW];rw [QJ]
    rw [ZF (by omega)] at hv
    by_cases hc:0 < c
    . have hlt : i + k < S := by
       refine Am2 ?_
       have h5:(10000:Int) ^ (i + k) * 1 <= 10000 ^ (i + k) * c:=XK (by omega) (by have:=F4 (i + k);omega)
       simp only [vl,Qac,Qav] at hv;omega
      rw [QK (by omega),Ae (x:=(i:Int) + (k:Int)) (by omega) (by omega)]
      have e:((i:Int) + (k:Int)).toNat = i + k:=by omega
      simp only [e]
      rw [A4 (by simp;try omega),A4 (by simp;try omega),A4 (by simp;try omega),A4 (by simp;try omega),Ae (x:=o.getD (i + k) 0 + c) (by omega) (by omega)]
      exact go _ hlt (.inr (by omega)) (by rw [B8 (l:=b) (by omega)];omega)
    . rw [QH (by omega)]
      obtain rfl:c = 0:=by omega
      exact ⟨o,hlo,ho,by simpa [vl] using hv,rfl⟩

theorem Aql {a b:List Int} (ha:Lm a) (hb:Lm b) {i S:Nat} (hS:i + b.length <= S):vl (a.take i) * vl b < 10000 ^ S:=by
 have h1:=H8 (ha.take i);have h2:=H8 hb;have h3:=B0 (ha.take i);have h4:=B0 hb
 have h5:(10000:Int) ^ (a.take i).length <= 10000 ^ i:=X7 (by simp;omega)
 have h6:=F4 i;have h7:=F4 b.length
 have h8:vl (a.take i) * vl b <= vl (a.take i) * 10000 ^ b.length:=XK (by omega) h3
 have h9:vl (a.take i) * 10000 ^ b.length < 10000 ^ i * 10000 ^ b.length:=Int.mul_lt_mul_of_pos_right (by omega) h7
 rw [<- Int.pow_add] at h9;have h10:(10000:Int) ^ (i + b.length) <= 10000 ^ S:=X7 hS;omega

theorem Ajk {α:Type} {n:Nat} {a b:List Int} (ha:Lm a) (hb:Lm b) {S:Nat} (hS:a.length + b.length < S) (hN:S <= 1099511627776) (hn:S + 1 <= n) {k0:List Int->Option α} :
  ∀ (m i:Nat) (o:List Int),Lm o->o.length = S->i <= a.length->vl o = vl (a.take i) * vl b->a.length + 1 <= i + m ->
  ∃ o',Lm o' /\ o'.length = S /\ vl o' = vl a * vl b /\ M4 n m a b (i:Int) o k0 = k0 o'
 | 0,i,o,hlo,ho,hi,hv,hm=>by omega
 | m + 1,i,o,hlo,ho,hi,hv,hm=>by
  rw [Au4];unfold A2c;dsimp only;rw [QJ];by_cases hA:i < a.length
  . rw [QK (by omega)]
    have hT:vl (a.take (i + 1)) * vl b < 10000 ^ S:=Aql ha hb (by omega)
    obtain ⟨o',q1,q2,q3,q4⟩:=Aqm (n:=n) ha hb i hA hS hN hT (k0:=fun c d e f=>M4 n m c d (W (e + 1)) f k0) n 0 0 o hlo ho (by omega) (by omega) (by omega) (by
     rw [hv,B1,XG,YY];generalize (10000:Int) ^ i = P
     grind) (by omega)
    have q4:M3 n n a b (i:Int) 0 0 o _ = _:=q4
    rw [q4,Ae (by omega) (by omega)]
    exact Ajk (n:=n) ha hb hS hN hn m (i + 1) o' q1 q2 (by omega) q3 (by omega)
  . rw [QH (by omega)]
    obtain rfl:i = a.length:=by omega
    rw [YG] at hv;exact ⟨o,hlo,ho,hv,rfl⟩

theorem B3q {n:Nat} {a b:List Int} (ha:Lm a) (hb:Lm b) (hN:a.length + b.length <= 1099511627770) (hn:a.length + b.length + 2 <= n):f185 n a b = some (dg (vl a * vl b).toNat):=by
 unfold f185
 rw [Ae (x:=(a.length:Int) + (b.length:Int)) (by omega) (by omega),Ae (x:=(a.length:Int) + (b.length:Int) + 1) (by omega) (by omega),A4 (by simp;try omega)]
 have e:((a.length:Int) + (b.length:Int) + 1).toNat = a.length + b.length + 1:=by omega
 rw [e]
 obtain ⟨o,q1,q2,q3,q4⟩:=Ajk (n:=n) ha hb (S:=a.length + b.length + 1) (by omega) (by omega) (by omega) (k0:=fun c=>ob (f218 n c) fun d=>some d) n 0 (List.replicate (a.length + b.length + 1) 0) (Lm.rep _) (by simp) (by omega) (by rw [Ud];simp [vl]) (by omega)
 have q4:M4 n n a b 0 _ _ = _:=q4
 rw [q4,Y6 q1 (by omega) (by omega),A2,q3]

theorem Aqn {α:Type} {n:Nat} {a b:List Int} (ha:Lm a) (hb:Lm b) (i:Nat) (hi:i < a.length) {S:Nat} (hS:a.length + b.length <= S) (hN:S <= 1099511627776) {T:Int} (hT:T < 10000 ^ S) (q1:List Int) (q2 q3:Int) {k0:List Int->List Int->Int->Int->List Int->Option α} :
  ∀ (m k:Nat) (c:Int) (o:List Int),Lm o->o.length = S->0 <= c->c < 10000->i + k <= S->vl o + 10000 ^ (i + k) * (c + a.getD i 0 * vl (b.drop k)) = T->S + 1 <= i + k + m ->
  ∃ o',Lm o' /\ o'.length = S /\ vl o' = T /\ M0 n m b (i:Int) (a.getD i 0) c (k:Int) q1 q2 q3 o k0 = k0 b q1 q2 q3 o'
 | 0,k,c,o,hlo,ho,hc0,hc1,hik,hv,hm=>by omega
 | m + 1,k,c,o,hlo,ho,hc0,hc1,hik,hv,hm=>by
  rw [Atj];unfold A1r;dsimp only;have h1:=ha.get i;have h2:=hb.get k;have h3:=hlo.get (i + k);have h4:=A0a h1 h2;have hvo:=B0 hlo
  have go:∀ y:Int,i + k < S->(k < b.length \/ b.length <= k)->y = o.getD (i + k) 0 + c + a.getD i 0 * b.getD k 0 ->
    ∃ o',Lm o' /\ o'.length = S /\ vl o' = T /\ M0 n m b (i:Int) (a.getD i 0) (W (Int.tdiv y 10000)) (W ((k:Int) + 1)) q1 q2 q3 (o.set (i + k) (Int.tmod y 10000)) k0 = k0 b q1 q2 q3 o':=by
   intro y hlt hk hy
   rw [tdv (by omega),tmd (by omega),Ae (by omega) (by omega),Ae (by omega) (by omega)]
   refine Aqn (n:=n) ha hb i hi hS hN hT q1 q2 q3 m (k + 1) _ _ (hlo.set _ (by omega)) (by simpa using ho) (by omega) (by omega) (by omega) ?_ (by omega)
   rw [K7 _ (by omega),show i + (k + 1) = (i + k) + 1 by omega,Bn]
   have hyy:y = 10000 * (y / 10000) + y % 10000:=by omega
   refine Ad9 (bk:=b.getD k 0) ?_ hy hyy;rcases hk with hk | hk
   . rw [<- Lt hk];exact hv
   . rw [ZF (by omega)] at hv ⊢
     rw [B8 hk];simpa [vl] using hv
  by_cases hB:k < b.length
  . have dB:decide ((k:Int) < (b.length:Int)) = true:=by rw [QR];omega
    simp only [dB,ZM,QS]
    rw [Ae (x:=(i:Int) + (k:Int)) (by omega) (by omega)]
    have e:((i:Int) + (k:Int)).toNat = i + k:=by omega
    simp only [e]
    rw [A4 (by simp;try omega),Ae (x:=a.getD i 0 * b.getD k 0) (by omega) (by omega),Ae (x:=c + a.getD i 0 * b.getD k 0) (by omega) (by omega),A4 (by simp;try omega),A4 (by simp;try omega),A4 (by simp;try omega),A4 (by simp;try omega),Ae (x:=c + a.getD i 0 * b.getD k 0 + o.getD (i + k) 0) (by omega) (by omega)]
    exact go _ (by omega) (.inl hB) (by omega)
  . have dB:decide ((k:Int) < (b.length:Int)) = false:=by rw [ZU];omega
    simp only [dB,QW];rw [QJ]
    rw [ZF (by omega)] at hv
    by_cases hc:0 < c
    . have hlt : i + k < S := by
       refine Am2 ?_
       have h5:(10000:Int) ^ (i + k) * 1 <= 10000 ^ (i + k) * c:=XK (by omega) (by have:=F4 (i + k);omega)
       simp only [vl,Qac,Qav] at hv;omega
      rw [QK (by omega),Ae (x:=(i:Int) + (k:Int)) (by omega) (by omega)]
      have e:((i:Int) + (k:Int)).toNat = i + k:=by omega
      simp only [e]
      rw [A4 (by simp;try omega),A4 (by simp;try omega),A4 (by simp;try omega),A4 (by simp;try omega),Ae (x:=c + o.getD (i + k) 0) (by omega) (by omega)]
      exact go _ hlt (.inr (by omega)) (by rw [B8 (l:=b) (by omega)];omega)
    . rw [QH (by omega)]
      obtain rfl:c = 0:=by omega
      exact ⟨o,hlo,ho,by simpa [vl] using hv,rfl⟩

theorem Ajl {α:Type} {n:Nat} {a b:List Int} (ha:Lm a) (hb:Lm b) {S:Nat} (hS:a.length + b.length <= S) (hN:S <= 1099511627776) (hn:S + 1 <= n) {k0:List Int->Option α} :
  ∀ (m i:Nat) (o:List Int),Lm o->o.length = S->i <= a.length->vl o = vl (a.take i) * vl b->a.length + 1 <= i + m ->
  ∃ o',Lm o' /\ o'.length = S /\ vl o' = vl a * vl b /\ M1 n m b a (a.length:Int) (i:Int) o k0 = k0 o'
 | 0,i,o,hlo,ho,hi,hv,hm=>by omega
 | m + 1,i,o,hlo,ho,hi,hv,hm=>by
  rw [Atl];unfold A1u;dsimp only;rw [QJ];by_cases hA:i < a.length
  . rw [QK (by omega),A4 (by simp;try omega)]
    simp only [QS]
    have hT:vl (a.take (i + 1)) * vl b < 10000 ^ S:=Aql ha hb (by omega)
    obtain ⟨o',q1,q2,q3,q4⟩:=Aqn (n:=n) ha hb i hA hS hN hT a (a.length:Int) (i:Int) (k0:=fun c d e f g=>M1 n m c d e (W (f + 1)) g k0) n 0 0 o hlo ho (by omega) (by omega) (by omega) (by
     rw [hv,B1,XG,YY];generalize (10000:Int) ^ i = P
     grind) (by omega)
    have q4:M0 n n b (i:Int) (a.getD i 0) 0 0 a (a.length:Int) (i:Int) o _ = _:=q4
    rw [q4,Ae (by omega) (by omega)]
    exact Ajl (n:=n) ha hb hS hN hn m (i + 1) o' q1 q2 (by omega) q3 (by omega)
  . rw [QH (by omega)]
    obtain rfl:i = a.length:=by omega
    rw [YG] at hv;exact ⟨o,hlo,ho,hv,rfl⟩

theorem B3a {n:Nat} {a b:List Int} (ha:Lm a) (hb:Lm b) (hN:a.length + b.length <= 1099511627770) (hn:a.length + b.length + 2 <= n):f200 n a b = some (dg (vl a * vl b).toNat):=by
 unfold f200
 rw [Ae (x:=(a.length:Int) + (b.length:Int)) (by omega) (by omega),A4 (by simp;try omega)]
 have e:((a.length:Int) + (b.length:Int)).toNat = a.length + b.length:=by omega
 rw [e]
 obtain ⟨o,q1,q2,q3,q4⟩:=Ajl (n:=n) ha hb (S:=a.length + b.length) (by omega) (by omega) (by omega) (k0:=fun c=>ob (f225 n c) fun d=>some d) n 0 (List.replicate (a.length + b.length) 0) (Lm.rep _) (by simp) (by omega) (by rw [Ud];simp [vl]) (by omega)
 have q4:M1 n n b a (a.length:Int) 0 _ _ = _:=q4
 rw [q4,Po q1 (by omega) (by omega),A2,q3]

theorem pwc (k:Nat):((10000 ^ k:Nat):Int) = (10000:Int) ^ k:=by rw [Int.natCast_pow];rfl

theorem B5n (Q:Nat):((10000 * Q:Nat):Int) = 10000 * (Q:Int):=by omega

theorem A3v (Q q:Nat):((10000 * Q + q:Nat):Int) = 10000 * (Q:Int) + q:=by omega

theorem Abv (Q q:Nat):((q + 10000 * Q:Nat):Int) = q + 10000 * (Q:Int):=by omega

theorem Kd {n k:Nat} (h:n < 10000 ^ k):(dg n).length <= k:=Qb.2 (by rw [<- pwc];omega)

theorem A3x (n:Nat):n < 10000 ^ (dg n).length:=by
 have:=Qb.1 (QY (dg n).length);rw [<- pwc] at this;omega

theorem Lw {n k:Nat} (h:(dg n).length <= k):n < 10000 ^ k:=by
 have:=Qb.1 h;rw [<- pwc] at this;omega

theorem B9 (a b:Nat):(dg (a * b)).length <= (dg a).length + (dg b).length:=by
 refine Kd ?_;rw [Nat.pow_add];exact Nat.mul_lt_mul'' (A3x a) (A3x b)

theorem A6m (a b:Nat):(dg (a + b)).length <= max (dg a).length (dg b).length + 1:=by
 refine Kd ?_
 have h1:a < 10000 ^ max (dg a).length (dg b).length:=Lw (by omega)
 have h2:b < 10000 ^ max (dg a).length (dg b).length:=Lw (by omega)
 rw [KL];omega

theorem A6l {a:Nat} (h:a < 10000):(dg a).length <= 1:=Kd (by simpa using h)

theorem B1o (a:Nat) (x:Nat) (h:x < 10000):(dg (x + 10000 * a)).length <= (dg a).length + 1:=by
 refine Kd ?_;have:=A3x a;rw [KL];omega

theorem Abr {n a b:Nat} (h:(dg a).length <= 1099511627776) (hn:(dg a).length < n):f188 n (dg a) (dg b) = some (cm a b):=by
 rw [B3l (Gf a) (Gf b) h hn,Bg,Bg]

theorem L9 {n a b:Nat} (h:(dg a).length + (dg b).length <= 1099511627770) (hn:(dg a).length + (dg b).length + 2 <= n):f185 n (dg a) (dg b) = some (dg (a * b)):=by
 rw [B3q (Dd a) (Dd b) h hn,Bg,Bg];congr 1

theorem B9o {n a b:Nat} (h:(dg a).length <= 1099511627776) (h':(dg b).length <= 1099511627776) (hn:max (dg a).length (dg b).length + 2 <= n):f187 n (dg a) (dg b) = some (dg (a + b)):=by
 rw [B3n (Gf a) (Gf b) h h' hn,Bg,Bg];congr 1

theorem Alw {n a b:Nat} (h:(dg a).length <= 1099511627776) (hn:(dg a).length + 1 <= n) (hab:b <= a):f189 n (dg a) (dg b) = some (dg (a - b)):=by
 rw [B3j (Gf a) (Gf b) h hn (by rw [Bg,Bg];omega),Bg,Bg]
 congr 2;omega

theorem Lf {n a b:Nat} (h:(dg a).length + (dg b).length <= 1099511627770) (hn:(dg a).length + (dg b).length + 2 <= n):f200 n (dg a) (dg b) = some (dg (a * b)):=by
 rw [B3a (Dd a) (Dd b) h hn,Bg,Bg];congr 1

theorem Abw {n a b:Nat} (h:(dg a).length <= 1099511627776):f203 n (dg a) (dg b) = some (cm a b):=by
 rw [B34 (Gf a) (Gf b) h,Bg,Bg]

theorem Ahe {α:Type} {n B R:Nat} (hBl:(dg B).length <= 1099511627700) (hn:(dg B).length + 20 <= n) (b:List Int) (c:Int) (d:List Int) {k0:List Int->List Int->List Int->Int->Int->List Int->Option α} :
  ∀ (m lo hi:Nat),lo < hi->hi <= 10000->lo * B <= R->R < hi * B->hi <= lo + m ->
  N5 n m b (dg B) (dg R) c (lo:Int) (hi:Int) d k0 = k0 b (dg B) (dg R) c ((R / B:Nat):Int) d
 | 0,lo,hi,h1,h2,h3,h4,h5=>by omega
 | m + 1,lo,hi,h1,h2,h3,h4,h5=>by
  rw [Ant];unfold Vu;dsimp only
  rw [Ae (x:=(hi:Int) - (lo:Int)) (by omega) (by omega),Ae (x:=(lo:Int) + (hi:Int)) (by omega) (by omega)]
  have e:Int.tdiv ((lo:Int) + (hi:Int)) 2 = (((lo + hi) / 2:Nat):Int):=by
   rw [KF (by omega)];omega
  rw [e,Ae (x:=(((lo + hi) / 2:Nat):Int)) (by omega) (by omega)]
  generalize hmid:(lo + hi) / 2 = mid;by_cases hc:lo + 1 < hi
  . rw [QJ,QK (by omega),Q0 (by omega) (by omega),A2]
    have hl:=A6l (a:=mid) (by omega)
    have hm:=B9 B mid
    rw [L9 (by omega) (by omega),A2,Abr (by omega) (by omega),A2,QJ]
    by_cases hle:B * mid <= R
    . have : cm ((B * mid : Nat) : Int) (R : Int) <= 0 := by
       rcases JG hle with h | h
       . rw [Ip (by omega)];omega
       . rw [K5 (by omega)];omega
      rw [QK this]
      exact Ahe hBl hn b c d m mid hi (by omega) h2 (by rw [KO];exact hle) h4 (by omega)
    . have : ¬ cm ((B * mid : Nat) : Int) (R : Int) <= 0 := by
       rw [Iq (by omega)];omega
      rw [QH this]
      exact Ahe hBl hn b c d m lo mid (by omega) (by omega) h3 (by rw [KO];omega) (by omega)
  . rw [QJ,QH (by omega)]
    obtain rfl:hi = lo + 1:=by omega
    have:R / B = lo:=by
     rw [Nat.div_eq_iff (XQ (by rintro rfl;simp at h4))]
     rw [YH] at h4;omega
    rw [this]

theorem Ah1 {α:Type} {n L A B:Nat} (hB:0 < B) (hA:(dg A).length <= L) (hBl:(dg B).length <= L) (hL:L <= 1099511627000) (hn:L + 10040 <= n) {k0:List Int->List Int->Option α} :
  ∀ (k m Q R:Nat) (o:List Int),k < m->k <= (dg A).length->R < B->o.length = (dg A).length->Lm o->(∀ i,i < k->o.getD i 0 = 0)->vl o = 10000 ^ k * (Q:Int)->(Q:Int) * B + R = vl ((dg A).drop k) ->
  ∃ o',Lm o' /\ o'.length = (dg A).length /\ vl o' = ((A / B:Nat):Int) /\ Pq n m (dg A) (dg B) (dg R) ((k:Int) - 1) o k0 = k0 (dg (A % B)) o'
 | _,0,_,_,_,h1,_,_,_,_,_,_,_=>by omega
 | 0,m + 1,Q,R,o,h1,h2,h3,h4,h5,h6,h7,h8=>by
  rw [Aa2];unfold Rx;dsimp only
  rw [QJ,QH (by omega)]
  rw [XG,Bg] at h8
  have h8:Q * B + R = A:=by
   have:((Q * B + R:Nat):Int) = A:=by rw [JH,YD];exact h8
   omega
  have h9:A / B = Q:=by rw [<- h8,Nat.add_comm,Qam _ _ hB,KZ h3,XS]
  have h10:A % B = R:=by rw [<- h8,JQ,KN h3]
  exact ⟨o,h5,h4,by rw [h7,h9];simp,by rw [h10]⟩
 | k + 1,m + 1,Q,R,o,h1,h2,h3,h4,h5,h6,h7,h8=>by
  rw [Aa2];unfold Rx;dsimp only
  rw [QJ,QK (by omega)]
  rw [show (((k + 1:Nat):Int) - 1) = (k:Int) by omega]
  simp only [QS];have hg:=(Dd A).get k
  obtain ⟨x,hx⟩:∃ x:Nat,(dg A).getD k 0 = (x:Int):=⟨((dg A).getD k 0).toNat,by omega⟩
  have hlR:(dg R).length <= L:=ZN (B7 (by omega)) hBl
  have hlRx:=B1o R x (by omega)
  have hRx:vl ((dg A).drop k) = (x:Int) + 10000 * ((Q:Int) * B + R):=by
   rw [Lt (by omega),hx,<- h8]
  have hR':x + 10000 * R < 10000 * B:=by omega
  rw [hx,A4 (by simp;try omega),A4 (by simp;try omega),Y6 (Lm.app (Lm.cons (by omega) Lm.nil) (Dd R)) (by simp;omega) (by simp;omega),A2]
  have e1:(vl ([(x:Int)] ++ dg R)).toNat = x + 10000 * R:=by
   rw [YK,KJ,vl,Bg];omega
  rw [e1,Abr (by omega) (by omega),A2,Ae (x:=(k:Int) - 1) (by omega) (by omega),QJ]
  by_cases hlt:x + 10000 * R < B
  . rw [QK (by rw [Ip (by omega)];omega)]
    refine Ah1 hB hA hBl hL hn k m (10000 * Q) (x + 10000 * R) o (by omega) (by omega) hlt h4 h5 (fun i hi=>h6 i (by omega)) ?_ ?_
    . rw [h7,Bn,B5n];grind
    . rw [hRx,B5n,Abv];grind
  . rw [QH (by
     rcases JG (Nat.le_of_not_lt hlt) with h | h
     . rw [Iq (by omega)];omega
     . rw [K5 (by omega)];omega)]
    have hbis := Ahe (n := n) (B := B) (R := x + 10000 * R) (by omega) (by omega) (dg A) (k : Int) o (k0 := fun e c f a d b => (
            gd (decide (0 <= a) && decide (a < (b.length:Int))) (
             gd (decide (a.toNat < b.length)) (
              ob (f181 n d) fun g =>
              ob (f185 n c g) fun j =>
              ob (f189 n f j) fun l =>
              Pq n m e c l (W (a - 1)) (b.set a.toNat d) k0)))) n 0 10000 (by omega) (by omega) (by omega) hR' (by omega)
    have hbis:N5 n n (dg A) (dg B) (dg (x + 10000 * R)) (k:Int) 0 10000 o _ = _:=hbis;rw [hbis];simp only [QS]
    have hq:(x + 10000 * R) / B < 10000:=by
     rw [KQ hB];omega
    have hqr:=Qaa (x + 10000 * R) B;have hqm:=KI (x + 10000 * R) hB;generalize hqq:(x + 10000 * R) / B = q at *;generalize hrr:(x + 10000 * R) % B = r at *;have hl1:=A6l hq;have hl2:=B9 B q
    rw [A4 (by simp;try omega),A4 (by simp;try omega),Q0 (by omega) (by omega),A2,L9 (by omega) (by omega),A2,Alw (by omega) (by omega) (by omega),A2,Ae (x:=(k:Int) - 1) (by omega) (by omega),show x + 10000 * R - B * q = r by omega]
    refine Ah1 hB hA hBl hL hn k m (10000 * Q + q) r _ (by omega) (by omega) hqm (by simpa using h4) (h5.set _ (by omega)) (fun i hi=>?_) ?_ ?_
    . rw [QI,ZV (by omega),<- QI]
      exact h6 i (by omega)
    . rw [K7 _ (by omega),h7,h6 k (by omega),Bn,A3v]
      generalize (10000:Int) ^ k = P;grind
    . rw [hRx]
      have:(B:Int) * q + r = x + 10000 * R:=by
       rw [<- Abv,<- hqr,JH,YD]
      rw [A3v];grind

theorem Alx {n L A B:Nat} (hB:0 < B) (hA:(dg A).length <= L) (hBl:(dg B).length <= L) (hL:L <= 1099511627000) (hn:L + 10040 <= n):f219 n (dg A) (dg B) = some (dg (A / B),dg (A % B)):=by
 unfold f219
 rw [A4 (by simp;try omega),Ae (x:=((dg A).length:Int) - 1) (by omega) (by omega)]
 simp only [QS]
 obtain ⟨o, h1, h2, h3, h4⟩ := Ah1 (n := n) hB hA hBl hL hn (k0 := fun a b => (
       ob (f218 n b) fun c =>
       some (c,a))) (dg A).length n 0 0 (List.replicate (dg A).length 0) (by omega) (QY _) hB (by simp) (Lm.rep _) (fun i hi=>by simp [QI,XO,hi]) (by rw [Ud];simp) (by simp [vl])
 rw [Cd] at h4
 rw [h4,Y6 h1 (by omega) (by omega),A2,h3]
 rfl

theorem Adp {a b:Nat} (hb:0 < b) (hr:0 < a % b) {j:Nat} (h:b < 2 ^ (j + 1)):b % (a % b) < 2 ^ j:=by
 have h1:=KI a hb;have h2:=KI b hr;have h3:=Qaa b (a % b);generalize a % b = r at *
 have h4:1 <= b / r:=by rw [Nat.le_div_iff_mul_le hr];omega
 have h5:r * 1 <= r * (b / r):=KC r h4;rw [KL] at h;omega

theorem B60 {α:Type} {n L:Nat} (hL:L <= 1099511627000) (hn:L + 10040 <= n) {k0:List Int->Option α} :
  ∀ (j m a b:Nat),b < 2 ^ j->2 * j + 1 <= m->(dg a).length <= L->(dg b).length <= L->Jj n m (dg a) (dg b) k0 = k0 (dg (Nat.gcd b a)):=by
 have stop:∀ (m a:Nat),0 < m->Jj n m (dg a) (dg 0) k0 = k0 (dg (Nat.gcd 0 a)):=fun m a hm=>by
  obtain ⟨m,rfl⟩:∃ m',m = m' + 1:=⟨m - 1,by omega⟩
  rw [Aa5,Qah,Cd];rfl
 have step:∀ (m a b:Nat),0 < b->(dg a).length <= L->(dg b).length <= L->Jj n (m + 1) (dg a) (dg b) k0 = Jj n m (dg b) (dg (a % b)) k0:=fun m a b hb ha hbl=>by
  rw [Aa5];unfold A1a
  have:0 < (dg b).length:=by rw [Em (by omega)];simp
  rw [QJ,QK (by omega),Alx hb ha hbl hL hn,A2]
 intro j
 induction j with
 | zero =>
  intro m a b h1 h2 h3 h4
  obtain rfl:b = 0:=by simpa using h1
  exact stop m a (by omega)
 | succ j ih =>
  intro m a b h1 h2 h3 h4;rcases YZ b with rfl | hb
  . exact stop m a (by omega)
  obtain ⟨m,rfl⟩:∃ m',m = m' + 2:=⟨m - 2,by omega⟩
  have h5:(dg (a % b)).length <= L:=ZN (B7 (Nat.le_of_lt (KI a hb))) h4;rw [step _ _ _ hb h3 h4,Nat.gcd_rec b a];rcases YZ (a % b) with hr | hr
  . rw [hr];exact stop _ _ (by omega)
  have h6:(dg (b % (a % b))).length <= L:=ZN (B7 (Nat.le_of_lt (KI b hr))) h5;rw [step _ _ _ hr h4 h5,Nat.gcd_rec (a % b) b]
  exact ih m _ _ (Adp hb hr h1) (by omega) h5 h6

theorem Ajf {b L:Nat} (h:b < 10000 ^ L):b < 2 ^ (14 * L):=by
 rw [Nat.pow_mul]
 exact ZT h (Nat.pow_le_pow_left (by decide) L)

theorem B09 {n L a b:Nat} (hL:L <= 1099511627000) (hn:28 * L + 10040 <= n) (ha:(dg a).length <= L) (hb:(dg b).length <= L):f217 n (dg a) (dg b) = some (dg (Nat.gcd a b)):=by
 unfold f217
 have h1:(dg (Nat.gcd b a)).length <= L:=by
  rcases YZ b with rfl | h
  . rw [Qah];exact ha
  . exact ZN (B7 (Nat.gcd_le_left a h)) hb
 rw [B60 hL (by omega) (14 * L) n a b (Ajf (Lw hb)) (by omega) ha hb,A4 (by simp;try omega),Nat.gcd_comm]

theorem Pa {pre w post:List Int} {i:Nat} (h:i < w.length):(pre ++ w ++ post).getD (pre.length + i) 0 = w.getD i 0:=by
 rw [ZP,QI,QZ (by omega),Qae,ZA h,<- QI]

theorem Ajm {pre w post:List Int} {i:Nat} (h:i < w.length) (x:Int):(pre ++ w ++ post).set (pre.length + i) x = pre ++ w.set i x ++ post:=by
 rw [ZP,YX _ _ (by omega),Qae,List.set_append_left _ _ h,ZP]

theorem Avz {y:Int} (h:y < 0) (h':-1099511627776 < y):W (Int.tdiv (W (W (y - 10000) + 1)) 10000) = y / 10000:=by
 rw [Ae (x:=y - 10000) (by omega) (by omega),Ae (x:=y - 10000 + 1) (by omega) (by omega)]
 have:Int.tdiv (y - 10000 + 1) 10000 = y / 10000:=by
  rw [show y - 10000 + 1 = -(9999 - y) by omega,Int.neg_tdiv,KF (by omega)]
  omega
 rw [this,Ae (by omega) (by omega)]

theorem Awp {o P q c wi bi v' T y d r:Int} (h:o + P * (c - q * (bi + 10000 * v')) = T) (hy:y = wi + c - q * bi) (hd:y = 10000 * d + r):o + P * (r - wi) + 10000 * P * (d - q * v') = T:=by
 grind

theorem Aqe {o P c wi bi v' T y d r:Int} (h:o + P * (c + (bi + 10000 * v')) = T) (hy:y = wi + c + bi) (hd:y = 10000 * d + r):o + P * (r - wi) + 10000 * P * (d + v') = T:=by
 grind

theorem Zx {l:List Int} (k:Nat):vl (l.drop k) = l.getD k 0 + 10000 * vl (l.drop (k + 1)):=by
 rcases XN k l.length with h | h
 . exact Lt h
 . rw [ZF h,ZF (by omega),B8 h];rfl

theorem Apq {α:Type} {n N:Nat} {b pre post:List Int} (hb:Lm b) (hbN:b.length = N) (hN:pre.length + N + 1 + post.length <= 1099511627776) {q:Int} (hq:0 <= q /\ q < 10000) {T:Int} {k0:Nat->Nat->List Int->Int->Int->Int->List Int->Option α} :
  ∀ (m i:Nat) (c:Int) (w:List Int),Lm w->w.length = N + 1->-9999 <= c->c <= 0->i <= N + 1->vl w + 10000 ^ i * (c - q * vl (b.drop i)) = T->N + 2 <= i + m ->
  ∃ w' c',Lm w' /\ w'.length = N + 1 /\ c' <= 0 /\ vl w' + 10000 ^ (N + 1) * c' = T /\ Fq n m pre.length (N + 1) b (b.length:Int) q c ((N + 1:Nat):Int) (i:Int) (pre ++ w ++ post) k0 = k0 pre.length (N + 1) b (b.length:Int) q c' (pre ++ w' ++ post)
 | 0,i,c,w,h1,h2,h3,h4,h5,h6,h7=>by omega
 | m + 1,i,c,w,h1,h2,h3,h4,h5,h6,h7=>by
  rw [Ani];unfold Vj;dsimp only;by_cases hi:i < N + 1
  . rw [QJ,QK (by omega)]
    simp only [QS]
    rw [A4 (by simp;try omega),A4 (by simp;try omega)]
    simp only [Pa (pre:=pre) (post:=post) (w:=w) (i:=i) (by omega)]
    have g1:=h1.get i;have g2:=hb.get i;have g3:=A0a hq g2
    have go:∀ y:Int,y = w.getD i 0 + c - q * b.getD i 0 ->
      ∃ w' c',Lm w' /\ w'.length = N + 1 /\ c' <= 0 /\ vl w' + 10000 ^ (N + 1) * c' = T /\
      (bif (decide (y < 0)) then (gd (decide (0 <= (i:Int)) && decide ((i:Int) < ((N + 1:Nat):Int))) (
        gd (decide ((pre.length + i) < (pre ++ w ++ post).length)) (
         Fq n m pre.length (N + 1) b (b.length:Int) q (W (Int.tdiv (W ((W (y - 10000)) + 1)) 10000)) ((N + 1:Nat):Int) (W ((i:Int) + 1)) ((pre ++ w ++ post).set (pre.length + i) (W (y - (W ((W (Int.tdiv (W ((W (y - 10000)) + 1)) 10000)) * 10000))))) k0)))
       else (gd (decide (0 <= (i:Int)) && decide ((i:Int) < ((N + 1:Nat):Int))) (
        gd (decide ((pre.length + i) < (pre ++ w ++ post).length)) (
         Fq n m pre.length (N + 1) b (b.length:Int) q 0 ((N + 1:Nat):Int) (W ((i:Int) + 1)) ((pre ++ w ++ post).set (pre.length + i) (W (y - (W (0 * 10000))))) k0)))) = k0 pre.length (N + 1) b (b.length:Int) q c' (pre ++ w' ++ post):=by
     intro y hy
     have hd:y = 10000 * (y / 10000) + y % 10000:=by omega
     have go2 : ∀ d : Int, d = y / 10000 -> ∃ w' c', Lm w' /\ w'.length = N + 1 /\ c' <= 0 /\ vl w' + 10000 ^ (N + 1) * c' = T /\ (gd (decide (0 <= (i : Int)) && decide ((i : Int) < ((N + 1 : Nat) : Int))) (
           gd (decide ((pre.length + i) < (pre ++ w ++ post).length)) (
            Fq n m pre.length (N + 1) b (b.length:Int) q d ((N + 1:Nat):Int) (W ((i:Int) + 1)) ((pre ++ w ++ post).set (pre.length + i) (W (y - (W (d * 10000))))) k0))) = k0 pre.length (N + 1) b (b.length:Int) q c' (pre ++ w' ++ post):=by
      intro d hdd
      rw [A4 (by simp;try omega),A4 (by simp;try omega),Ajm (by omega),Ae (x:=d * 10000) (by omega) (by omega),Ae (x:=y - d * 10000) (by omega) (by omega),Ae (x:=(i:Int) + 1) (by omega) (by omega)]
      refine Apq (n:=n) hb hbN hN hq m (i + 1) d _ (h1.set _ (by omega)) (by simpa using h2) (by omega) (by omega) (by omega) ?_ (by omega)
      rw [K7 _ (by omega),Bn]
      refine Awp (bi:=b.getD i 0) ?_ hy (by omega)
      rw [<- Zx];exact h6
     rw [QJ];by_cases hneg:y < 0
     . rw [QK hneg]
       simp only [Avz hneg (by omega)]
       exact go2 _ rfl
     . rw [QH hneg]
       exact go2 0 (by omega)
    by_cases hB:i < b.length
    . have dB:decide ((i:Int) < (b.length:Int)) = true:=by rw [QR];omega
      simp only [dB,ZM]
      rw [A4 (by simp;try omega)]
      simp only [Ae (x:=q * b.getD i 0) (by omega) (by omega),Ae (x:=w.getD i 0 + c) (by omega) (by omega),Ae (x:=w.getD i 0 + c - q * b.getD i 0) (by omega) (by omega)]
      exact go _ rfl
    . have dB:decide ((i:Int) < (b.length:Int)) = false:=by rw [ZU];omega
      simp only [dB,QW]
      simp only [Ae (x:=w.getD i 0 + c) (by omega) (by omega)]
      exact go _ (by rw [B8 (l:=b) (by omega)];omega)
  . rw [QJ,QH (by omega)]
    obtain rfl:i = N + 1:=by omega
    rw [ZF (by omega)] at h6
    exact ⟨w,c,h1,h2,h4,by simpa [vl] using h6,rfl⟩

theorem Ajg {α:Type} {n N:Nat} {b pre post:List Int} (hb:Lm b) (hbN:b.length = N) (hN:pre.length + N + 1 + post.length <= 1099511627776) {q z:Int} {T:Int} {k0:Nat->Nat->List Int->Int->Int->Int->Int->List Int->Option α} :
  ∀ (m i:Nat) (c:Int) (w:List Int),Lm w->w.length = N + 1->0 <= c->c <= 1->i <= N + 1->vl w + 10000 ^ i * (c + vl (b.drop i)) = T->N + 2 <= i + m ->
  ∃ w' c',Lm w' /\ w'.length = N + 1 /\ 0 <= c' /\ c' <= 1 /\ vl w' + 10000 ^ (N + 1) * c' = T /\ Hs n m pre.length (N + 1) b (b.length:Int) q z c ((N + 1:Nat):Int) (i:Int) (pre ++ w ++ post) k0 = k0 pre.length (N + 1) b (b.length:Int) q z c' (pre ++ w' ++ post)
 | 0,i,c,w,h1,h2,h3,h4,h5,h6,h7=>by omega
 | m + 1,i,c,w,h1,h2,h3,h4,h5,h6,h7=>by
  rw [Aih];unfold Rk;dsimp only;by_cases hi:i < N + 1
  . rw [QJ,QK (by omega)]
    simp only [QS]
    rw [A4 (by simp;try omega),A4 (by simp;try omega),Pa (by omega)]
    have g1:=h1.get i;have g2:=hb.get i
    have go : ∀ y : Int, y = w.getD i 0 + c + b.getD i 0 -> ∃ w' c', Lm w' /\ w'.length = N + 1 /\ 0 <= c' /\ c' <= 1 /\ vl w' + 10000 ^ (N + 1) * c' = T /\ (gd (decide (0 <= (i : Int)) && decide ((i : Int) < ((N + 1 : Nat) : Int))) (
            gd (decide ((pre.length + i) < (pre ++ w ++ post).length)) (
             Hs n m pre.length (N + 1) b (b.length:Int) q z (W (Int.tdiv y 10000)) ((N + 1:Nat):Int) (W ((i:Int) + 1)) ((pre ++ w ++ post).set (pre.length + i) (Int.tmod y 10000)) k0))) = k0 pre.length (N + 1) b (b.length:Int) q z c' (pre ++ w' ++ post):=by
     intro y hy
     have hd:y = 10000 * (y / 10000) + y % 10000:=by omega
     rw [A4 (by simp;try omega),A4 (by simp;try omega),Ajm (by omega),tdv (by omega),tmd (by omega),Ae (x:=y / 10000) (by omega) (by omega),Ae (x:=(i:Int) + 1) (by omega) (by omega)]
     refine Ajg (n:=n) hb hbN hN m (i + 1) _ _ (h1.set _ (by omega)) (by simpa using h2) (by omega) (by omega) (by omega) ?_ (by omega)
     rw [K7 _ (by omega),Bn]
     refine Aqe (bi:=b.getD i 0) ?_ hy hd;rw [<- Zx];exact h6
    by_cases hB:i < b.length
    . have dB:decide ((i:Int) < (b.length:Int)) = true:=by rw [QR];omega
      simp only [dB,ZM]
      rw [A4 (by simp;try omega)]
      simp only [Ae (x:=w.getD i 0 + c) (by omega) (by omega),Ae (x:=w.getD i 0 + c + b.getD i 0) (by omega) (by omega)]
      exact go _ rfl
    . have dB:decide ((i:Int) < (b.length:Int)) = false:=by rw [ZU];omega
      simp only [dB,QW]
      simp only [Ae (x:=w.getD i 0 + c) (by omega) (by omega)]
      exact go _ (by rw [B8 (l:=b) (by omega)];omega)
  . rw [QJ,QH (by omega)]
    obtain rfl:i = N + 1:=by omega
    rw [ZF (by omega)] at h6
    exact ⟨w,c,h1,h2,h3,h4,by simpa [vl] using h6,rfl⟩

theorem Azv {P v c R qB:Int} (h1:v < P) (hP:0 < P) (h:v + P * c = R - qB) (hc:c < 0):R - qB < 0:=by
 have:P * c <= P * (-1):=XK (by omega) (by omega)
 omega

theorem Azw {P v c R q B:Int} (h0:v < P) (h:v + P * c = R - q * B) (hB:0 <= B) (hBP:B < P) (hR:0 <= R) (hq:q < 10000) (hq0:0 <= q):-10000 <= c:=by
 have h9:q * B <= 10000 * B:=Int.mul_le_mul_of_nonneg_right (by omega) (by omega)
 rcases Int.lt_or_le c (-10000) with h1 | h1
 . have h8:P * c <= P * (-10001):=XK (by omega) (by omega)
   exfalso;omega
 . exact h1

theorem Azu {v v' x x' R qB B:Int} (h:v + x = R - qB) (h':v' + x' = v + B):v' + (x + x') = R - (qB - B):=by omega

theorem Alf {α:Type} {n N R B:Nat} {pre post:List Int} (hB:0 < B) (hbN:(dg B).length = N) (hN:pre.length + N + 1 + post.length <= 1099511627776) (hn:N + 2 <= n) {k0:Int->List Int->Option α} :
  ∀ (m q:Nat) (c:Int) (w:List Int),Lm w->w.length = N + 1->c <= 0->vl w + 10000 ^ (N + 1) * c = (R:Int) - q * B->R / B <= q->q < 10000->q < m ->
  ∃ w',Lm w' /\ w'.length = N + 1 /\ vl w' = ((R % B:Nat):Int) /\ Ht n m pre.length (N + 1) (dg B) ((dg B).length:Int) (q:Int) c (pre ++ w ++ post) k0 = k0 ((R / B:Nat):Int) (pre ++ w' ++ post)
 | 0,q,c,w,h1,h2,h3,h4,h5,h6,h7=>by omega
 | m + 1,q,c,w,h1,h2,h3,h4,h5,h6,h7=>by
  rw [Aij];unfold Rn;dsimp only;have hw:=H8 h1;have hw0:=B0 h1;rw [h2] at hw;rw [QJ];have hP:=F4 (N + 1);have hBP:=A3x B;rw [hbN] at hBP;have hdm:=Qaa R B;have hml:=KI R hB;by_cases hc:c < 0
  . rw [QK hc];have hneg:=Azv hw hP h4 hc
    have hlt:R / B < q:=by
     rw [KQ hB];have:((q * B:Nat):Int) = (q:Int) * B:=YD q B;omega
    have hq0:0 < q:=Nat.lt_of_le_of_lt (KD _) hlt
    have hBi:(B:Int) < 10000 ^ N:=by rw [<- pwc];omega
    have hBP':(B:Int) < 10000 ^ (N + 1):=by
     have:=X7 (show N <= N + 1 by omega)
     omega
    have hcm:=Azw (q:=(q:Int)) hw h4 (by omega) hBP' (by omega) (by omega) (by omega)
    rw [Ae (x:=(q:Int) - 1) (by omega) (by omega),show (q:Int) - 1 = ((q - 1:Nat):Int) by omega]
    obtain ⟨w',c',q1,q2,q3,q4,q5,q6⟩:=Ajg (n:=n) (Dd B) hbN hN (q:=((q - 1:Nat):Int)) (z:=c) (T:=vl w + B) (k0:=fun a b d f g h i j=>(
     Ht n m a b d f g (W (h + i)) j k0)) n 0 0 w h1 h2 (by omega) (by omega) (by omega) (by rw [XG,Bg,Int.pow_zero,Int.one_mul,Int.zero_add]) (by omega)
    have q6:Hs n n pre.length (N + 1) (dg B) ((dg B).length:Int) ((q - 1:Nat):Int) c 0 ((N + 1:Nat):Int) 0 (pre ++ w ++ post) _ = _:=q6;rw [q6]
    have hq1:((q - 1:Nat):Int) * B = q * B - B:=by
     rw [show ((q - 1:Nat):Int) = (q:Int) - 1 by omega,Int.sub_mul,Int.one_mul]
    have hnew:vl w' + 10000 ^ (N + 1) * (c + c') = (R:Int) - ((q - 1:Nat):Int) * B:=by
     rw [Int.mul_add,hq1];exact Azu h4 q5
    rw [Ae (x:=c + c') (by omega) (by omega)]
    exact Alf hB hbN hN hn m (q - 1) (c + c') w' q1 q2 (by omega) hnew (by omega) (by omega) (by omega)
  . rw [QH hc]
    obtain rfl:c = 0:=by omega
    rw [Qac,Qav] at h4
    have e:R / B = q:=by
     refine Nat.le_antisymm h5 ?_;rw [Nat.le_div_iff_mul_le hB];have:((q * B:Nat):Int) = (q:Int) * B:=YD q B;omega
    refine ⟨w,h1,h2,?_,by rw [e]⟩
    have:((B * q:Nat):Int) = (q:Int) * B:=by rw [YD,Int.mul_comm]
    rw [e] at hdm;omega

theorem B9x {P lowR lowB high top t R B:Int} (hR:R = lowR + P * high) (hB:B = lowB + P * top) (h1:lowR < P) (h2:0 <= lowB) (hP:0 < P) (ht:0 <= t) (hle:t * B <= R):t * top <= high:=by
 have h3:t * (P * top) <= t * B:=XK (by omega) ht
 have h4:P * (t * top) < P * (high + 1):=by
  rw [Int.mul_add,Int.mul_one,show P * (t * top) = t * (P * top) by grind];omega
 have:=Int.lt_of_mul_lt_mul_left h4 (by omega)
 omega

theorem Ayp {n M R B:Nat} {pre w post:List Int} (hbN:(dg B).length = M + 2) (hN:pre.length + (M + 2) + 1 + post.length <= 1099511627776) (hn:M + 10010 <= n) (hw:Lm w) (hwl:w.length = M + 3) (hv:vl w = (R:Int)) (hR:R < 10000 * B) :
  ∃ w',Lm w' /\ w'.length = M + 3 /\ vl w' = ((R % B:Nat):Int) /\ Abz n (pre ++ w ++ post,pre.length,M + 3) (dg B) = some (((R / B:Nat):Int),pre ++ w' ++ post):=by
 have hB:0 < B:=by omega
 unfold Abz;dsimp only;rw [hbN]
 rw [Ae (x:=((M + 2:Nat):Int) - 1) (by omega) (by omega),Ae (x:=((M + 2:Nat):Int) - 2) (by omega) (by omega),show ((M + 2:Nat):Int) - 1 = ((M + 1:Nat):Int) by omega,show ((M + 2:Nat):Int) - 2 = (M:Int) by omega]
 simp only [QS];have hb:=Dd B;have g0:=hw.get (M + 2);have g1:=hw.get (M + 1);have g2:=hw.get M;have s:=hb.get (M + 1);have t:=hb.get M
 have bt:(dg B).getD (M + 1) 0 ≠ 0:=by
  have:=(Gf B).2 (XC.1 (by omega))
  rw [hbN] at this;exact this
 rw [A4 (by simp;try omega),A4 (by simp;try omega),A4 (by simp;try omega),A4 (by simp;try omega),A4 (by simp;try omega),A4 (by simp;try omega),A4 (by simp;try omega),A4 (by simp;try omega)]
 simp only [Pa (pre:=pre) (post:=post) (w:=w) (i:=M + 2) (by omega),Pa (pre:=pre) (post:=post) (w:=w) (i:=M + 1) (by omega),Pa (pre:=pre) (post:=post) (w:=w) (i:=M) (by omega)]
 simp only [Ae (x:=(dg B).getD (M + 1) 0 * 10000) (by omega) (by omega),Ae (x:=(dg B).getD (M + 1) 0 * 10000 + (dg B).getD M 0) (by omega) (by omega),Ae (x:=w.getD (M + 2) 0 * 10000) (by omega) (by omega),Ae (x:=w.getD (M + 2) 0 * 10000 + w.getD (M + 1) 0) (by omega) (by omega),Ae (x:=(w.getD (M + 2) 0 * 10000 + w.getD (M + 1) 0) * 10000) (by omega) (by omega),Ae (x:=(w.getD (M + 2) 0 * 10000 + w.getD (M + 1) 0) * 10000 + w.getD M 0) (by omega) (by omega)]
 rw [A4 (by simp only [QR];omega)]
 have vw:(R:Int) = vl (w.take M) + 10000 ^ M * ((w.getD (M + 2) 0 * 10000 + w.getD (M + 1) 0) * 10000 + w.getD M 0):=by
  have t1:=B1 w (M + 2);have t2:=B1 w (M + 1);have t3:=B1 w M
  rw [J0 w (by omega),hv] at t1
  rw [t1,t2,t3,Bn,Bn];grind
 have vb:(B:Int) = vl ((dg B).take M) + 10000 ^ M * ((dg B).getD (M + 1) 0 * 10000 + (dg B).getD M 0):=by
  have t2:=B1 (dg B) (M + 1);have t3:=B1 (dg B) M
  rw [J0 (dg B) (by omega),Bg] at t2
  rw [t2,t3,Bn];grind
 have lw:=H8 (hw.take M)
 rw [YO,JE (by omega)] at lw
 have lb:=B0 (hb.take M);generalize hhigh:(w.getD (M + 2) 0 * 10000 + w.getD (M + 1) 0) * 10000 + w.getD M 0 = high at *;generalize htop:(dg B).getD (M + 1) 0 * 10000 + (dg B).getD M 0 = top at *
 have htop0:0 < top:=by omega
 have hh0:0 <= high /\ high < 1000000000000:=by omega
 rw [KF (by omega)]
 have hd0:0 <= high / top:=Int.ediv_nonneg (by omega) (by omega)
 have hd1:high / top <= high:=Int.ediv_le_self _ (by omega)
 rw [Ae (x:=high / top) (by omega) (by omega)]
 obtain ⟨q,hq⟩:∃ q:Nat,min (high / top) 9999 = (q:Int):=⟨(min (high / top) 9999).toNat,by omega⟩
 have hql:q < 10000:=by omega
 have hqr:R / B <= q:=by
  have h1:(((R / B:Nat):Int)) * top <= high:=by
   refine B9x vw vb lw lb (F4 M) (Int.natCast_nonneg _) ?_;have:=Nat.div_mul_le_self R B;rw [<- YD];omega
  have h2:((R / B:Nat):Int) <= high / top:=by rw [Int.le_ediv_iff_mul_le htop0];exact h1
  have h3:R / B < 10000:=by rw [KQ hB];omega
  omega
 rw [hq]
 obtain ⟨w1, e, r1, r2, r3, r4, r5⟩ := Apq (n := n) (N := M + 2) (b := dg B) (pre := pre) (post := post) hb hbN hN (q := (q : Int)) (by omega) (T := (R : Int) - q * B) (k0 := fun f g h j k l m => (
                       Ht n n f g h j k l m
                        (fun a c=>(
                         some (a,c))))) n 0 0 w hw hwl (by omega) (by omega) (by omega) (by rw [XG,Bg,hv,Int.pow_zero,Int.one_mul,Int.zero_sub,Int.sub_eq_add_neg]) (by omega)
 obtain ⟨w2,o,p,r,d⟩:=Alf (n:=n) (N:=M + 2) (R:=R) (B:=B) (pre:=pre) (post:=post) hB hbN hN (by omega) (k0:=fun a c=>(some (a,c))) n q e w1 r1 r2 r3 r4 hqr hql (by omega)
 refine ⟨w2,o,p,r,?_⟩;rw [hbN] at r5 d;have r5:Fq n n pre.length (M + 3) (dg B) ((M + 2:Nat):Int) (q:Int) 0 ((M + 3:Nat):Int) 0 (pre ++ w ++ post) _ = _:=r5;rw [r5];exact d

theorem B9l (y b:Nat):Int.tdiv (y:Int) (b:Int) = ((y / b:Nat):Int):=by
 rw [KF (by omega),Int.natCast_ediv]

theorem B9k (y b:Nat):Int.tmod (y:Int) (b:Int) = ((y % b:Nat):Int):=by
 rw [Int.tmod_eq_emod_of_nonneg (by omega),Int.natCast_emod]

theorem Ajb {o:List Int} {k i:Nat} {x:Int} (h:∀ i,i < k + 1->o.getD i 0 = 0) (hi:i < k):(o.set k x).getD i 0 = 0:=by
 rw [QI,ZV (by omega),<- QI]
 exact h i (by omega)

theorem Ack {Q B R x q r y:Nat} (hy:x + 10000 * R = y) (hqr:B * q + r = y) {V:Int} (hV:(Q:Int) * B + R = V):((10000 * Q + q:Nat):Int) * B + r = x + 10000 * V:=by
 have:(B:Int) * q + r = x + 10000 * R:=by
  rw [<- Abv,hy,<- hqr,JH,YD]
 rw [A3v,<- hV];grind

theorem Aqh {α:Type} {n A B:Nat} (hB:0 < B) (hB1:B < 10000) (hlA:(dg A).length <= 1099511627000) {k0:Int->List Int->Option α} :
  ∀ (k Q R:Nat) (o:List Int),k <= (dg A).length->R < B->o.length = (dg A).length->Lm o->(∀ i,i < k->o.getD i 0 = 0)->vl o = 10000 ^ k * (Q:Int)->(Q:Int) * B + R = vl ((dg A).drop k) ->
  ∃ o',Lm o' /\ o'.length = (dg A).length /\ vl o' = ((A / B:Nat):Int) /\ Jg n (dg A) k (dg A) [(B:Int)] (R:Int) o k0 = k0 ((A % B:Nat):Int) o'
 | 0,Q,R,o,h2,h3,h4,h5,h6,h7,h8=>by
  rw [Aso];rw [XG,Bg] at h8
  have h8:Q * B + R = A:=by
   have:((Q * B + R:Nat):Int) = A:=by rw [JH,YD];exact h8
   omega
  have h9:A / B = Q:=by rw [<- h8,Nat.add_comm,Qam _ _ hB,KZ h3,XS]
  have h10:A % B = R:=by rw [<- h8,JQ,KN h3]
  exact ⟨o,h5,h4,by rw [h7,h9];simp,by rw [h10]⟩
 | k + 1,Q,R,o,h2,h3,h4,h5,h6,h7,h8=>by
  rw [Asm];unfold A0s;dsimp only;have hg:=(Dd A).get k
  obtain ⟨x,hx⟩:∃ x:Nat,(dg A).getD k 0 = (x:Int):=⟨((dg A).getD k 0).toNat,by omega⟩
  have hRx:vl ((dg A).drop k) = (x:Int) + 10000 * vl ((dg A).drop (k + 1)):=by
   rw [Lt (by omega),hx]
  simp only [QS]
  rw [A4 (by simp;try omega),A4 (by simp;omega),A4 (by simp;try omega),A4 (by simp;omega),A4 (by simp;try omega),A4 (by simp;try omega),A4 (by simp),hx]
  rw [Ae (x:=(R:Int) * 10000) (by omega) (by omega),Ae (x:=(R:Int) * 10000 + (x:Int)) (by omega) (by omega),show (R:Int) * 10000 + (x:Int) = ((x + 10000 * R:Nat):Int) by omega]
  have e0:([(B:Int)]).getD 0 0 = (B:Int):=rfl;rw [e0,B9l,B9k]
  have hq:(x + 10000 * R) / B < 10000:=by
   rw [KQ hB];omega
  have hqr:=Qaa (x + 10000 * R) B;have hqm:=KI (x + 10000 * R) hB;generalize (x + 10000 * R) / B = q at *;generalize (x + 10000 * R) % B = r at *
  rw [Ae (x:=(q:Int)) (by omega) (by omega)]
  refine Aqh hB hB1 hlA k (10000 * Q + q) r _ (by omega) hqm (by simpa using h4) (h5.set _ (by omega)) (fun i hi=>Ajb h6 hi) ?_ ?_
  . rw [K7 _ (by omega),h7,h6 k (by omega),Bn,A3v]
    generalize (10000:Int) ^ k = P;grind
  . rw [hRx,<- h8];exact Ack rfl hqr rfl

theorem Ajp {α:Type} {n A B M:Nat} (hM:(dg B).length = M + 2) (hla:(dg B).length <= (dg A).length) (hlA:(dg A).length <= 1099511627000) (hn:(dg A).length + 10040 <= n) {k0:List Int->List Int->Option α} :
  ∀ (k m Q R:Nat) (o u:List Int),k < m->k <= (dg A).length - (M + 1)->R < B->o.length = (dg A).length - (M + 1)->Lm o->(∀ i,i < k->o.getD i 0 = 0)->vl o = 10000 ^ k * (Q:Int) ->
  Lm u->u.length + k = (dg A).length + 1->vl u = (R:Int)->(Q:Int) * B + R = vl ((dg A).drop k) ->
  ∃ o' u',Lm o' /\ o'.length = (dg A).length - (M + 1) /\ vl o' = ((A / B:Nat):Int) /\ Lm u' /\ u'.length = (dg A).length + 1 /\ vl u' = ((A % B:Nat):Int) /\
   Rp n m ((dg B).length:Int) ((k:Int) - 1) (dg B) o ((dg A).take k ++ u) k0 = k0 o' u'
 | _,0,_,_,_,_,h1,_,_,_,_,_,_,_,_,_,_=>by omega
 | 0,m + 1,Q,R,o,u,h1,h2,h3,h4,h5,h6,h7,u1,u2,u3,h8=>by
  rw [A4l];unfold O8;dsimp only
  rw [QJ,QH (by omega)]
  rw [XG,Bg] at h8
  have h8:Q * B + R = A:=by
   have:((Q * B + R:Nat):Int) = A:=by rw [JH,YD];exact h8
   omega
  have hB:0 < B:=by omega
  have h9:A / B = Q:=by rw [<- h8,Nat.add_comm,Qam _ _ hB,KZ h3,XS]
  have h10:A % B = R:=by rw [<- h8,JQ,KN h3]
  exact ⟨o,u,h5,h4,by rw [h7,h9];simp,u1,by omega,by rw [u3,h10],by simp⟩
 | k + 1,m + 1,Q,R,o,u,h1,h2,h3,h4,h5,h6,h7,u1,u2,u3,h8=>by
  rw [A4l];unfold O8;dsimp only
  have hB:0 < B:=by omega
  rw [QJ,QK (by omega)]
  rw [show (((k + 1:Nat):Int) - 1) = (k:Int) by omega]
  have hg:=(Dd A).get k
  obtain ⟨x,hx⟩:∃ x:Nat,(dg A).getD k 0 = (x:Int):=⟨((dg A).getD k 0).toNat,by omega⟩
  have hRx:vl ((dg A).drop k) = (x:Int) + 10000 * vl ((dg A).drop (k + 1)):=by
   rw [Lt (by omega),hx]
  have htk:(dg A).take (k + 1) ++ u = (dg A).take k ++ ((x:Int) :: u):=by
   rw [JA (by omega),ZP]
   congr 1
   rw [<- hx,QI,QN (by omega)]
   rfl
  have hL:Lm ((x:Int) :: u):=Lm.cons (by omega) u1
  have hv:vl ((x:Int) :: u) = ((x + 10000 * R:Nat):Int):=by rw [vl,u3,Abv]
  have hlt:x + 10000 * R < 10000 * B:=by omega
  obtain ⟨w,post,hwp,hw,hp,hwl⟩:∃ w post,(x:Int) :: u = w ++ post /\ Lm w /\ Lm post /\ w.length = M + 3 :=
   ⟨((x:Int) :: u).take (M + 3),((x:Int) :: u).drop (M + 3),(JL _ _).symm,hL.take _,hL.drop _,by rw [YO,QU];omega⟩
  have hlp:w.length + post.length = u.length + 1:=by
   have:=XU List.length hwp;simpa using this.symm
  have hvp:vl post = 0:=by
   have e:=hv;rw [hwp,A3k,hwl] at e
   have h10:B < 10000 ^ (M + 2):=Lw (by omega)
   have h11:((x + 10000 * R:Nat):Int) < 10000 ^ (M + 3):=by
    rw [Bn,<- pwc];omega
   have h12:=B0 hw;have h13:=B0 hp;rcases Int.lt_or_eq_of_le h13 with h | h
   . exfalso
     have h14:(10000:Int) ^ (M + 3) * 1 <= 10000 ^ (M + 3) * vl post:=XK (by omega) (by have:=F4 (M + 3);omega)
     generalize (10000:Int) ^ (M + 3) * vl post = z at *;generalize (10000:Int) ^ (M + 3) = P at *;omega
   . exact h.symm
  have hvw:vl w = ((x + 10000 * R:Nat):Int):=by
   rw [<- hv,hwp,A3k,hvp];simp
  rw [htk,hwp,<- ZP]
  have hpl:((dg A).take k).length = k:=by rw [YO];omega
  obtain ⟨w',q1,q2,q3,q4⟩:=Ayp (n:=n) (pre:=(dg A).take k) (post:=post) hM (by omega) (by omega) hw hwl hvw hlt
  rw [hpl] at q4
  rw [Ae (x:=(k:Int) + ((dg B).length:Int)) (by omega) (by omega),Ae (x:=(k:Int) + ((dg B).length:Int) + 1) (by omega) (by omega)]
  rw [A4 (by simp only [QE,QR,ZZ,hpl];omega)]
  rw [show ((k:Int) + ((dg B).length:Int) + 1).toNat - (k:Int).toNat = M + 3 by omega]
  simp only [QS];rw [q4,A2];dsimp only;have hqm:=KI (x + 10000 * R) hB;have hqr:=Qaa (x + 10000 * R) B
  have hq:(x + 10000 * R) / B < 10000:=by
   rw [KQ hB];omega
  generalize (x + 10000 * R) / B = q at *;generalize (x + 10000 * R) % B = r at *
  rw [A4 (by simp [hwl,q2]),A4 (by simp;try omega),A4 (by simp;try omega),Ae (x:=(k:Int) - 1) (by omega) (by omega),ZP]
  refine Ajp hM hla hlA hn k m (10000 * Q + q) r _ _ (by omega) (by omega) hqm (by simpa using h4) (h5.set _ (by omega)) (fun i hi=>Ajb h6 hi) ?_ (q1.app hp) ?_ ?_ ?_
  . rw [K7 _ (by omega),h7,h6 k (by omega),Bn,A3v]
    generalize (10000:Int) ^ k = P;grind
  . rw [ZZ];omega
  . rw [A3k,hvp,q3];simp
  . rw [hRx,<- h8];exact Ack rfl hqr rfl

theorem Jn (n:Nat) {l:List Int} (h:l.length <= 17592186044416):f117 n l = some l:=by
 unfold f117
 cases l with
 | nil=>rfl
 | cons x r =>
  unfold Ap0
  rw [XI,QH (by simp),A4 (by rfl),A4 (by simp only [QR];simp only [QU] at *;omega)]

theorem T1 (n:Nat) {l:List Int} (h:l.length <= 17592186044416) (h0:l ≠ []):Ik n l = some l:=by
 unfold Ik
 cases l with
 | nil=>exact absurd rfl h0
 | cons x r=>rw [A4 (by rfl),A4 (by simp only [QR];simp only [QU] at *;omega)]

theorem Ami {n L A B:Nat} (hB:0 < B) (hA:(dg A).length <= L) (hBl:(dg B).length <= L) (hL:L <= 1099511627000) (hn:L + 10040 <= n):f227 n (dg A) (dg B) = some (dg (A / B),dg (A % B)):=by
 unfold f227
 rw [Abw (by omega),A2,QJ]
 by_cases hlt:A < B
 . rw [QK (by rw [Ip (by omega)];omega),Jn n (by omega),A2,KZ hlt,KN hlt,Cd]
 . rw [QH (by
    rcases JG (Nat.le_of_not_lt hlt) with h | h
    . rw [Iq (by omega)];omega
    . rw [K5 (by omega)];omega)]
   have hmn:(dg B).length <= (dg A).length:=B7 (by omega)
   have hb0:0 < (dg B).length:=by rw [Em (by omega)];simp
   rw [XI];by_cases h1:(dg B).length = 1
   . rw [QK (by simp [h1])]
     have hB1:B < 10000:=by have:=Lw (n:=B) (k:=1) (by omega);simpa using this
     have hBd:dg B = [(B:Int)]:=by
      rw [Em (by omega),KN hB1,KZ hB1,Cd]
     rw [A4 (by simp;try omega),show f228 n (dg A) = some (dg A) from rfl,A2,Asn,A4 (by simp;try omega),hBd]
     simp only [QS]
     obtain ⟨o, q1, q2, q3, q4⟩ := Aqh (n := n) (A := A) hB hB1 (by omega) (k0 := fun a b => (
           ob (f225 n b) fun c =>
           ob (f179 n a) fun d =>
           some (c,d))) (dg A).length 0 0 (List.replicate (dg A).length 0) (QY _) hB (by simp) (Lm.rep _) (fun i hi=>by simp [QI,XO,hi]) (by rw [Ud];simp) (by simp [vl])
     have q4:Jg n (dg A) (dg A).length (dg A) [(B:Int)] 0 _ _ = _:=q4;have hm:=KI A hB
     rw [q4,Po q1 (by omega) (by omega),A2,A81 (by omega) (by omega),A2,q3]
     rfl
   . rw [QH (by simp;omega)]
     obtain ⟨M,hM⟩:∃ M,(dg B).length = M + 2:=⟨(dg B).length - 2,by omega⟩
     rw [T1 n (by omega) (XC.1 (by omega)),A2,A4 (by simp;try omega)]
     rw [Ae (x:=((dg A).length:Int) - ((dg B).length:Int)) (by omega) (by omega),Ae (x:=((dg A).length:Int) - ((dg B).length:Int) + 1) (by omega) (by omega),A4 (by simp;try omega)]
     rw [show (((dg A).length:Int) - ((dg B).length:Int) + 1).toNat = (dg A).length - (M + 1) by omega]
     have hR0:=B0 ((Dd A).drop ((dg A).length - (M + 1)));obtain ⟨R,hR⟩:∃ R:Nat,vl ((dg A).drop ((dg A).length - (M + 1))) = (R:Int):=⟨_,(Int.toNat_of_nonneg hR0).symm⟩
     have hRB:R < B:=by
      have:=H8 ((Dd A).drop ((dg A).length - (M + 1)))
      rw [List.length_drop,show (dg A).length - ((dg A).length - (M + 1)) = M + 1 by omega,hR] at this
      have h2:=(Gf B).ge (XC.1 (by omega))
      rw [hM,Bg] at h2;have h2:(10000:Int) ^ (M + 1) <= B:=h2;generalize (10000:Int) ^ (M + 1) = P at *;omega
     obtain ⟨o, u, q1, q2, q3, q4, q5, q6, q7⟩ := Ajp (n := n) (A := A) (B := B) hM hmn (by omega) (by omega) (k0 := fun e f => (
             ob (f225 n e) fun g =>
             ob (f225 n f) fun j =>
             some (g,j))) ((dg A).length - (M + 1)) n 0 R (List.replicate ((dg A).length - (M + 1)) 0) ((dg A).drop ((dg A).length - (M + 1)) ++ [0]) (by omega) (QY _) hRB (by simp) (Lm.rep _) (fun i hi=>by simp [QI,XO,hi]) (by rw [Ud];simp) (((Dd A).drop _).app (Lm.cons (by omega) Lm.nil)) (by simp;omega) (by rw [P3,hR];simp) (by rw [hR];simp)
     rw [<- ZP,JL] at q7
     rw [show ((dg A).length:Int) - ((dg B).length:Int) = (((dg A).length - (M + 1):Nat):Int) - 1 by omega,q7,Po q1 (by omega) (by omega),A2,Po q4 (by omega) (by omega),A2,q3,q6]
     rfl

theorem B5z {α:Type} {n L:Nat} (hL:L <= 1099511627000) (hn:L + 10040 <= n) {k0:List Int->Option α} :
  ∀ (j m a b:Nat),b < 2 ^ j->2 * j + 1 <= m->(dg a).length <= L->(dg b).length <= L->Ji n m (dg a) (dg b) k0 = k0 (dg (Nat.gcd b a)):=by
 have stop:∀ (m a:Nat),0 < m->Ji n m (dg a) (dg 0) k0 = k0 (dg (Nat.gcd 0 a)):=fun m a hm=>by
  obtain ⟨m,rfl⟩:∃ m',m = m' + 1:=⟨m - 1,by omega⟩
  rw [Aa0,Qah,Cd];rfl
 have step:∀ (m a b:Nat),0 < b->(dg a).length <= L->(dg b).length <= L->Ji n (m + 1) (dg a) (dg b) k0 = Ji n m (dg b) (dg (a % b)) k0:=fun m a b hb ha hbl=>by
  rw [Aa0];unfold A0v
  have:0 < (dg b).length:=by rw [Em (by omega)];simp
  rw [QJ,QK (by omega),Ami hb ha hbl hL hn,A2]
 intro j
 induction j with
 | zero =>
  intro m a b h1 h2 h3 h4
  obtain rfl:b = 0:=by simpa using h1
  exact stop m a (by omega)
 | succ j ih =>
  intro m a b h1 h2 h3 h4;rcases YZ b with rfl | hb
  . exact stop m a (by omega)
  obtain ⟨m,rfl⟩:∃ m',m = m' + 2:=⟨m - 2,by omega⟩
  have h5:(dg (a % b)).length <= L:=ZN (B7 (Nat.le_of_lt (KI a hb))) h4;rw [step _ _ _ hb h3 h4,Nat.gcd_rec b a];rcases YZ (a % b) with hr | hr
  . rw [hr];exact stop _ _ (by omega)
  have h6:(dg (b % (a % b))).length <= L:=ZN (B7 (Nat.le_of_lt (KI b hr))) h5;rw [step _ _ _ hr h4 h5,Nat.gcd_rec (a % b) b]
  exact ih m _ _ (Adp hb hr h1) (by omega) h5 h6

theorem B0l {n L a b:Nat} (hL:L <= 1099511627000) (hn:28 * L + 10040 <= n) (ha:(dg a).length <= L) (hb:(dg b).length <= L):f226 n (dg a) (dg b) = some (dg (Nat.gcd a b)):=by
 unfold f226
 rw [B5z hL (by omega) (14 * L) n a b (Ajf (Lw hb)) (by omega) ha hb,Nat.gcd_comm]

abbrev Rt:=Bool × List Int × List Int

abbrev Ny:Rt:=(false,[],[])

def Sm (x:Rt):Prop:=x.2.1.length <= 1048576 /\ x.2.2.length <= 1048576

def Bd (x:Rt):Prop:=x.2.1.length <= 9223372036854775807 /\ x.2.2.length <= 9223372036854775807

theorem Al5 {n:Nat} {l:List Int} {B:Int} (hB:0 <= B /\ B <= 1048576) (hl:l.length <= 9223372036854775807):f137 n l B = some (if (l.length:Int) <= B then B - l.length else -1):=by
 unfold f137
 rw [Ae (x:=B - (l.length:Int)) (by omega) (by omega),QJ]
 by_cases h:(l.length:Int) <= B
 . rw [QH (by omega),QK h]
 . rw [QK (by omega),QH h]

theorem B6f {n:Nat} {x:Rt} {B:Int} (hB:0 <= B /\ B <= 1048576) (hx:Bd x):∃ r,f81 n x B = some r /\ (r = -1 \/ (0 <= r /\ r <= B /\ Sm x)):=by
 unfold f81;rw [Al5 hB hx.1,A2];by_cases h:(x.2.1.length:Int) <= B
 . rw [QK h,QJ,QH (by omega),Al5 (by omega) hx.2,A2]
   by_cases h':(x.2.2.length:Int) <= B - x.2.1.length
   . rw [QK h',QJ,QH (by omega)]
     exact ⟨_,rfl,.inr ⟨by omega,by omega,by unfold Sm;omega⟩⟩
   . rw [QH h',QJ,QK (by omega)]
     exact ⟨_,rfl,.inl rfl⟩
 . rw [QH h,QJ,QK (by omega)]
   exact ⟨_,rfl,.inl rfl⟩

theorem Aeu {n:Nat} {l:List Rt} (hl:l.length <= 1048576) (hb:∀ x ∈ l,Bd x):∀ (m i:Nat) (B:Int),0 <= B /\ B <= 1048576->i <= l.length->l.length < i + m ->
  ∃ r,A4i n m l B (i:Int) (fun z=>some z) (fun z=>some z) = some r /\ (r = -1 \/ (0 <= r /\ r <= B /\ ∀ x ∈ l.drop i,Sm x))
 | 0,i,B,hB,hi,hm=>by omega
 | m + 1,i,B,hB,hi,hm=>by
  rw [Ayl];unfold A7n;dsimp only;rw [QJ];by_cases h:i < l.length
  . rw [QK (by omega),A4 (by simp;try omega)]
    simp only [QS]
    have hd:l.drop i = l.getD i Ny :: l.drop (i + 1):=by
     rw [XT h,QI,QN h];rfl
    have hmem:l.getD i Ny ∈ l:=Qar (i:=i) (by rw [hd];simp)
    obtain ⟨r,h1,h2⟩:=B6f (n:=n) hB (hb _ hmem);rw [h1,A2];rcases h2 with rfl | ⟨h2,h3,h4⟩
    . exact ⟨-1,rfl,.inl rfl⟩
    . rw [QJ,QH (by omega),Ae (x:=(i:Int) + 1) (by omega) (by omega)]
      obtain ⟨r',q1,q2⟩:=Aeu hl hb m (i + 1) r (by omega) (by omega) (by omega)
      refine ⟨r',q1,q2.imp id fun ⟨q3,q4,q5⟩=>⟨q3,by omega,fun x hx=>?_⟩⟩
      rw [hd] at hx;rcases QT.1 hx with rfl | hx
      . exact h4
      . exact q5 x hx
  . rw [QH (by omega)]
    refine ⟨_,rfl,.inr ⟨hB.1,JR _,fun x hx=>?_⟩⟩
    rw [ZF (by omega)] at hx
    cases hx

theorem B6x {n:Nat} {l:List Rt} {B:Int} (hB:0 <= B /\ B <= 1048576) (hl:l.length <= 9223372036854775807) (hb:∀ x ∈ l,Bd x) (hn:1048577 <= n):∃ r,f30 n l B = some r /\ (r = -1 \/ (0 <= r /\ r <= B /\ l.length <= 1048576 /\ ∀ x ∈ l,Sm x)):=by
 unfold f30
 rw [Ae (x:=B - (l.length:Int)) (by omega) (by omega),QJ]
 by_cases h:(l.length:Int) <= B
 . rw [QH (by omega)]
   obtain ⟨r,h1,h2⟩:=Aeu (n:=n) (l:=l) (by omega) hb n 0 (B - l.length) (by omega) (by omega) (by omega)
   exact ⟨r,h1,h2.imp id fun ⟨q1,q2,q3⟩=>⟨q1,by omega,by omega,by simpa using q3⟩⟩
 . rw [QK (by omega)]
   exact ⟨_,rfl,.inl rfl⟩

theorem T9 {α:Type} {l z:List α} {i:Nat} {d:α} (hi:i < l.length) (hz:z.length = l.length - i):(l.take i ++ z).set i (l.getD i d) = l.take (i + 1) ++ z.drop 1:=by
 rw [YX _ _ (by rw [YO];omega),YO,JE (by omega),Nat.sub_self]
 cases z with
 | nil=>simp at hz;omega
 | cons y z=>rw [List.set_cons_zero,JA hi,QI,QN hi,ZP];rfl

theorem Aan {α:Type} {n:Nat} {l:List Int} (hl:l.length <= 1048576) {k0:List Int->Option α}:∀ (m i:Nat) (z:List Int),z.length = l.length - i->i <= l.length->l.length < i + m->Yn n m l (i:Int) (l.take i ++ z) k0 = k0 l
 | 0,i,z,hz,hi,hm=>by omega
 | m + 1,i,z,hz,hi,hm=>by
  rw [Auw];unfold A2q;dsimp only;rw [QJ];by_cases h:i < l.length
  . rw [QK (by omega)]
    simp only [QS]
    rw [A4 (by simp;try omega),A4 (by simp [hz];omega),A4 (by simp [hz];omega),T9 h hz,Ae (x:=(i:Int) + 1) (by omega) (by omega)]
    exact Aan hl m (i + 1) _ (by simp [hz];omega) (by omega) (by omega)
  . rw [QH (by omega)]
    obtain rfl:z = []:=XJ (by omega)
    rw [XV (by omega),XE]

theorem Al2 {n:Nat} {l:List Int} (hl:l.length <= 1048576) (hn:1048577 <= n):f139 n l = some l:=by
 unfold f139
 rw [A4 (by simp;try omega)]
 have:=Aan (n:=n) hl (k0:=fun a=>some a) n 0 (List.replicate l.length 0) (by simp) (by omega) (by omega)
 simpa using this

theorem B6a {n:Nat} {x:Rt} (h:Sm x) (hn:1048577 <= n):f83 n x = some x:=by
 unfold f83;rw [Al2 h.1 hn,A2,Al2 h.2 hn,A2]

theorem Sm.get {l:List Rt} (h:∀ x ∈ l,Sm x) (i:Nat):Sm (l.getD i Ny):=by
 rw [QI]
 cases e:l[i]? with
 | none=>exact ⟨by simp,by simp⟩
 | some x=>exact h x (QV e)

theorem Aeo {α:Type} {n:Nat} {l:List Rt} (hl:l.length <= 1048576) (hs:∀ x ∈ l,Sm x) (hn:1048577 <= n) {k0:List Rt->Option α}:∀ (m i:Nat) (z:List Rt),z.length = l.length - i->i <= l.length->l.length < i + m->A4h n m l (i:Int) (l.take i ++ z) k0 = k0 l
 | 0,i,z,hz,hi,hm=>by omega
 | m + 1,i,z,hz,hi,hm=>by
  rw [Ayj];unfold A7k;dsimp only;rw [QJ];by_cases h:i < l.length
  . rw [QK (by omega)]
    simp only [QS]
    rw [A4 (by simp;try omega),B6a (Sm.get hs i) hn,A2,A4 (by simp [hz];omega),A4 (by simp [hz];omega),T9 h hz,Ae (x:=(i:Int) + 1) (by omega) (by omega)]
    exact Aeo hl hs hn m (i + 1) _ (by simp [hz];omega) (by omega) (by omega)
  . rw [QH (by omega)]
    obtain rfl:z = []:=XJ (by omega)
    rw [XV (by omega),XE]

theorem As9 {n:Nat} {l:List Rt} (hl:l.length <= 1048576) (hs:∀ x ∈ l,Sm x) (hn:1048577 <= n):f32 n l = some l:=by
 unfold f32
 rw [A4 (by simp;try omega)]
 have:=Aeo (n:=n) hl hs hn (k0:=fun a=>some a) n 0 (List.replicate l.length Ny) (by simp) (by omega) (by omega)
 simpa using this

theorem Ae3 {α:Type} {n:Nat} {l:List Int} (hl:l.length <= 1048576) {k0:Bool->Option α} {k1:Unit->Option α}:∀ (m i:Nat),i <= l.length->l.length < i + m->A4b n m l l (i:Int) k0 k1 = k1 ()
 | 0,i,hi,hm=>by omega
 | m + 1,i,hi,hm=>by
  rw [Ay3];unfold A75;dsimp only;rw [QJ];by_cases h:i < l.length
  . rw [QK (by omega),A4 (by simp;try omega),A4 (by simp;try omega),XW,QW,Ae (x:=(i:Int) + 1) (by omega) (by omega)]
    exact Ae3 hl m (i + 1) (by omega) (by omega)
  . rw [QH (by omega)]

theorem Arp {n:Nat} {l:List Int} (hl:l.length <= 1048576) (hn:1048577 <= n):f84 n l l = some true:=by
 unfold f84;rw [XW,QW]
 exact Ae3 hl n 0 (by omega) (by omega)

theorem A4g {n:Nat} {x:Rt} (h:Sm x) (hn:1048577 <= n):f33 n x x = some true:=by
 unfold f33;rw [Arp h.1 hn,Arp h.2 hn];simp

theorem Aem {α:Type} {n:Nat} {l:List Rt} (hl:l.length <= 1048576) (hs:∀ x ∈ l,Sm x) (hn:1048577 <= n) {k0:Bool->Option α} {k1:Unit->Option α}:∀ (m i:Nat),i <= l.length->l.length < i + m->A4f n m l l (i:Int) k0 k1 = k1 ()
 | 0,i,hi,hm=>by omega
 | m + 1,i,hi,hm=>by
  rw [Ayg];unfold A7h;dsimp only;rw [QJ];by_cases h:i < l.length
  . rw [QK (by omega),A4 (by simp;try omega),A4 (by simp;try omega)]
    simp only [QS]
    rw [A4g (Sm.get hs i) hn,A2,Ae (x:=(i:Int) + 1) (by omega) (by omega)]
    exact Aem hl hs hn m (i + 1) (by omega) (by omega)
  . rw [QH (by omega)]

theorem As7 {n:Nat} {l:List Rt} (hl:l.length <= 1048576) (hs:∀ x ∈ l,Sm x) (hn:1048577 <= n):f35 n l l = some true:=by
 unfold f35;rw [XW,QW]
 exact Aem hl hs hn n 0 (by omega) (by omega)

def Hh (x:Int):Bool:=decide (0 <= x /\ x <= 9999)

def Tx (l:List Int):Bool:=decide (l.length <= 40) && l.all Hh && (l.isEmpty || decide (0 < l.getD (l.length - 1) 0))

theorem P9 {l:List Int} (h:Tx l = true):Cn l /\ l.length <= 40:=by
 unfold Tx at h;simp only [QE,QR,XL,QM,YF] at h;obtain ⟨⟨h1,h2⟩,h3⟩:=h;refine ⟨⟨fun x hx=>?_,fun hn=>?_⟩,h1⟩
 . have:=h2 x hx;unfold Hh at this;rw [QR] at this;omega
 . rcases h3 with h3 | h3
   . exact absurd h3 hn
   . omega

theorem Z0 {α:Type} {l:List α} {p:α->Bool} {i:Nat} (h:i < l.length) (d:α):(l.drop i).all p = (p (l.getD i d) && (l.drop (i + 1)).all p):=by
 rw [XT h,XZ,QI,QN h];rfl

theorem Q3 {n:Nat} {a lo hi:Int}:f174 n a lo hi = some (decide (lo <= a /\ a <= hi)):=by
 unfold f174;by_cases h:lo <= a <;> simp [h]

theorem Yg {n:Nat} {a lo hi:Int}:f184 n a lo hi = some (decide (lo <= a /\ a <= hi)):=by
 unfold f184;by_cases h:lo <= a <;> simp [h]

theorem Aa6 {α:Type} {n:Nat} {l:List Int} (hl:l.length <= 1048576) {k0:Bool->Option α} {k1:List Int->Option α}:∀ (m i:Nat),i <= l.length->l.length < i + m->Pr n m l (i:Int) k0 k1 = if (l.drop i).all Hh = true then k1 l else k0 false
 | 0,i,hi,hm=>by omega
 | m + 1,i,hi,hm=>by
  rw [Asy];unfold A1d;dsimp only;rw [QJ];by_cases h:i < l.length
  . rw [QK (by omega),A4 (by simp;try omega)]
    simp only [QS];rw [Q3,A2,Z0 h 0]
    cases hp:Hh (l.getD i 0) with
    | true =>
     unfold Hh at hp
     rw [hp,Ae (x:=(i:Int) + 1) (by omega) (by omega)]
     simp only [ZO,QW,XY]
     exact Aa6 hl m (i + 1) (by omega) (by omega)
    | false =>
     unfold Hh at hp;rw [hp];simp
  . rw [QH (by omega),ZF (by omega)]
    rfl

theorem Akg {n:Nat} {l:List Int} (hn:1048577 <= n):f216 n l = some (Tx l):=by
 unfold f216 Tx;rw [QJ];by_cases h:l.length <= 4096
 . rw [QH (by omega)]
   have:=Aa6 (n:=n) (l:=l) (by omega) (k0:=fun b=>some b) (k1:=fun a=>(
     bif (decide ((a.length:Int) <= 40)) then
      bif ((a.length:Int) == 0) then
       some true
      else
       gd (decide (0 <= (W ((a.length:Int) - 1))) && decide ((W ((a.length:Int) - 1)) < (a.length:Int))) (
        some (decide ((a.getD ((W ((a.length:Int) - 1)).toNat) 0) > 0)))
     else
      some false)) n 0 (by omega) (by omega)
   have this:Pr n n l 0 _ _ = _:=this;rw [this,XG]
   cases l.all Hh with
   | false=>simp
   | true =>
    rw [QK rfl,QJ];by_cases h40:l.length <= 40
    . rw [QK (by omega)]
      cases l with
      | nil=>rfl
      | cons x r =>
       rw [XI,QH (by simp;omega),Ae (x:=((x :: r).length:Int) - 1) (by omega) (by omega),A4 (by simp;omega),show (((x :: r).length:Int) - 1).toNat = (x :: r).length - 1 by omega]
       have h41:r.length <= 39:=by simpa using h40
       simp [h41]
    . rw [QH (by omega)]
      simp [h40]
 . rw [QK (by omega),ZB (by omega)]
   rfl

theorem U2 {n:Nat} {l:List Int} (hl:l.length <= 1048576):∀ (m i:Nat),i <= l.length->l.length < i + m->∃ r,Gv n m l (l.length:Int) (i:Int) (fun z=>some z) (fun (_:Unit)=>some (-1)) = some r /\ decide (r >= 0) = !(l.drop i).all Hh
 | 0,i,hi,hm=>by omega
 | m + 1,i,hi,hm=>by
  rw [Abd];unfold Ms;dsimp only;rw [QJ];by_cases h:i < l.length
  . rw [QK (by omega),A4 (by simp;try omega)]
    simp only [QS]
    have e:f239 n (l.getD i 0) = some (!Hh (l.getD i 0)):=by
     unfold f239 Hh;rw [QJ];generalize l.getD i 0 = x;by_cases h1:x < 0
     . rw [QK h1,ZB (by omega)];rfl
     . rw [QH h1];by_cases h2:x <= 9999
       . rw [ZB (by omega),ZL (by omega)];rfl
       . rw [ZL (by omega),ZB (by omega)];rfl
    rw [e,A2,Z0 h 0]
    cases hp:Hh (l.getD i 0) with
    | true =>
     rw [Ae (x:=(i:Int) + 1) (by omega) (by omega)]
     simp only [ZO,QW,XY]
     exact U2 hl m (i + 1) (by omega) (by omega)
    | false =>
     exact ⟨i,rfl,by simp⟩
  . rw [QH (by omega),ZF (by omega)]
    exact ⟨-1,rfl,rfl⟩

theorem Zo {n:Nat} {l:List Int} (hl:l.length <= 1048576) (hn:1048577 <= n):Mt n l () = some (!l.all Hh):=by
 unfold Mt A0r
 obtain ⟨r,h1,h2⟩:=U2 (n:=n) hl n 0 (by omega) (by omega)
 have h1:Gv n n l (l.length:Int) 0 _ _ = _:=h1;rw [h1,A2,h2,XG]

theorem Ak9 {n:Nat} {l:List Int} (hn:1048577 <= n):f231 n l = some (Tx l):=by
 unfold f231 Tx;rw [QJ];by_cases h:l.length <= 40
 . rw [QH (by omega),ZL h,XY,QJ]
   cases l with
   | nil=>rw [QH (by simp),Zo (by omega) hn];rfl
   | cons x r =>
    rw [QK (by simp),Ae (x:=((x :: r).length:Int) - 1) (by omega) (by omega),A4 (by simp;omega),show (((x :: r).length:Int) - 1).toNat = (x :: r).length - 1 by omega]
    rw [Zo (by omega) hn,A2,Bool.not_not,XI]
    by_cases hz:(x :: r).getD ((x :: r).length - 1) 0 = 0
    . rw [QK (by rw [hz];rfl),hz];simp
    . rw [QH (by rw [KW];exact hz)]
      cases ha:(x :: r).all Hh with
      | false=>rfl
      | true =>
       have:Hh ((x :: r).getD ((x :: r).length - 1) 0) = true:=by
        rw [QM] at ha;apply ha
        rw [QI,QN (by simp)]
        simp only [XP];exact JB _
       unfold Hh at this;rw [QR] at this
       rw [ZL (by omega)]
       simp
 . rw [QK (by omega),ZB h];rfl

theorem Amf {α:Type} (l:List α):((l.length:Int) == 0) = l.isEmpty:=by
 cases l with
 | nil=>rfl
 | cons x r=>rw [beq_eq_false_iff_ne.2 (by simp;omega)];rfl

def Hp (x:Rt):Bool:=Tx x.2.1 && Tx x.2.2 && !x.2.2.isEmpty && !(x.2.1.isEmpty && x.1) && decide (Nat.gcd (vl x.2.1).toNat (vl x.2.2).toNat = 1)

theorem In:dg 1 = [1]:=by rw [Em (by omega),show 1 / 10000 = 0 from rfl,Cd];rfl

theorem Aha {g:Nat}:(cm (g:Int) ((1:Nat):Int) == 0) = decide (g = 1):=by
 unfold cm;by_cases h:g = 1
 . subst h;rfl
 . rw [ZB h];by_cases h2:(g:Int) < (1:Nat)
   . rw [QK h2];rfl
   . rw [QH h2,QH (by omega)];rfl

theorem Ajw {a b:Nat} (ha:(dg a).length <= 40) (hb:(dg b).length <= 40):(dg (Nat.gcd a b)).length <= 40:=by
 rcases YZ a with rfl | h
 . rw [Qah];exact hb
 . exact ZN (B7 (Nat.gcd_le_left b h)) ha

theorem B3w {n:Nat} {x:Rt} (hn:1048577 <= n):f177 n x = some (Hp x):=by
 obtain ⟨s,a,b⟩:=x;unfold f177 Hp;dsimp only;simp only [Amf];rw [Akg hn,A2,Akg hn,A2]
 cases ha:Tx a with
 | false=>rfl
 | true =>
  cases hb:Tx b with
  | false=>rfl
  | true =>
   obtain ⟨ca,la⟩:=P9 ha;obtain ⟨cb,lb⟩:=P9 hb;have ea:=Hc ca;have eb:=Hc cb
   have hg:f217 n a b = some (dg (Nat.gcd (vl a).toNat (vl b).toNat)):=by
    conv=>lhs;rw [<- ea,<- eb]
    exact B09 (L:=40) (by omega) (by omega) (by rw [ea];exact la) (by rw [eb];exact lb)
   have hgl:=Ajw (a:=(vl a).toNat) (b:=(vl b).toNat) (by rw [ea];exact la) (by rw [eb];exact lb)
   rw [hg,A2,<- In,Abr (by omega) (by omega),A2,Aha]
   cases b <;> cases a <;> cases s <;> simp

theorem B2u {n:Nat} {x:Rt} (hn:1048577 <= n):f215 n x = some (Hp x):=by
 obtain ⟨s,a,b⟩:=x;unfold f215 Hp;dsimp only;rw [Ak9 hn,A2,Ak9 hn,A2]
 cases ha:Tx a with
 | false=>rfl
 | true =>
  cases hb:Tx b with
  | false=>rfl
  | true =>
   obtain ⟨ca,la⟩:=P9 ha;obtain ⟨cb,lb⟩:=P9 hb;have ea:=Hc ca;have eb:=Hc cb
   have hg:f226 n a b = some (dg (Nat.gcd (vl a).toNat (vl b).toNat)):=by
    conv=>lhs;rw [<- ea,<- eb]
    exact B0l (L:=40) (by omega) (by omega) (by rw [ea];exact la) (by rw [eb];exact lb)
   have hgl:=Ajw (a:=(vl a).toNat) (b:=(vl b).toNat) (by rw [ea];exact la) (by rw [eb];exact lb)
   rw [hg,A2,show f180 n = some [1] from rfl,A2,<- In,Abw (by omega),A2,Aha,show f195 n (s,a,b) = some ((a.length:Int) == 0) from rfl,A2,Amf,Amf]
   cases b <;> cases a <;> cases s <;> simp

theorem U6 {n:Nat} {l:List Rt} (hl:l.length <= 1048576) (hn:1048577 <= n):∀ (m i:Nat),i <= l.length->l.length < i + m->∃ r,H4 n m l (l.length:Int) (i:Int) (fun z=>some z) (fun (_:Unit)=>some (-1)) = some r /\ decide (r >= 0) = !(l.drop i).all Hp
 | 0,i,hi,hm=>by omega
 | m + 1,i,hi,hm=>by
  rw [Abg];unfold Ng;dsimp only;rw [QJ];by_cases h:i < l.length
  . rw [QK (by omega),A4 (by simp;try omega)]
    simp only [QS]
    have e:f214 n (l.getD i Ny) = some (!Hp (l.getD i Ny)):=by
     unfold f214;rw [B2u hn,A2]
    rw [e,A2,Z0 h Ny]
    cases hp:Hp (l.getD i Ny) with
    | true =>
     rw [Ae (x:=(i:Int) + 1) (by omega) (by omega)]
     simp only [ZO,QW,XY]
     exact U6 hl hn m (i + 1) (by omega) (by omega)
    | false=>exact ⟨i,rfl,by simp⟩
  . rw [QH (by omega),ZF (by omega)]
    exact ⟨-1,rfl,rfl⟩

theorem Aiw {n:Nat} {l:List Rt} (hl:l.length <= 1048576) (hn:1048577 <= n):Ss n l () = some (!l.all Hp):=by
 unfold Ss A2d
 obtain ⟨r,h1,h2⟩:=U6 (n:=n) hl hn n 0 (by omega) (by omega)
 have h1:H4 n n l (l.length:Int) 0 _ _ = _:=h1;rw [h1,A2,h2,XG]

theorem B42 {n:Nat} {l:List Rt} (hl:l.length <= 1048576) (hn:1048577 <= n):f173 n l = some (if l.all Hp = true then 0 else 1):=by
 unfold f173;rw [Aiw hl hn,A2]
 cases l.all Hp <;> rfl

def Ho (l:List Rt):Bool:=decide (1 <= l.length /\ l.length <= 4) && l.all Hp

theorem Aas {α:Type} {n:Nat} {l:List Rt} (hl:l.length <= 1048576) (hn:1048577 <= n) {k0:Bool->Option α} {k1:List Rt->Option α}:∀ (m i:Nat),i <= l.length->l.length < i + m->Q8 n m l (i:Int) k0 k1 = if (l.drop i).all Hp = true then k1 l else k0 false
 | 0,i,hi,hm=>by omega
 | m + 1,i,hi,hm=>by
  rw [Av7];unfold A30;dsimp only;rw [QJ];by_cases h:i < l.length
  . rw [QK (by omega),A4 (by simp;try omega)]
    simp only [QS];rw [B3w hn,A2,Z0 h Ny]
    cases hp:Hp (l.getD i Ny) with
    | true =>
     rw [Ae (x:=(i:Int) + 1) (by omega) (by omega)]
     simp only [ZO,QW,XY]
     exact Aas hl hn m (i + 1) (by omega) (by omega)
    | false=>simp
  . rw [QH (by omega),ZF (by omega)]
    rfl

theorem A8b {n:Nat} {l:List Rt} (hn:1048577 <= n):f119 n l = some (Ho l):=by
 unfold f119 Ho;rw [QJ];by_cases h:l.length <= 4096
 . rw [QH (by omega)]
   have h1:=Aas (n:=n) (l:=l) (by omega) hn (k0:=fun a=>some a) (k1:=fun b=>(
     ob (f174 n (b.length:Int) 1 4) fun c =>
     some c)) n 0 (by omega) (by omega)
   have h1:Q8 n n l 0 _ _ = _:=h1;rw [h1,XG,Q3,A2]
   have e:decide ((1:Int) <= (l.length:Int) /\ (l.length:Int) <= 4) = decide (1 <= l.length /\ l.length <= 4):=by
    apply decide_eq_decide.2;omega
   rw [e]
   cases l.all Hp <;> simp
 . rw [QK (by omega),ZB (by omega)];rfl

theorem Al7 {n:Nat} {l:List Rt} (hn:1048577 <= n):f115 n l = some (Ho l):=by
 unfold f115 Ho;rw [QJ,QJ];by_cases h:1 <= l.length /\ l.length <= 4
 . rw [QK (by omega),QK (by omega),B42 (by omega) hn,ZL h,A2]
   cases l.all Hp <;> rfl
 . rw [ZB h];split
   . rw [QH (by omega)];rfl
   . rfl

theorem Aap {n:Nat} {l:List Int} (hl:l.length <= 1048576):∀ (m i:Nat),i <= l.length->l.length < i + m->∃ c,Q7 n m 4096 l (l.length:Int) (i:Int) (fun z=>some z) (fun (_:Unit)=>some 0) = some c /\ ((c = 0 /\ ∀ x ∈ l.drop i,x <= 4096) \/ (c = 2 /\ ∃ x ∈ l,4096 < x))
 | 0,i,hi,hm=>by omega
 | m + 1,i,hi,hm=>by
  rw [Av0];unfold A2u;dsimp only;rw [QJ];by_cases h:i < l.length
  . rw [QK (by omega),A4 (by simp;try omega)]
    simp only [QS];rw [QJ];by_cases hx:4096 < l.getD i 0
    . rw [QK hx];refine ⟨2,rfl,.inr ⟨rfl,l.getD i 0,?_,hx⟩⟩;rw [QI,QN h];exact JB h
    . rw [QH hx,Ae (x:=(i:Int) + 1) (by omega) (by omega)]
      obtain ⟨c,h1,h2⟩:=Aap (n:=n) hl m (i + 1) (by omega) (by omega)
      refine ⟨c,h1,h2.imp (fun ⟨e,h3⟩=>⟨e,fun x hx'=>?_⟩) (fun h=>h)⟩;rw [XT h] at hx';rcases QT.1 hx' with rfl | hx'
      . rw [QI,QN h] at hx;exact Int.not_lt.1 hx
      . exact h3 x hx'
  . rw [QH (by omega)]
    refine ⟨0,rfl,.inl ⟨rfl,fun x hx=>?_⟩⟩
    rw [ZF (by omega)] at hx
    cases hx

theorem Ae9 {α:Type} {n:Nat} {L:List (List Rt)} (hl:L.length <= 1048576) {k0:List Int->Option α}:∀ (m i:Nat) (o:List Int),o.length <= i->i <= L.length->L.length < i + m->Vc n m L (L.length:Int) (i:Int) o k0 = k0 (o ++ (L.drop i).map fun v=>(v.length:Int))
 | 0,i,o,ho,hi,hm=>by omega
 | m + 1,i,o,ho,hi,hm=>by
  rw [Ay8];unfold A7a;dsimp only;rw [QJ];by_cases h:i < L.length
  . rw [QK (by omega),A4 (by simp;try omega),A4 (by simp only [QR];omega)]
    simp only [QS]
    rw [Ae (x:=(i:Int) + 1) (by omega) (by omega),show (i:Int) + 1 = ((i + 1:Nat):Int) from rfl,Ae9 hl m (i + 1) _ (by simp;omega) (by omega) (by omega),XT h,QI,QN h,ZP]
    rfl
  . rw [QH (by omega),ZF (by omega)]
    simp

theorem B6i {n:Nat} {L:List (List Rt)} (hl:L.length <= 1048576) (hn:1048577 <= n):∃ c,f65 n L = some c /\ ((c = 0 /\ ∀ v ∈ L,v.length <= 4096) \/ (c = 2 /\ ∃ v ∈ L,4096 < v.length)):=by
 unfold f65
 have h1:=Ae9 (n:=n) (L:=L) hl (k0:=fun a=>(
   ob (f121 n 4096 a) fun b =>
   some b)) n 0 [] (by simp) (by omega) (by omega)
 have h1:Vc n n L (L.length:Int) 0 [] _ = _:=h1;rw [h1,XG,KJ];unfold f121
 obtain ⟨c,h2,h3⟩:=Aap (n:=n) (l:=L.map fun v=>(v.length:Int)) (by simpa using hl) n 0 (by omega) (by simp;omega)
 have h2:Q7 n n 4096 _ _ 0 _ _ = _:=h2
 refine ⟨c,by rw [h2,A2],h3.imp (fun ⟨e,h⟩=>⟨e,fun v hv=>by have:=h _ (by rw [XG];exact ZS.2 ⟨v,hv,rfl⟩);omega⟩) fun ⟨e,x,hx,hx'⟩=>⟨e,?_⟩⟩
 obtain ⟨v,hv,rfl⟩:=ZS.1 hx
 exact ⟨v,hv,by omega⟩

def BdL (l:List Rt):Prop:=l.length <= 9223372036854775807 /\ ∀ x ∈ l,Bd x

def SmL (l:List Rt):Prop:=l.length <= 1048576 /\ ∀ x ∈ l,Sm x

theorem Ak6 {n:Nat} {l:List Rt} {B:Int} (hB:0 <= B /\ B <= 1048576) (hl:BdL l) (hn:1048577 <= n):∃ r,f30 n l B = some r /\ (r = -1 \/ ((0 <= r /\ r <= 1048576) /\ SmL l)):=by
 obtain ⟨r,h1,h2⟩:=B6x (n:=n) hB hl.1 hl.2 hn
 exact ⟨r,h1,h2.imp id fun ⟨q1,q2,q3,q4⟩=>⟨⟨q1,by omega⟩,q3,q4⟩⟩

abbrev Nod:=Int × Int × Int × Int

def Dt (op:Int):Int:=if op = 3 \/ op = 4 \/ op = 5 \/ op = 6 then 2 else if op = 7 \/ op = 8 then 1 else 0

theorem A8c {n:Nat} {x:Nod}:f109 n x = some (Dt x.1):=by
 unfold f109 Dt;simp only [XI,KW];grind

def Or (x:Nod):Prop:=if x.1 = 1 then 0 <= x.2.2.2 /\ x.2.2.2 <= 999999999 else if x.1 = 2 then 0 <= x.2.2.2 /\ x.2.2.2 <= 3 else if x.1 = 8 then 0 <= x.2.2.2 /\ x.2.2.2 <= 8 else x.2.2.2 = 0

instance (x:Nod):Decidable (Or x):=by unfold Or;infer_instance

theorem B2j {n:Nat} {x:Nod}:f236 n x = some (decide (Or x)):=by
 unfold f236 Or;simp only [XI,KW,Yg,A2];grind

theorem B2h {n:Nat} {h:Bool} {k i:Int} (hi:0 <= i /\ i < 1152921504606846976):f237 n h k i = some (decide (if h = true then 0 <= k /\ k <= i - 1 else k = 0)):=by
 unfold f237
 simp only [Yg,A2,Ae (x:=i - 1) (by omega) (by omega),XI]
 cases h <;> grind

def Do (x:Nod) (i:Int):Prop:=(1 <= x.1 /\ x.1 <= 8) /\ Or x /\ (if Dt x.1 > 0 then 0 <= x.2.1 /\ x.2.1 <= i - 1 else x.2.1 = 0) /\ (if Dt x.1 > 1 then 0 <= x.2.2.1 /\ x.2.2.1 <= i - 1 else x.2.2.1 = 0)

instance (x:Nod) (i:Int):Decidable (Do x i):=by unfold Do;infer_instance

theorem B2o {n:Nat} {x:Nod} {i:Int} (hi:0 <= i /\ i < 1152921504606846976):f229 n x i = some (decide (Do x i)):=by
 unfold f229 Do;simp only [Yg,B2j,A8c,A2,B2h hi,XI,QR];grind

theorem A85 {n:Nat} {a:Int}:f155 n a = some (decide (3 <= a /\ a <= 6)):=by
 unfold f155;simp [Q3]

theorem A83 {n:Nat} {a:Int}:f156 n a = some (decide (a = 7 \/ a = 8)):=by
 unfold f156;simp only [XI,KW];grind

def I8 (x:Nod) (i:Int):Prop:=(1 <= x.1 /\ x.1 <= 8) /\ (if 3 <= x.1 /\ x.1 <= 6 then (0 <= x.2.1 /\ x.2.1 <= i - 1) /\ (x.2.1 + 1 <= x.2.2.1 /\ x.2.2.1 <= i - 1) /\ x.2.2.2 = 0
 else if x.1 = 7 \/ x.1 = 8 then x.2.1 = i - 1 /\ 0 < i /\ x.2.2.1 = 0 /\ 0 <= x.2.2.2 /\ x.2.2.2 <= (if x.1 = 8 then 8 else 0)
 else if x.1 = 2 then x.2.1 = 0 /\ x.2.2.1 = 0 /\ 0 <= x.2.2.2 /\ x.2.2.2 <= 3 else x.2.1 = 0 /\ x.2.2.1 = 0 /\ 0 <= x.2.2.2 /\ x.2.2.2 <= 999999999)

instance (x:Nod) (i:Int):Decidable (I8 x i):=by unfold I8;infer_instance

theorem B40 {n:Nat} {x:Nod} {i:Int} (hi:0 <= i /\ i < 1152921504606846976):f175 n x i = some (decide (I8 x i)):=by
 unfold f175 I8
 simp only [Q3,A85,A83,Q5,A2,Ae (x:=i - 1) (by omega) (by omega),XI,QR,KW]
 by_cases h0:1 <= x.1 /\ x.1 <= 8
 . by_cases h1:3 <= x.1 /\ x.1 <= 6
   . by_cases h2:0 <= x.2.1 /\ x.2.1 <= i - 1
     . rw [Ae (x:=x.2.1 + 1) (by omega) (by omega)]
       simp only [h0,h1,h2];by_cases h3:x.2.1 + 1 <= x.2.2.1 /\ x.2.2.1 <= i - 1
       . simp [h3];rfl
       . simp [h3]
     . simp [h0,h1,h2]
   . by_cases h2:x.1 = 7 \/ x.1 = 8
     . have e : W (8 * (if (x.1 == 8) = true then 1 else 0)) = if x.1 = 8 then 8 else 0 := by
        by_cases h:x.1 = 8 <;> simp [h] <;> exact Ae (by omega) (by omega)
       simp only [KW] at e;simp only [h0,h1,h2,e];grind
     . grind
 . simp [h0]

def okP (bs:List Int) (x:Nod) (i:Int):Prop:=I8 x i /\ (3 <= x.1 /\ x.1 <= 6->x.2.2.1 = i - 1 /\ bs.getD x.2.2.1.toNat 0 = x.2.1 + 1)

instance (bs:List Int) (x:Nod) (i:Int):Decidable (okP bs x i):=by unfold okP;infer_instance

def nb (bs:List Int) (x:Nod) (i:Int):Int:=if 3 <= x.1 /\ x.1 <= 8 then bs.getD x.2.1.toNat 0 else i

def nd (ds:List Int) (x:Nod):Int:=if 3 <= x.1 /\ x.1 <= 6 then 1 + max (ds.getD x.2.1.toNat 0) (ds.getD x.2.2.1.toNat 0) else if x.1 = 7 \/ x.1 = 8 then 1 + ds.getD x.2.1.toNat 0 else 1

def Dh:List Int->List Int->List Nod->Option (List Int × List Int)
 | bs,ds,[]=>some (bs,ds)
 | bs,ds,x :: r=>if okP bs x bs.length then Dh (bs ++ [nb bs x bs.length]) (ds ++ [nd ds x]) r else none

structure P0 (bs ds:List Int):Prop where
 len:ds.length = bs.length
 small:bs.length <= 1048576
 b:∀ j,j < bs.length->0 <= bs.getD j 0 /\ bs.getD j 0 <= j
 d:∀ j,j < ds.length->1 <= ds.getD j 0 /\ ds.getD j 0 <= j + 1

theorem Mb {a:Int} {k:Nat} (h0:0 <= a) (h:a <= (k:Int) - 1):a.toNat < k:=by omega

theorem P0.step {bs ds:List Int} (h:P0 bs ds) {x:Nod} (hx:okP bs x bs.length) (hs:bs.length + 1 <= 1048576):P0 (bs ++ [nb bs x bs.length]) (ds ++ [nd ds x]):=by
 obtain ⟨h1,h2,h3,h4⟩:=h;have hn:=hx.1;unfold I8 at hn
 refine ⟨by simp [h1],by simpa using hs,fun j hj=>?_,fun j hj=>?_⟩
 . simp only [ZZ,QU,ZG] at hj;rcases XN j bs.length with hlt | hge
   . rw [C1 hlt];exact h3 j hlt
   . obtain rfl:j = bs.length:=by omega
     rw [Ch];unfold nb;split
     . have ha : 0 <= x.2.1 /\ x.2.1 <= (bs.length : Int) - 1 := by
        split at hn
        . omega
        . split at hn
          . omega
          . omega
       have:=h3 _ (Mb ha.1 ha.2);omega
     . omega
 . simp only [ZZ,QU,ZG] at hj;rcases XN j ds.length with hlt | hge
   . rw [C1 hlt];exact h4 j hlt
   . obtain rfl:j = ds.length:=by omega
     rw [Ch];unfold nd;split
     . rename_i h2';rw [QK h2'] at hn
       have ha:=h4 _ (by rw [h1];exact Mb (k:=bs.length) (a:=x.2.1) (by omega) (by omega))
       have hb:=h4 _ (by rw [h1];exact Mb (k:=bs.length) (a:=x.2.2.1) (by omega) (by omega))
       omega
     . rename_i h2';rw [QH h2'] at hn;split
       . rename_i h3';rw [QK h3'] at hn
         have ha:=h4 _ (by rw [h1];exact Mb (k:=bs.length) (a:=x.2.1) (by omega) (by omega))
         omega
       . omega

theorem Ax0 {bs ds:List Int} (h:P0 bs ds) {x:Nod}:okP bs x bs.length ↔ Do x bs.length /\ (Dt x.1 = 1->x.2.1 = (bs.length:Int) - 1) /\ (Dt x.1 = 2->x.2.2.1 = (bs.length:Int) - 1 /\ x.2.1 = bs.getD x.2.2.1.toNat 0 - 1):=by
 obtain ⟨h1,h2,h3,h4⟩:=h;unfold okP I8 Do Or Dt;by_cases h2:3 <= x.1 /\ x.1 <= 6
 . have e:x.1 = 3 \/ x.1 = 4 \/ x.1 = 5 \/ x.1 = 6:=by omega
   have e1:¬ x.1 = 1:=by omega
   have e2:¬ x.1 = 2:=by omega
   have e3:¬ x.1 = 8:=by omega
   simp only [QK e,QK h2,QH e1,QH e2,QH e3];constructor
   . rintro ⟨⟨ha,hb,hc,hd⟩,hf⟩
     obtain ⟨hf1,hf2⟩:=hf h2
     refine ⟨⟨ha,hd,by rw [QK (by decide)];omega,by rw [QK (by decide)];omega⟩,fun h=>absurd h (by decide),fun _=>by omega⟩
   . rintro ⟨⟨ha,hb,hc,hd⟩,_,hf⟩
     obtain ⟨hf1,hf2⟩:=hf trivial
     rw [QK (by decide)] at hc hd
     have:=h3 _ (Mb hd.1 hd.2)
     refine ⟨⟨ha,hc,?_,hb⟩,fun _=>⟨hf1,by omega⟩⟩
     omega
 . have e:¬ (x.1 = 3 \/ x.1 = 4 \/ x.1 = 5 \/ x.1 = 6):=by omega
   simp only [QH e,QH h2];by_cases h5:x.1 = 7 \/ x.1 = 8
   . have e1:¬ x.1 = 1:=by omega
     have e2:¬ x.1 = 2:=by omega
     simp only [QK h5,QH e1,QH e2];constructor
     . rintro ⟨⟨ha,hb,hc,hd,hn⟩,_⟩
       refine ⟨⟨ha,?_,by rw [QK (by decide)];omega,by rw [QH (by decide)];exact hd⟩,fun _=>hb,fun h=>absurd h (by decide)⟩
       split <;> (split at hn <;> omega)
     . rintro ⟨⟨ha,hb,hc,hd⟩,hf,_⟩
       rw [QK (by decide)] at hc
       rw [QH (by decide)] at hd
       have hf:=hf trivial
       refine ⟨⟨ha,hf,by omega,hd,?_⟩,fun h=>absurd h h2⟩
       split at hb <;> split <;> omega
   . have e3:¬ x.1 = 8:=by omega
     simp only [QH h5,QH e3];constructor
     . rintro ⟨⟨ha,hb⟩,_⟩
       refine ⟨⟨ha,?_,?_,?_⟩,fun h=>absurd h (by decide),fun h=>absurd h (by decide)⟩
       . have hb1:x.1 = 1 \/ x.1 = 2:=by omega
         rcases hb1 with h1' | h1'
         . rw [QH (by omega)] at hb;rw [QK h1'];omega
         . rw [QK h1'] at hb;rw [QH (by omega),QK h1'];omega
       . rw [QH (by decide)];split at hb <;> omega
       . rw [QH (by decide)];split at hb <;> omega
     . rintro ⟨⟨ha,hb,hc,hd⟩,_,_⟩
       rw [QH (by decide)] at hc hd
       refine ⟨⟨ha,?_⟩,fun h=>absurd h h2⟩
       have hb1:x.1 = 1 \/ x.1 = 2:=by omega
       rcases hb1 with h1' | h1'
       . rw [QK h1'] at hb;rw [QH (by omega)];omega
       . rw [QH (by omega),QK h1'] at hb;rw [QK h1'];omega

theorem Ai5 {α:Type} {n k:Nat} {e:List Nod} {bs ds:List Int} {f} {k0:Bool->Option α} {k1} (hi:P0 bs ds) (hk:bs.length = k) (hlt:k < e.length) (hN:e.length <= 1048576) :
  N6 n e (e.length:Int) (k:Int) bs ds f k0 k1 = if okP bs (e.getD k (0,0,0,0)) (bs.length:Nat) then f e (e.length:Int) ((k + 1:Nat):Int) (bs ++ [nb bs (e.getD k (0,0,0,0)) (bs.length:Nat)]) (ds ++ [nd ds (e.getD k (0,0,0,0))]) else k0 false:=by
 have hp:=Ax0 hi (x:=e.getD k (0,0,0,0));obtain ⟨h1,h2,h3,h4⟩:=hi;subst hk;unfold N6;generalize hx:e.getD bs.length (0,0,0,0) = x at hp ⊢
 rw [QJ,QK (by omega),A4 (by simp;omega)]
 simp only [QS,hx,B2o (x:=x) (i:=(bs.length:Int)) (by omega),A8c,A2,Ae (x:=(bs.length:Int) - 1) (by omega) (by omega),Ae (x:=(bs.length:Int) + 1) (by omega) (by omega)]
 by_cases hpl:Do x bs.length
 . simp only [hpl,decide_true,ZO,QW];have hpl':=hpl;unfold Do at hpl';by_cases k1':Dt x.1 = 1
   . have hop:x.1 = 7 \/ x.1 = 8:=by unfold Dt at k1';grind
     simp only [k1',beq_self_eq_true,ZM]
     rw [QK (by rw [k1'];decide)] at hpl'
     by_cases ha:x.2.1 = (bs.length:Int) - 1
     . have hok:okP bs x bs.length:=hp.2 ⟨hpl,fun _=>ha,fun h=>by omega⟩
       have hd:=h4 x.2.1.toNat (by omega)
       rw [QK hok]
       have e1:(x.2.1 != (bs.length:Int) - 1) = false:=by simp [ha]
       rw [e1,QW,A4 (by simp;omega),A4 (by simp;omega),A4 (by simp;omega),A4 (by simp;omega),A4 (by simp;omega),A4 (by simp;omega),Ae (by omega) (by omega)]
       have e2:nb bs x bs.length = bs.getD x.2.1.toNat 0:=by unfold nb;rw [QK (by omega)]
       have e3:nd ds x = ds.getD x.2.1.toNat 0 + 1:=by unfold nd;rw [QH (by omega),QK hop];omega
       rw [e2,e3];rfl
     . have hok:¬ okP bs x bs.length:=fun h=>ha ((hp.1 h).2.1 k1');rw [QH hok]
       have e1:(x.2.1 != (bs.length:Int) - 1) = true:=by simp [ha]
       rw [e1,ZM]
   . have e0:(Dt x.1 == 1) = false:=by simp [k1']
     rw [e0,QW];by_cases k2':Dt x.1 = 2
     . have hop:3 <= x.1 /\ x.1 <= 6:=by unfold Dt at k2';grind
       simp only [k2',beq_self_eq_true,ZM]
       rw [QK (by rw [k2'];decide),QK (by rw [k2'];decide)] at hpl'
       by_cases hb:x.2.2.1 = (bs.length:Int) - 1
       . have e1:(x.2.2.1 != (bs.length:Int) - 1) = false:=by simp [hb]
         have hbb:=h3 x.2.2.1.toNat (by omega)
         rw [e1,QW,A4 (by simp;omega),A4 (by simp;omega),Ae (x:=bs.getD x.2.2.1.toNat 0 - 1) (by omega) (by omega)]
         by_cases ha:x.2.1 = bs.getD x.2.2.1.toNat 0 - 1
         . have hok:okP bs x bs.length:=hp.2 ⟨hpl,fun h=>by omega,fun _=>⟨hb,ha⟩⟩
           have hd:=h4 x.2.1.toNat (by omega)
           have hd':=h4 x.2.2.1.toNat (by omega)
           rw [QK hok]
           have e1:(x.2.1 != bs.getD x.2.2.1.toNat 0 - 1) = false:=by rw [<- ha];simp
           rw [e1,QW,A4 (by simp;omega),A4 (by simp;omega),A4 (by simp;omega),A4 (by simp;omega),A4 (by simp;omega),A4 (by simp;omega),A4 (by simp;omega),A4 (by simp;omega),Ae (by omega) (by omega)]
           have e2:nb bs x bs.length = bs.getD x.2.1.toNat 0:=by unfold nb;rw [QK (by omega)]
           have e3:nd ds x = max (ds.getD x.2.1.toNat 0) (ds.getD x.2.2.1.toNat 0) + 1:=by unfold nd;rw [QK hop];omega
           rw [e2,e3];rfl
         . have hok:¬ okP bs x bs.length:=fun h=>ha ((hp.1 h).2.2 k2').2;rw [QH hok]
           have e1:(x.2.1 != bs.getD x.2.2.1.toNat 0 - 1) = true:=by simp only [bne_iff_ne,ne_eq];exact ha
           rw [e1,ZM]
       . have hok:¬ okP bs x bs.length:=fun h=>hb ((hp.1 h).2.2 k2').1;rw [QH hok]
         have e1:(x.2.2.1 != (bs.length:Int) - 1) = true:=by simp [hb]
         rw [e1,ZM]
     . have e0:(Dt x.1 == 2) = false:=by simp [k2']
       rw [e0,QW];have hok:okP bs x bs.length:=hp.2 ⟨hpl,fun h=>absurd h k1',fun h=>absurd h k2'⟩
       have hop:x.1 = 1 \/ x.1 = 2:=by unfold Dt at k1' k2';grind
       rw [QK hok,A4 (by simp;omega),A4 (by simp;omega)]
       have e2:nb bs x bs.length = bs.length:=by unfold nb;rw [QH (by omega)]
       have e3:nd ds x = 1:=by unfold nd;rw [QH (by omega),QH (by omega)]
       rw [e2,e3];rfl
 . have hok:¬ okP bs x bs.length:=fun h=>hpl (hp.1 h).1;rw [QH hok];simp only [hpl,decide_false,ZX,ZM]

theorem Qs:∀ (r:List Nod) (bs ds bs' ds':List Int),P0 bs ds->bs.length + r.length <= 1048576->Dh bs ds r = some (bs',ds')->P0 bs' ds' /\ bs'.length = bs.length + r.length /\ (∀ j,j < bs.length->bs'.getD j 0 = bs.getD j 0) /\ (∀ j,j < ds.length->ds'.getD j 0 = ds.getD j 0)
 | [],bs,ds,bs',ds',hi,_,h=>by
  simp only [Dh,QD,QG] at h;obtain ⟨rfl,rfl⟩:=h
  exact ⟨hi,by simp,fun _ _=>rfl,fun _ _=>rfl⟩
 | x :: r,bs,ds,bs',ds',hi,hl,h=>by
  simp only [Dh] at h;simp only [QU] at hl;split at h
  . rename_i hok
    obtain ⟨h1,h2,h3,h4⟩:=Qs r _ _ bs' ds' (hi.step hok (by omega)) (by simp;omega) h
    refine ⟨h1,by rw [h2];simp;omega,fun j hj=>?_,fun j hj=>?_⟩
    . rw [h3 j (by simp;omega),C1 hj]
    . rw [h4 j (by simp;omega),C1 hj]
  . cases h

theorem A3p {α:Type} {n:Nat} {e:List Nod} (hN:e.length <= 1048576) {k0:Bool->Option α} {k1:List Int->List Int->Option α}:∀ (r:List Nod) (m:Nat) (bs ds:List Int),P0 bs ds->e.drop bs.length = r->bs.length + r.length = e.length->r.length < m ->
  Y9 n m e (e.length:Int) (bs.length:Int) bs ds k0 k1 = match Dh bs ds r with
   | some (bs',ds')=>k1 bs' ds'
   | none=>k0 false
 | [],m + 1,bs,ds,hi,hd,hl,hm=>by
  rw [Aab];unfold N6;simp only [ZG] at hl
  rw [QJ,QH (by omega)]
  rfl
 | x :: r,m + 1,bs,ds,hi,hd,hl,hm=>by
  obtain ⟨hx,hlt,hd'⟩:=D8 (d:=(0,0,0,0)) hd;rw [Aab,Ai5 hi rfl hlt hN,hx];simp only [Dh];by_cases hok:okP bs x bs.length
  . rw [QK hok,QK hok]
    have ih:=A3p hN r m (bs ++ [nb bs x bs.length]) (ds ++ [nd ds x]) (hi.step hok (by omega)) (by simpa using hd') (by simp;simp at hl;omega) (by simp at hm;omega) (n:=n) (k0:=k0) (k1:=k1)
    simp only [ZZ,QU,ZG,XS] at ih;exact ih
  . rw [QH hok,QH hok]

theorem Amg:P0 [] []:=⟨rfl,by simp,fun j hj=>by simp at hj,fun j hj=>by simp at hj⟩

theorem B30 {n:Nat} {e:List Nod} (hN:e.length <= 1048576) (hn:1048577 <= n):f212 n e = some (match Dh [] [] e with
  | some (bs,ds)=>(bs,ds,true)
  | none=>([],[],false)):=by
 unfold f212
 have:=A3p (n:=n) hN (k0:=fun z=>some ([],[],z)) (k1:=fun a b=>some (a,b,true)) e n [] [] Amg rfl (by simp) (by omega)
 simp only [ZG] at this;refine Eq.trans this ?_
 cases Dh [] [] e with
 | none=>rfl
 | some p=>rfl

theorem Ade {α:Type} {n:Nat} {l:List Int} (hN:l.length <= 1048576) {k0:Int->Option α}:∀ (r:List Int) (m k:Nat) (a:Int),l.drop k = r->k + r.length = l.length->r.length < m->Y8 n m l a (k:Int) k0 = k0 (r.foldl max a)
 | [],m + 1,k,a,hd,hl,hm=>by
  rw [Aa9];unfold S6;simp only [ZG] at hl
  rw [QJ,QH (by omega)]
  rfl
 | x :: r,m + 1,k,a,hd,hl,hm=>by
  obtain ⟨hx,hlt,hd'⟩:=D8 (d:=0) hd;rw [Aa9];unfold S6
  rw [QJ,QK (by omega),A4 (by simp;omega),Ae (by omega) (by omega)]
  simp only [QS,hx];simp only [QU] at hl hm
  exact Ade hN r m (k + 1) (max a x) hd' (by omega) (by omega)

theorem B2y {n:Nat} {l:List Int} (hN:l.length <= 1048576) (hn:1048577 <= n) (h0:0 < l.length):∃ r,f213 n l = some r /\ (r <= 12 ↔ ∀ x ∈ l,x <= 12):=by
 cases l with
 | nil=>cases h0
 | cons x r =>
  refine ⟨r.foldl max x,?_,?_⟩
  . unfold f213
    rw [QJ,QH (by simp only [QU];omega),A4 (by simp)]
    have:=Ade (n:=n) (k0:=fun z=>some z) hN r n 1 x rfl (by simp only [QU];omega) (by simp at hN;omega)
    exact this
  . rw [Adq];simp

def Dc (e:List Nod):Prop:=(1 <= e.length /\ e.length <= 60) /\ ∃ bs ds,Dh [] [] e = some (bs,ds) /\ bs.getD (e.length - 1) 0 = 0 /\ ∀ x ∈ ds,x <= 12

open Classical in
theorem B44 {n:Nat} {e:List Nod} (hN:e.length <= 1048576) (hn:1048577 <= n):f168 n e = some (decide (Dc e)):=by
 unfold f168;rw [Yg,A2];by_cases h1:(1:Int) <= (e.length:Int) /\ (e.length:Int) <= 60
 . simp only [h1,and_self,decide_true,ZO,QW];rw [B30 hN hn,A2]
   cases hr:Dh [] [] e with
   | none =>
    have:¬ Dc e:=fun ⟨_,_,_,h,_⟩=>by rw [hr] at h;cases h
    simp [this]
   | some p =>
    obtain ⟨bs,ds⟩:=p
    obtain ⟨hi,hl,_,_⟩:=Qs e [] [] bs ds Amg (by simpa using hN) hr
    simp only [ZG,XS] at hl;simp only [ZM]
    rw [Ae (x:=(e.length:Int) - 1) (by omega) (by omega),A4 (by simp;omega)]
    have et:((e.length:Int) - 1).toNat = e.length - 1:=by omega
    rw [et];by_cases hb:bs.getD (e.length - 1) 0 = 0
    . obtain ⟨r,hr1,hr2⟩:=B2y (n:=n) (l:=ds) (by rw [hi.len];omega) hn (by rw [hi.len];omega)
      rw [hr1,A2]
      have e1:(bs.getD (e.length - 1) 0 == 0) = true:=by rw [hb];rfl
      rw [e1,ZM];congr 1;rw [decide_eq_decide,hr2];constructor
      . intro h;exact ⟨by omega,bs,ds,hr,hb,h⟩
      . rintro ⟨_,bs',ds',h,_,h'⟩
        rw [hr] at h;simp only [QD,QG] at h;obtain ⟨rfl,rfl⟩:=h;exact h'
    . have e1:(bs.getD (e.length - 1) 0 == 0) = false:=by simp only [beq_eq_false_iff_ne,ne_eq];exact hb
      have:¬ Dc e:=fun ⟨_,bs',ds',h,hb',_⟩=>by
       rw [hr] at h;simp only [QD,QG] at h;obtain ⟨rfl,rfl⟩:=h;exact hb hb'
      rw [e1,QW];simp [this]
 . have:¬ Dc e:=fun ⟨h,_⟩=>h1 (by omega)
   simp only [h1,decide_false,ZX,ZM,this]

theorem Aml {α:Type} {n:Nat} {e:List Nod} {bs:List Int} (hN:e.length <= 1048576)
  (hb:∀ j,j < bs.length->okP (bs.take j) (e.getD j (0,0,0,0)) j /\ bs.getD j 0 = nb (bs.take j) (e.getD j (0,0,0,0)) j) (hl:bs.length <= e.length) {k0:Int->Option α} :
  ∀ (j m:Nat),j < bs.length->j < m->Yk n m (j:Int) e (e.getD j (0,0,0,0)).1 (e.getD j (0,0,0,0)).2.1 (e.getD j (0,0,0,0)).2.2.1 (e.getD j (0,0,0,0)).2.2.2 k0 = k0 (bs.getD j 0):=by
 intro j
 induction j using Nat.strongRecOn with
 | ind j ih =>
  intro m hj hm
  obtain ⟨m,rfl⟩:∃ m',m = m' + 1:=⟨m - 1,by omega⟩
  obtain ⟨hok,hv⟩:=hb j hj;rw [Aug];unfold A2n;rw [hv];generalize hx:e.getD j (0,0,0,0) = x at hok hv ⊢;have hn:=hok.1;unfold I8 at hn;simp only [A85,A83,A2,QJ];by_cases h1:3 <= x.1 /\ x.1 <= 8
  . have ha : 0 <= x.2.1 /\ x.2.1 <= (j : Int) - 1 := by
     split at hn
     . omega
     . split at hn
       . omega
       . omega
    have hlt:x.2.1.toNat < j:=by omega
    have e1:nb (bs.take j) x j = bs.getD x.2.1.toNat 0:=by
     unfold nb;rw [QK h1];simp [QI,XD,hlt]
    have key:=ih x.2.1.toNat hlt m (by omega) (by omega)
    have et:((x.2.1.toNat:Nat):Int) = x.2.1:=by omega
    rw [et] at key
    rw [e1,A4 (by simp;omega)]
    by_cases h2:3 <= x.1 /\ x.1 <= 6
    . rw [QK h2];exact key
    . rw [QH h2,QK (by omega)];exact key
  . rw [QH (by omega),QH (by omega)]
    unfold nb;rw [QH h1]

def Ran (e:List Nod) (bs:List Int):Prop:=∀ j,j < bs.length->okP (bs.take j) (e.getD j (0,0,0,0)) j /\ bs.getD j 0 = nb (bs.take j) (e.getD j (0,0,0,0)) j

theorem Akv {n:Nat} {e:List Nod} {bs:List Int} (hN:e.length <= 1048576) (hn:1048577 <= n) (hb:Ran e bs) (hl:bs.length <= e.length) {j:Int} (hj:0 <= j /\ j < (bs.length:Int)):f176 n e j = some (bs.getD j.toNat 0):=by
 unfold f176
 rw [A4 (by simp;omega)]
 have:=Aml (n:=n) hN hb hl (k0:=fun z=>some z) j.toNat n (by omega) (by omega)
 rw [show ((j.toNat:Nat):Int) = j by omega] at this
 exact this

theorem Ran.step {e:List Nod} {bs:List Int} (h:Ran e bs) {x:Nod} (hx:e.getD bs.length (0,0,0,0) = x) (hok:okP bs x bs.length):Ran e (bs ++ [nb bs x bs.length]):=by
 intro j hj;simp only [ZZ,QU,ZG] at hj;rcases XN j bs.length with hlt | hge
 . rw [C1 hlt,List.take_append_of_le_length (by omega)]
   exact h j hlt
 . obtain rfl:j = bs.length:=by omega
   rw [Ch,List.take_left',hx]
   . exact ⟨hok,rfl⟩
   . rfl

theorem A94 {α:Type} {n:Nat} {e:List Nod} (hN:e.length <= 1048576) (hn:1048577 <= n) {k0:Bool->Option α} {k1:List Nod->Option α}:∀ (r:List Nod) (m:Nat) (bs ds:List Int),P0 bs ds->Ran e bs->(∀ x ∈ ds,x <= 12)->e.drop bs.length = r->bs.length + r.length = e.length->r.length < m ->
  Yq n m (bs.length:Int) e ds k0 k1 = match Dh bs ds r with
   | some (_,ds')=>if ∀ x ∈ ds',x <= 12 then k1 e else k0 false
   | none=>k0 false
 | [],m + 1,bs,ds,hi,hr,h12,hd,hl,hm=>by
  rw [Aav];unfold Nk;simp only [ZG] at hl
  rw [QJ,QH (by omega)]
  simp only [Dh];rw [QK h12]
 | x :: r,m + 1,bs,ds,hi,hr,h12,hd,hl,hm=>by
  obtain ⟨hx,hlt,hd'⟩:=D8 (d:=(0,0,0,0)) hd;have hi0:=hi;obtain ⟨h1,h2,h3,h4⟩:=hi;simp only [QU] at hl hm
  have round:∀ f:Int->List Nod->List Int->Option α,Nk n (bs.length:Int) e ds f k0 k1 = if okP bs x bs.length /\ nd ds x <= 12 then f ((bs.length + 1:Nat):Int) e (ds ++ [nd ds x]) else k0 false:=by
   intro f;unfold Nk
   rw [QJ,QK (by omega),A4 (by simp;omega)]
   simp only [QS,hx,B40 (x:=x) (i:=(bs.length:Int)) (by omega),A85,A83,A2,Ae (x:=(bs.length:Int) - 1) (by omega) (by omega),Ae (x:=(bs.length:Int) + 1) (by omega) (by omega)]
   by_cases hno:I8 x bs.length
   . simp only [hno,decide_true,ZO,QW];have hno':=hno;unfold I8 at hno';by_cases h5:3 <= x.1 /\ x.1 <= 6
     . have h6:¬ (x.1 = 7 \/ x.1 = 8):=by omega
       rw [QK h5] at hno';simp only [h5,h6,and_self,decide_true,ZM,decide_false,QW];by_cases hb:x.2.2.1 = (bs.length:Int) - 1
       . have e1:(x.2.2.1 != (bs.length:Int) - 1) = false:=by simp [hb]
         rw [e1,QW,Akv hN hn hr (by omega) (by omega),A2,Ae (x:=x.2.1 + 1) (by omega) (by omega)]
         by_cases ha:bs.getD x.2.2.1.toNat 0 = x.2.1 + 1
         . have hok:okP bs x bs.length:=⟨hno,fun _=>⟨hb,ha⟩⟩
           have e1:(bs.getD x.2.2.1.toNat 0 != x.2.1 + 1) = false:=by rw [ha];simp
           have da:=h4 x.2.1.toNat (by omega)
           have db:=h4 x.2.2.1.toNat (by omega)
           have e3:nd ds x = 1 + max (ds.getD x.2.1.toNat 0) (ds.getD x.2.2.1.toNat 0):=by unfold nd;rw [QK h5]
           rw [e1,QW,A4 (by simp;omega),A4 (by simp;omega),A4 (by simp;omega),A4 (by simp;omega),Ae (by omega) (by omega),<- e3,QJ]
           by_cases h12':nd ds x <= 12
           . rw [QH (by omega),A4 (by simp;omega),QK ⟨hok,h12'⟩]
             rfl
           . rw [QK (by omega),QH (fun h=>h12' h.2)]
         . have hok:¬ okP bs x bs.length:=fun h=>ha (h.2 h5).2
           have e1:(bs.getD x.2.2.1.toNat 0 != x.2.1 + 1) = true:=by simp only [bne_iff_ne,ne_eq];exact ha
           rw [e1,ZM,QH (fun h=>hok h.1)]
       . have hok:¬ okP bs x bs.length:=fun h=>hb (h.2 h5).1
         have e1:(x.2.2.1 != (bs.length:Int) - 1) = true:=by simp [hb]
         rw [e1,ZM,QH (fun h=>hok h.1)]
     . rw [QH h5] at hno';have hok:okP bs x bs.length:=⟨hno,fun h=>absurd h h5⟩;simp only [h5,decide_false,QW];by_cases h6:x.1 = 7 \/ x.1 = 8
       . rw [QK h6] at hno'
         have da:=h4 x.2.1.toNat (by omega)
         have e3:nd ds x = 1 + ds.getD x.2.1.toNat 0:=by unfold nd;rw [QH h5,QK h6]
         simp only [h6,decide_true,ZM]
         rw [A4 (by simp;omega),A4 (by simp;omega),Ae (by omega) (by omega),<- e3,QJ]
         by_cases h12':nd ds x <= 12
         . rw [QH (by omega),A4 (by simp;omega),QK ⟨hok,h12'⟩]
           rfl
         . rw [QK (by omega),QH (fun h=>h12' h.2)]
       . simp only [h6,decide_false,QW]
         have e3:nd ds x = 1:=by unfold nd;rw [QH h5,QH h6]
         rw [QJ,QH (by omega),A4 (by simp;omega),QK ⟨hok,by omega⟩,e3]
         rfl
   . have hok:¬ okP bs x bs.length:=fun h=>hno h.1;simp only [hno,decide_false,ZX,ZM];rw [QH (fun h=>hok h.1)]
  rw [Aav,round];simp only [Dh];by_cases hok:okP bs x bs.length
  . rw [QK hok];by_cases h12':nd ds x <= 12
    . rw [QK ⟨hok,h12'⟩]
      have ih:=A94 hN hn r m (bs ++ [nb bs x bs.length]) (ds ++ [nd ds x]) (hi0.step hok (by omega)) (hr.step hx hok) (fun y hy=>by
       rcases QF.1 hy with hy | hy
       . exact h12 y hy
       . simp only [QQ] at hy;subst hy;exact h12') (by simpa using hd') (by simp;omega) (by omega) (k0:=k0) (k1:=k1)
      simp only [ZZ,QU,ZG,XS] at ih;exact ih
    . rw [QH (fun h=>h12' h.2)]
      cases hrun:Dh (bs ++ [nb bs x bs.length]) (ds ++ [nd ds x]) r with
      | none=>rfl
      | some p =>
       obtain ⟨bs',ds'⟩:=p
       obtain ⟨q1,q2,_,q4⟩:=Qs r _ _ bs' ds' (hi0.step hok (by omega)) (by simp;omega) hrun
       have hlt':ds.length < ds'.length:=by rw [q1.len,q2];simp;omega
       have hv:=q4 ds.length (by simp)
       rw [Ch] at hv
       have hm':nd ds x ∈ ds':=by
        rw [<- hv];simp only [QI,QN hlt',XP];exact JB hlt'
       simp only;rw [QH (fun h=>h12' (h _ hm'))]
  . rw [QH hok,QH (fun h=>hok h.1)]

theorem Acw {e:List Nod}:∀ (r:List Nod) (bs ds bs' ds':List Int),Ran e bs->e.drop bs.length = r->Dh bs ds r = some (bs',ds')->Ran e bs'
 | [],bs,ds,bs',ds',hr,_,h=>by
  simp only [Dh,QD,QG] at h;obtain ⟨rfl,_⟩:=h;exact hr
 | x :: r,bs,ds,bs',ds',hr,hd,h=>by
  obtain ⟨hx,_,hd'⟩:=D8 (d:=(0,0,0,0)) hd;simp only [Dh] at h;split at h
  . rename_i hok
    exact Acw r _ _ bs' ds' (hr.step hx hok) (by simpa using hd') h
  . cases h

open Classical in
theorem B4o {n:Nat} {e:List Nod} (hN:e.length <= 1048576) (hn:1048577 <= n):f118 n e = some (decide (Dc e)):=by
 unfold f118;rw [Q3,A2];by_cases h1:(1:Int) <= (e.length:Int) /\ (e.length:Int) <= 60
 . simp only [h1,and_self,decide_true,ZO,QW]
   have:=A94 (n:=n) hN hn (k0:=fun z=>some z) (k1:=fun z=>ob (f176 n z (W ((z.length:Int) - 1))) fun r=>some (r == 0)) e n [] [] Amg (fun j hj=>by simp at hj) (by simp) rfl (by simp) (by omega)
   simp only [ZG] at this;refine Eq.trans this ?_
   cases hr:Dh [] [] e with
   | none =>
    have:¬ Dc e:=fun ⟨_,_,_,h,_⟩=>by rw [hr] at h;cases h
    simp [this]
   | some p =>
    obtain ⟨bs,ds⟩:=p
    obtain ⟨hi,hl,_,_⟩:=Qs e [] [] bs ds Amg (by simpa using hN) hr
    simp only [ZG,XS] at hl
    have hran:=Acw e [] [] bs ds (fun j hj=>by simp at hj) rfl hr
    simp only;by_cases h12:∀ x ∈ ds,x <= 12
    . rw [QK h12,Ae (by omega) (by omega),Akv hN hn hran (by omega) (by omega),A2]
      have et:((e.length:Int) - 1).toNat = e.length - 1:=by omega
      rw [et];by_cases hb:bs.getD (e.length - 1) 0 = 0
      . have:Dc e:=⟨by omega,bs,ds,hr,hb,h12⟩
        rw [hb];simp [this]
      . have : ¬ Dc e := fun ⟨_, bs', ds', h, hb', _⟩ => by
         rw [hr] at h;simp only [QD,QG] at h;obtain ⟨rfl,rfl⟩:=h;exact hb hb'
        have e1:(bs.getD (e.length - 1) 0 == 0) = false:=by simp only [beq_eq_false_iff_ne,ne_eq];exact hb
        rw [e1];simp [this]
    . have : ¬ Dc e := fun ⟨_, bs', ds', h, _, h'⟩ => by
       rw [hr] at h;simp only [QD,QG] at h;obtain ⟨rfl,rfl⟩:=h;exact h12 h'
      rw [QH h12];simp [this]
 . have:¬ Dc e:=fun ⟨h,_⟩=>h1 (by omega)
   simp only [h1,decide_false,ZX,ZM,this]

theorem Ab2 {α:Type} {n:Nat} {e:List Nod} (hN:e.length <= 1048576) {k0:List Nod->Option α}:∀ (r:List Nod) (m:Nat) (out:List Nod),e.drop out.length = r->out.length + r.length = e.length->r.length < m ->
  (∀ j,j < out.length->out.getD j (0,0,0,0) = e.getD j (0,0,0,0))->Vb n m e (out.length:Int) (out ++ List.replicate r.length (0,0,0,0)) k0 = k0 e
 | [],m + 1,out,hd,hl,hm,ho=>by
  rw [Ae6];unfold Xv;simp only [ZG] at hl
  rw [QJ,QH (by omega)]
  congr 1;simp only [ZG,List.replicate_zero,XE]
  apply List.ext_getElem (by omega)
  intro j h1 h2;have:=ho j h1;simpa [QI,h1,h2] using this
 | x :: r,m + 1,out,hd,hl,hm,ho=>by
  obtain ⟨hx,hlt,hd'⟩:=D8 (d:=(0,0,0,0)) hd;rw [Ae6];unfold Xv;simp only [QU] at hl hm
  rw [QJ,QK (by omega),A4 (by simp;omega),Ae (by omega) (by omega)]
  simp only [QS,hx];unfold f138
  rw [A2,A4 (by simp;omega),A4 (by simp)]
  have es:(out ++ List.replicate (x :: r).length (0,0,0,0)).set out.length x = (out ++ [x]) ++ List.replicate r.length (0,0,0,0):=by
   rw [YX _ _ (QY _)];simp [Qay]
  rw [es]
  have ih:=Ab2 hN r m (out ++ [x]) (by simpa using hd') (by simp;omega) (by omega) (fun j hj=>by
   simp only [ZZ,QU,ZG] at hj;rcases XN j out.length with h | h
   . rw [C1 h];exact ho j h
   . obtain rfl:j = out.length:=by omega
     rw [Ch,hx]) (n:=n) (k0:=k0)
  simp only [ZZ,QU,ZG,XS] at ih;exact ih

theorem B6v {n:Nat} {e:List Nod} (hN:e.length <= 1048576) (hn:1048577 <= n):f31 n e = some e:=by
 unfold f31 f82
 rw [A4 (by simp;omega)]
 have:=Ab2 (n:=n) hN (k0:=fun z=>some z) e n [] rfl (by simp) (by omega) (fun j hj=>by simp at hj)
 simp only [ZG,KJ] at this;rw [QS];have this:Vb n n e 0 (List.replicate e.length (0,0,0,0)) (fun z=>some z) = some e:=this;rw [this];rfl

theorem Auu {n:Nat} {x:Nod}:f140 n x x = some true:=by unfold f140;simp

theorem A97 {α:Type} {n:Nat} {e:List Nod} (hN:e.length <= 1048576) {k0:Bool->Option α} {k1:Unit->Option α}:∀ (m k:Nat),k <= e.length->e.length - k < m->Va n m e e (k:Int) k0 k1 = k1 ()
 | m + 1,k,hk,hm=>by
  rw [Ay0];unfold A72;by_cases h:k < e.length
  . rw [QJ,QK (by omega),A4 (by simp;omega),Ae (by omega) (by omega)]
    simp only [Auu,A2,ZO,QW]
    rw [A4 (by simp;omega)]
    exact A97 hN m (k + 1) (by omega) (by omega)
  . rw [QJ,QH (by omega)]

theorem B6t {n:Nat} {e:List Nod} (hN:e.length <= 1048576) (hn:1048577 <= n):f34 n e e = some true:=by
 unfold f34 f85;simp only [XW,QW]
 have:=A97 (n:=n) hN (k0:=fun z=>some z) (k1:=fun _=>some true) n 0 (by omega) (by omega)
 have this:Va n n e e 0 (fun z=>some z) (fun _=>some true) = some true:=this;rw [this];rfl

theorem B6z {n:Nat} {e:List Nod} (hlen:e.length <= 9223372036854775807):f29 n e 1048576 = some (if e.length <= 1048576 then 1048576 - (e.length:Int) else -1):=by
 unfold f29 f80
 rw [Ae (by omega) (by omega)]
 by_cases h:e.length <= 1048576
 . rw [QJ,QH (by omega),A2,QJ,QH (by omega),QK h]
 . rw [QJ,QK (by omega),A2,QH h]
   rfl

theorem B1h {x:Rt} (h:Hp x = true):∃ (s:Bool) (N D:Nat),x = (s,dg N,dg D) /\ (dg N).length <= 40 /\ (dg D).length <= 40 /\ 0 < D /\ (s = true->0 < N):=by
 obtain ⟨s,a,b⟩:=x;unfold Hp at h;simp only [QE,ZJ,QR] at h;obtain ⟨⟨⟨⟨ha,hb⟩,hb0⟩,hs⟩,_⟩:=h;obtain ⟨ca,la⟩:=P9 ha;obtain ⟨cb,lb⟩:=P9 hb
 have hb0:b ≠ []:=by rintro rfl;cases hb0
 refine ⟨s,(vl a).toNat,(vl b).toNat,by rw [Hc ca,Hc cb],by rw [Hc ca];exact la,by rw [Hc cb];exact lb,?_,fun e=>?_⟩
 . have:=cb.pos hb0;omega
 . have ha0:a ≠ []:=by rintro rfl;rw [e] at hs;cases hs
   have:=ca.pos ha0;omega

theorem A5q {m:Nat}:(((dg m).length:Int) == 0) = decide (m = 0):=by
 rw [Amf];by_cases h:m = 0
 . subst h;rw [Cd];rfl
 . rw [ZB h,Em h];rfl

theorem Ah3 {m:Nat}:decide (((dg m).length:Int) > 0) = decide (m ≠ 0):=by
 by_cases h:m = 0
 . subst h;rw [Cd];rfl
 . rw [Em h];simp [h]

def Hl (s:Int) (l:List Nod):Int:=l.foldl (fun s x=>if x.1 = 2 then max s (W (x.2.2.2 + 1)) else s) s

abbrev nd0:Nod:=(0,0,0,0)

theorem Ah2 {l:List Nod} {i:Nat} (h:i < l.length) (s:Int):Hl s (l.drop i) = Hl (if (l.getD i nd0).1 = 2 then max s (W ((l.getD i nd0).2.2.2 + 1)) else s) (l.drop (i + 1)):=by
 rw [XT h,QI,QN h];rfl

theorem Wj {α:Type} {n:Nat} {l:List Nod} (hl:l.length <= 1048576) {k0:Int->Option α}:∀ (m i:Nat) (s:Int),i <= l.length->l.length < i + m->Yp n m s (i:Int) l k0 = k0 (Hl s (l.drop i))
 | 0,i,s,hi,hm=>by omega
 | m + 1,i,s,hi,hm=>by
  rw [Av4];unfold A2x;dsimp only;rw [QJ];by_cases h:i < l.length
  . rw [QK (by omega),A4 (by simp;try omega),A4 (by simp;try omega),Ah2 h]
    simp only [QS]
    rw [XI,Ae (x:=(i:Int) + 1) (by omega) (by omega)]
    by_cases hv:(l.getD i nd0).1 = 2
    . rw [QK (by rw [KW];exact hv),QK hv]
      exact Wj hl m (i + 1) _ (by omega) (by omega)
    . rw [QH (by rw [KW];exact hv),QH hv]
      exact Wj hl m (i + 1) _ (by omega) (by omega)
  . rw [QH (by omega),ZF (by omega)]
    rfl

theorem Wk {α:Type} {n:Nat} {l:List Nod} (hl:l.length <= 1048576) {k0:Int->Option α}:∀ (m i:Nat) (s:Int),i <= l.length->l.length < i + m->Yr n m s l (l.length:Int) (i:Int) k0 = k0 (Hl s (l.drop i))
 | 0,i,s,hi,hm=>by omega
 | m + 1,i,s,hi,hm=>by
  rw [Avf];unfold A35;dsimp only;rw [QJ];by_cases h:i < l.length
  . rw [QK (by omega),A4 (by simp;try omega),Ah2 h]
    simp only [QS]
    rw [XI,Ae (x:=(i:Int) + 1) (by omega) (by omega)]
    by_cases hv:(l.getD i nd0).1 = 2
    . rw [QK (by rw [KW];exact hv),QK hv]
      exact Wk hl m (i + 1) _ (by omega) (by omega)
    . rw [QH (by rw [KW];exact hv),QH hv]
      exact Wk hl m (i + 1) _ (by omega) (by omega)
  . rw [QH (by omega),ZF (by omega)]
    rfl

theorem B4m {n:Nat} {l:List Nod} (hl:l.length <= 1048576) (hn:1048577 <= n):f120 n l = some (Hl 0 l):=by
 unfold f120
 have:=Wj (n:=n) hl (k0:=fun a=>some a) n 0 0 (by omega) (by omega)
 simpa using this

theorem B4t {n:Nat} {l:List Nod} (hl:l.length <= 1048576) (hn:1048577 <= n):f116 n l = some (Hl 0 l):=by
 unfold f116
 have:=Wk (n:=n) hl (k0:=fun a=>some a) n 0 0 (by omega) (by omega)
 simpa using this

theorem B2f {n:Nat} {e:List Nod} (hl:e.length <= 9223372036854775807):∃ r,f29 n e 1048576 = some r /\ (r = -1 \/ ((0 <= r /\ r <= 1048576) /\ e.length <= 1048576)):=by
 refine ⟨_,B6z hl,?_⟩;by_cases h:e.length <= 1048576
 . rw [QK h];exact .inr ⟨by omega,h⟩
 . rw [QH h];exact .inl rfl

theorem Awb {α:Type} {n:Nat} {a b:List Int} (ha:Cn a) (hb:Cn b) (hN:a.length <= 1099511627776) (hNb:b.length <= 1099511627776) {k0:List Int->Option α}:∀ (m i:Nat) (c:Int) (o:List Int),o.length = i->Lm o->0 <= c->c <= 1 ->
  vl o + 10000 ^ i * c = vl (a.take i) + vl (b.take i)->(i <= max a.length b.length \/ (i = max a.length b.length + 1 /\ c = 0 /\ o.getD (i - 1) 0 ≠ 0))->max a.length b.length + 2 <= i + m ->
  Lz n m a b c (i:Int) o k0 = k0 (dg (vl a + vl b).toNat)
 | 0,i,c,o,ho,hlo,hc0,hc1,hv,hq,hm=>by omega
 | m + 1,i,c,o,ho,hlo,hc0,hc1,hv,hq,hm=>by
  rw [Atg];unfold A1o;dsimp only
  have fin:a.length <= i->b.length <= i->c = 0->o = dg (vl a + vl b).toNat:=fun h1 h2 h3=>by
   rw [J0 a h1,J0 b h2,h3] at hv
   have hv':vl o = vl a + vl b:=by simpa using hv
   have:Cn o:=Cn.of_ge hlo fun hn=>by
    have hl:0 < o.length:=XC.2 hn;rcases hq with hq | ⟨hq1,_,hq3⟩
    . have hmx:i = max a.length b.length:=by omega
      rw [ho,hv'];rcases Nat.le_total a.length b.length with hab | hab
      . have h4:=hb.ge (XC.1 (by omega))
        have h5:=B0 ha.1
        rw [show i - 1 = b.length - 1 by omega];omega
      . have h4:=ha.ge (XC.1 (by omega))
        have h5:=B0 hb.1
        rw [show i - 1 = a.length - 1 by omega];omega
    . have h1:=B1 o (o.length - 1)
      rw [show o.length - 1 + 1 = o.length by omega,YG] at h1
      have h2:=B0 (hlo.take (o.length - 1));have h3:=hlo.get (o.length - 1);rw [<- ho] at hq3;have h4:=F4 (o.length - 1)
      have h5:(10000:Int) ^ (o.length - 1) * 1 <= 10000 ^ (o.length - 1) * o.getD (o.length - 1) 0:=XK (by omega) (by omega)
      omega
   rw [<- hv',Hc this]
  have go:∀ (y:Int),y = c + a.getD i 0 + b.getD i 0->(i < max a.length b.length \/ (i = max a.length b.length /\ 0 < c))->Lz n m a b (W (Int.tdiv y 10000)) (W ((i:Int) + 1)) (o ++ [Int.tmod y 10000]) k0 = k0 (dg (vl a + vl b).toNat):=by
   intro y hy hi;have h1:=ha.1.get i;have h2:=hb.1.get i
   rw [tdv (by omega),tmd (by omega),Ae (by omega) (by omega),Ae (by omega) (by omega)]
   have ta:=B1 a i;have tb:=B1 b i
   have hyy:y = 10000 * (y / 10000) + y % 10000:=by omega
   refine Awb (n:=n) ha hb hN hNb m (i + 1) _ _ (by simp [ho]) (hlo.app (Lm.cons (by omega) Lm.nil)) (by omega) (by omega) ?_ ?_ (by omega)
   . rw [P3,ho,ta,tb,Bn];generalize y / 10000 = q at *;generalize y % 10000 = r at *;generalize (10000:Int) ^ i = P at *;grind
   . rcases hi with hi | ⟨hi,hc⟩
     . exact .inl (by omega)
     . right
       have e1:a.getD i 0 = 0:=B8 (by omega)
       have e2:b.getD i 0 = 0:=B8 (by omega)
       have e3:y = 1:=by omega
       subst e3
       refine ⟨by omega,by rfl,?_⟩
       rw [Qab,<- ho,QI];simp
  have hcases:(i < a.length \/ i < b.length \/ 0 < c)->(i < max a.length b.length \/ (i = max a.length b.length /\ 0 < c)):=fun h=>by
   rcases h with h | h | h
   . exact .inl (by omega)
   . exact .inl (by omega)
   . rcases hq with hq | ⟨_,h0,_⟩
     . omega
     . omega
  have ho2:(decide ((o.length + 1) * 8 <= 140737488355328)) = true:=by
   rw [QR];rcases hq with hq | ⟨hq,_⟩ <;> omega
  have h1:=ha.1.get i;have h2:=hb.1.get i;by_cases hA:i < a.length
  . have dA:decide ((i:Int) < (a.length:Int)) = true:=by rw [QR];omega
    have dM:decide ((i:Int) < max (a.length:Int) (b.length:Int)) = true:=by rw [QR];omega
    simp only [dM,dA,ZM,QS]
    rw [A4 (by simp;try omega),Ae (x:=c + a.getD i 0) (by omega) (by omega)]
    by_cases hB:i < b.length
    . have dB:decide ((i:Int) < (b.length:Int)) = true:=by rw [QR];omega
      simp only [dB,ZM]
      rw [A4 (by simp;try omega),A4 ho2,Ae (x:=c + a.getD i 0 + b.getD i 0) (by omega) (by omega)]
      exact go _ rfl (hcases (.inl hA))
    . have dB:decide ((i:Int) < (b.length:Int)) = false:=by rw [ZU];omega
      simp only [dB,QW];rw [A4 ho2]
      exact go _ (by rw [B8 (l:=b) (by omega)];omega) (hcases (.inl hA))
  . have dA:decide ((i:Int) < (a.length:Int)) = false:=by rw [ZU];omega
    by_cases hB:i < b.length
    . have dB:decide ((i:Int) < (b.length:Int)) = true:=by rw [QR];omega
      have dM:decide ((i:Int) < max (a.length:Int) (b.length:Int)) = true:=by rw [QR];omega
      simp only [dM,dA,dB,ZM,QW,QS]
      rw [A4 (by simp;try omega),A4 ho2,Ae (x:=c + b.getD i 0) (by omega) (by omega)]
      exact go _ (by rw [B8 (l:=a) (by omega)];omega) (hcases (.inr (.inl hB)))
    . have dB:decide ((i:Int) < (b.length:Int)) = false:=by rw [ZU];omega
      have dM:decide ((i:Int) < max (a.length:Int) (b.length:Int)) = false:=by rw [ZU];omega
      simp only [dM,dA,dB,QW];rw [QJ];by_cases hc:0 < c
      . rw [QK (by omega),A4 ho2]
        exact go _ (by rw [B8 (l:=a) (by omega),B8 (l:=b) (by omega)];omega) (hcases (.inr (.inr hc)))
      . rw [QH (by omega),fin (by omega) (by omega) (by omega)]

theorem B9v {n a b:Nat} (h:(dg a).length <= 1099511627776) (h':(dg b).length <= 1099511627776) (hn:max (dg a).length (dg b).length + 2 <= n):f202 n (dg a) (dg b) = some (dg (a + b)):=by
 unfold f202
 have:=Awb (n:=n) (Gf a) (Gf b) h h' (k0:=fun c=>some c) n 0 0 [] rfl Lm.nil (by omega) (by omega) (by simp [vl]) (.inl (by omega)) (by omega)
 have this:Lz n n (dg a) (dg b) 0 0 [] _ = _:=this;rw [this,Bg,Bg];congr 1

theorem Aqy {o P c wi bi v' T y d r:Int} (h:o - P * (c + (bi + 10000 * v')) = T) (hy:y = wi - c - bi) (hd:y = r - 10000 * d):o + P * (r - wi) - 10000 * P * (d + v') = T:=by
 grind

theorem Aps {α:Type} {n:Nat} {b:List Int} (hb:Lm b) {N:Nat} (hN:N <= 1099511627776) {T:Int} {k0:List Int->Option α}:∀ (m i:Nat) (c:Int) (o:List Int),o.length = N->Lm o->0 <= c->c <= 1->i <= N ->
  vl o - 10000 ^ i * (c + vl (b.drop i)) = T->N + 1 <= i + m ->
  ∃ o' c',Hu n m b c (N:Int) (i:Int) o k0 = k0 o' /\ o'.length = N /\ Lm o' /\ 0 <= c' /\ c' <= 1 /\ vl o' - 10000 ^ N * (c' + vl (b.drop N)) = T
 | 0,i,c,o,ho,hlo,hc0,hc1,hi,hv,hm=>by omega
 | m + 1,i,c,o,ho,hlo,hc0,hc1,hi,hv,hm=>by
  rw [At9];unfold A1k;dsimp only;by_cases hA:i < N
  . rw [QJ,QK (by omega),A4 (by simp;try omega),A4 (by simp;try omega)]
    have h1:=hlo.get i;have h2:=hb.get i;simp only [QS]
    have go:∀ (d r:Int),d = (if o.getD i 0 - c - b.getD i 0 < 0 then 1 else 0)->r = o.getD i 0 - c - b.getD i 0 + 10000 * d->∃ o' c',Hu n m b d (N:Int) (W ((i:Int) + 1)) (o.set i r) k0 = k0 o' /\ o'.length = N /\ Lm o' /\ 0 <= c' /\ c' <= 1 /\ vl o' - 10000 ^ N * (c' + vl (b.drop N)) = T:=by
     intro d r hd hr
     have hd1:0 <= d /\ d <= 1 /\ 0 <= r /\ r < 10000:=by
      rw [hr,hd];split <;> omega
     rw [Ae (x:=(i:Int) + 1) (by omega) (by omega)]
     refine Aps (n:=n) hb hN m (i + 1) d _ (by simpa using ho) (hlo.set _ (by omega)) (by omega) (by omega) (by omega) ?_ (by omega)
     rw [K7 _ (by omega),Bn]
     refine Aqy (bi:=b.getD i 0) (y:=o.getD i 0 - c - b.getD i 0) ?_ rfl (by omega)
     rw [<- Zx];exact hv
    have go2 : ∀ y : Int, y = o.getD i 0 - c - b.getD i 0 -> ∃ o' c', (bif (decide (y < 0)) then
          gd (decide (0 <= (i:Int)) && decide ((i:Int) < (o.length:Int))) (
           gd (decide (i < o.length)) (
            Hu n m b 1 (N:Int) (W ((i:Int) + 1)) (o.set i (W (y + 10000))) k0))
      else
       gd (decide (0 <= (i:Int)) && decide ((i:Int) < (o.length:Int))) (
        gd (decide (i < o.length)) (
         Hu n m b 0 (N:Int) (W ((i:Int) + 1)) (o.set i y) k0))) = k0 o' /\ o'.length = N /\ Lm o' /\ 0 <= c' /\ c' <= 1 /\ vl o' - 10000 ^ N * (c' + vl (b.drop N)) = T:=by
     intro y hy;rw [QJ];by_cases hneg:y < 0
     . rw [QK hneg,A4 (by simp;try omega),A4 (by simp;try omega),Ae (x:=y + 10000) (by omega) (by omega)]
       exact go 1 _ (by rw [QK (by omega)]) (by omega)
     . rw [QH hneg,A4 (by simp;try omega),A4 (by simp;try omega)]
       exact go 0 _ (by rw [QH (by omega)]) (by omega)
    by_cases hB:i < b.length
    . have dB:decide ((i:Int) < (b.length:Int)) = true:=by rw [QR];omega
      simp only [dB,ZM]
      rw [A4 (by simp;try omega)]
      simp only [Ae (x:=o.getD i 0 - c) (by omega) (by omega),Ae (x:=o.getD i 0 - c - b.getD i 0) (by omega) (by omega)]
      exact go2 _ rfl
    . have dB:decide ((i:Int) < (b.length:Int)) = false:=by rw [ZU];omega
      simp only [dB,QW]
      simp only [Ae (x:=o.getD i 0 - c) (by omega) (by omega)]
      exact go2 _ (by rw [B8 (l:=b) (by omega)];omega)
  . rw [QJ,QH (by omega)]
    obtain rfl:i = N:=by omega
    exact ⟨o,c,rfl,ho,hlo,hc0,hc1,hv⟩

theorem B0k {n a b:Nat} (h:(dg a).length <= 1099511627000) (hn:(dg a).length + 1 <= n) (hab:b <= a) (ha:0 < a):f204 n (dg a) (dg b) = some (dg (a - b)):=by
 have hlab:=B7 hab;unfold f204
 rw [T1 n (by omega) (fun e=>by have:=Avr.1 e;omega),A2]
 obtain ⟨o,c,h1,h2,h3,h4,h5,h6⟩:=Aps (n:=n) (Dd b) (N:=(dg a).length) (by omega) (T:=(a:Int) - b) (k0:=fun d=>(
   ob (f225 n d) fun f =>
   some f)) n 0 0 (dg a) rfl (Dd a) (by omega) (by omega) (by omega) (by rw [XG,Bg,Bg,Int.pow_zero,Int.one_mul,Int.zero_add]) (by omega)
 have h1:Hu n n (dg b) 0 ((dg a).length:Int) 0 (dg a) _ = _:=h1
 rw [ZF (by omega)] at h6
 have h7:=H8 h3;rw [h2] at h7;have h8:=B0 h3
 have:c = 0:=by
  rcases Int.lt_or_eq_of_le h4 with h | h
  . have:c = 1:=by omega
    rw [this] at h6;simp only [vl,Qav,Int.mul_one] at h6;generalize (10000:Int) ^ (dg a).length = P at *;omega
  . exact h.symm
 rw [this] at h6;simp only [vl,Qav,Qac,Int.sub_zero] at h6
 rw [h1,Po h3 (by omega) (by omega),A2,h6,show ((a:Int) - (b:Int)).toNat = a - b by omega]

def rq (x:Rat):Rt:=(decide (x.num < 0),dg x.num.natAbs,dg x.den)

def mq (s:Bool) (a d:Nat):Rat:=mkRat (if s = true then -(a:Int) else a) d

def Sz (x:Rat) (L:Nat):Prop:=(dg x.num.natAbs).length <= L /\ (dg x.den).length <= L

theorem Uu (s:Bool) (a:Nat):(if s = true then -(a:Int) else a).natAbs = a:=by cases s <;> simp

theorem Aqo {s:Bool} {a d:Nat} (hd:0 < d):(mq s a d).num = if s = true then -((a / Nat.gcd a d:Nat):Int) else ((a / Nat.gcd a d:Nat):Int):=by
 unfold mq
 rw [Rat.num_mkRat,QH (by omega),Uu,Nat.gcd_comm d a]
 cases s with
 | false=>simp
 | true =>
  simp only [if_true]
  rw [Int.neg_ediv_of_dvd (by exact_mod_cast Nat.gcd_dvd_left a d)]
  simp

theorem Aqp {s:Bool} {a d:Nat} (hd:0 < d):(mq s a d).den = d / Nat.gcd a d:=by
 unfold mq
 rw [Rat.den_mkRat,QH (by omega),Uu,Nat.gcd_comm d a]

theorem Aly {s:Bool} {a d:Nat} (hd:0 < d):rq (mq s a d) = (s && decide (a / Nat.gcd a d ≠ 0),dg (a / Nat.gcd a d),dg (d / Nat.gcd a d)):=by
 unfold rq;rw [Aqo hd,Aqp hd];generalize a / Nat.gcd a d = q
 cases s with
 | false=>simp
 | true =>
  simp only [if_true,XY,Qba,KG];congr 1;apply decide_eq_decide.2;omega

theorem Z1 {s:Bool} {a d L:Nat} (hd:0 < d) (h1:(dg a).length <= L) (h2:(dg d).length <= L):Sz (mq s a d) L:=by
 unfold Sz;rw [Aqo hd,Aqp hd,Uu];exact ⟨ZN (B7 (Qaw _ _)) h1,ZN (B7 (Qaw _ _)) h2⟩

theorem Ul {n L x d:Nat} {s:Bool} (hd:0 < d) (hx:(dg x).length <= L) (hdl:(dg d).length <= L) (hL:L <= 1099511627000) (hn:28 * L + 10040 <= n):f186 n s (dg x) (dg d) = some (rq (mq s x d)):=by
 have hg:0 < Nat.gcd x d:=Nat.gcd_pos_of_pos_right x hd;have hgl:(dg (Nat.gcd x d)).length <= L:=ZN (B7 (Nat.gcd_le_right x hd)) hdl;rw [Aly hd];unfold f186
 rw [B09 hL hn hx hdl,A2,Alx hg hx hgl hL (by omega),A2,Alx hg hdl hgl hL (by omega),A2]
 dsimp only;rw [Ah3]
 cases s <;> rfl

theorem V4 {n L x d:Nat} {s:Bool} (hd:0 < d) (hx:(dg x).length <= L) (hdl:(dg d).length <= L) (hL:L <= 1099511627000) (hn:28 * L + 10040 <= n):f201 n s (dg x) (dg d) = some (rq (mq s x d)):=by
 have hg:0 < Nat.gcd x d:=Nat.gcd_pos_of_pos_right x hd;have hgl:(dg (Nat.gcd x d)).length <= L:=ZN (B7 (Nat.gcd_le_right x hd)) hdl;have hq1:(dg (x / Nat.gcd x d)).length <= L:=ZN (B7 (Qaw _ _)) hx;have hq2:(dg (d / Nat.gcd x d)).length <= L:=ZN (B7 (Qaw _ _)) hdl;rw [Aly hd];unfold f201;dsimp only
 rw [B0l hL hn hx hdl,A2,show f180 n = some [1] from rfl,A2,<- In,Abw (by omega),A2]
 have fin:∀ y z:List Int,y = dg (x / Nat.gcd x d)->z = dg (d / Nat.gcd x d)->(bif s then
   ob (f117 n y) fun a =>
   ob (f117 n z) fun b =>
   some ((decide ((y.length:Int) > 0)),a,b)
  else
   ob (f117 n y) fun c =>
   ob (f117 n z) fun f =>
   some (false,c,f)) = some (s && decide (x / Nat.gcd x d ≠ 0),dg (x / Nat.gcd x d),dg (d / Nat.gcd x d)):=by
  rintro y z rfl rfl
  rw [Jn n (by omega),A2,Jn n (by omega),A2,Ah3]
  cases s <;> rfl
 by_cases h1:Nat.gcd x d = 1
 . have e:(cm ((Nat.gcd x d:Nat):Int) ((1:Nat):Int) != 0) = false:=by rw [h1,K5 rfl];rfl
   rw [e,QW]
   exact fin _ _ (by rw [h1,Nat.div_one]) (by rw [h1,Nat.div_one])
 . have e : (cm ((Nat.gcd x d : Nat) : Int) ((1 : Nat) : Int) != 0) = true := by
    rw [bne,Aha,ZB h1];rfl
   rw [e,ZM,Ami hg hx hgl hL (by omega),A2,Ami hg hdl hgl hL (by omega),A2]
   exact fin _ _ rfl rfl

theorem Ka (x:Rat):x.num = if decide (x.num < 0) = true then -(x.num.natAbs:Int) else x.num.natAbs:=by
 by_cases h:x.num < 0
 . rw [ZL h,QK rfl];omega
 . rw [ZB h,QH (by decide)];omega

theorem A3j {x y:Rat} (h:decide (x.num < 0) = decide (y.num < 0)):x + y = mq (decide (x.num < 0)) (x.num.natAbs * y.den + y.num.natAbs * x.den) (x.den * y.den):=by
 rw [Rat.add_def'];unfold mq;congr 1;have hx:=Ka x;have hy:=Ka y;rw [<- h] at hy;generalize decide (x.num < 0) = s at *;generalize x.num.natAbs = p at *;generalize y.num.natAbs = q at *;rw [hx,hy]
 cases s with
 | true=>simp only [if_true,JH,YD];grind
 | false=>simp

theorem Qi {x y:Rat} (h:decide (x.num < 0) ≠ decide (y.num < 0)) (hle:y.num.natAbs * x.den <= x.num.natAbs * y.den):x + y = mq (decide (x.num < 0)) (x.num.natAbs * y.den - y.num.natAbs * x.den) (x.den * y.den):=by
 rw [Rat.add_def'];unfold mq;congr 1;have hx:=Ka x;have hy:=Ka y
 have h':decide (y.num < 0) = !decide (x.num < 0):=by
  generalize decide (x.num < 0) = s at h;generalize decide (y.num < 0) = t at h
  cases s <;> cases t <;> first | rfl | exact absurd rfl h
 rw [h'] at hy;generalize decide (x.num < 0) = s at *;generalize x.num.natAbs = p at *;generalize y.num.natAbs = q at *;rw [hx,hy,Int.natCast_sub hle]
 cases s with
 | true=>simp only [if_true,YD,ZO];simp;grind
 | false=>simp only [YD,ZX,if_true];simp;grind

theorem Aq0 {n L:Nat} {x y:Rat} (hx:Sz x L) (hy:Sz y L) (hL:2 * L + 1 <= 1099511627000) (hn:28 * (2 * L + 1) + 10040 <= n):f148 n (rq x) (rq y) = some (rq (x + y)):=by
 obtain ⟨x1,x2⟩:=hx;obtain ⟨y1,y2⟩:=hy;have l1:=B9 x.num.natAbs y.den;have l2:=B9 y.num.natAbs x.den;have l3:=B9 x.den y.den;have l4:=A6m (x.num.natAbs * y.den) (y.num.natAbs * x.den);have hd:0 < x.den * y.den:=KY (XQ x.den_nz) (XQ y.den_nz);unfold f148 rq;dsimp only
 rw [L9 (by omega) (by omega),A2,L9 (by omega) (by omega),A2,L9 (by omega) (by omega),A2,XI]
 by_cases hs:decide (x.num < 0) = decide (y.num < 0)
 . rw [QK (by rw [hs];simp),B9o (by omega) (by omega) (by omega),A2,Ul hd (L:=2 * L + 1) (by omega) (by omega) hL hn,A2,A3j hs];rfl
 . rw [QH (by simpa using hs),Abr (by omega) (by omega),A2,QJ]
   by_cases hle:y.num.natAbs * x.den <= x.num.natAbs * y.den
   . have l5:=B7 (Qax (x.num.natAbs * y.den) (y.num.natAbs * x.den))
     rw [QK (by
      rcases JG hle with h | h
      . rw [Iq (by omega)];omega
      . rw [K5 (by omega)];omega),Alw (by omega) (by omega) hle,A2,Ul hd (L:=2 * L + 1) (by omega) (by omega) hL hn,A2,Qi hs hle];rfl
   . have l5:=B7 (Qax (y.num.natAbs * x.den) (x.num.natAbs * y.den))
     rw [QH (by rw [Ip (by omega)];omega),Alw (by omega) (by omega) (by omega),A2,Ul hd (L:=2 * L + 1) (by omega) (by omega) hL hn,A2,Rat.add_comm,Qi (fun e=>hs e.symm) (by omega),KO y.den x.den];rfl

theorem B5u {n L:Nat} {x y:Rat} (hx:Sz x L) (hy:Sz y L) (hL:2 * L + 1 <= 1099511627000) (hn:28 * (2 * L + 1) + 10040 <= n):f161 n (rq x) (rq y) = some (rq (x + y)):=by
 obtain ⟨x1,x2⟩:=hx;obtain ⟨y1,y2⟩:=hy;have l1:=B9 x.num.natAbs y.den;have l2:=B9 y.num.natAbs x.den;have l3:=B9 x.den y.den;have l4:=A6m (x.num.natAbs * y.den) (y.num.natAbs * x.den);have hd:0 < x.den * y.den:=KY (XQ x.den_nz) (XQ y.den_nz);unfold f161 rq;dsimp only
 rw [Lf (by omega) (by omega),A2,Lf (by omega) (by omega),A2,Lf (by omega) (by omega),A2,XI]
 by_cases hs:decide (x.num < 0) = decide (y.num < 0)
 . rw [QK (by rw [hs];simp),B9v (by omega) (by omega) (by omega),A2,V4 hd (L:=2 * L + 1) (by omega) (by omega) hL hn,A2,A3j hs];rfl
 . rw [QH (by simpa using hs),Abw (by omega),A2,QJ]
   by_cases hle:y.num.natAbs * x.den <= x.num.natAbs * y.den
   . have l5:=B7 (Qax (x.num.natAbs * y.den) (y.num.natAbs * x.den))
     have hp:0 < x.num.natAbs * y.den:=by
      rcases YZ (x.num.natAbs * y.den) with h | h
      . exfalso;have hyd:=y.den_nz;have hxd:=x.den_nz
        have h2:y.num.natAbs * x.den = 0:=by omega
        have e1:x.num = 0:=by rcases Nat.mul_eq_zero.1 h with h | h <;> omega
        have e2:y.num = 0:=by rcases Nat.mul_eq_zero.1 h2 with h | h <;> omega
        exact hs (by rw [e1,e2])
      . exact h
     rw [QK (by
      rcases JG hle with h | h
      . rw [Iq (by omega)];omega
      . rw [K5 (by omega)];omega),B0k (by omega) (by omega) hle hp,A2,V4 hd (L:=2 * L + 1) (by omega) (by omega) hL hn,A2,Qi hs hle];rfl
   . have l5:=B7 (Qax (y.num.natAbs * x.den) (x.num.natAbs * y.den))
     rw [QH (by rw [Ip (by omega)];omega),B0k (by omega) (by omega) (by omega) (by omega),A2,V4 hd (L:=2 * L + 1) (by omega) (by omega) hL hn,A2,Rat.add_comm,Qi (fun e=>hs e.symm) (by omega),KO y.den x.den];rfl

theorem Adb (x y:Rat):x * y = mq (!(decide (x.num < 0) == decide (y.num < 0))) (x.num.natAbs * y.num.natAbs) (x.den * y.den):=by
 rw [Rat.mul_def'];unfold mq;congr 1;have hx:=Ka x;have hy:=Ka y;generalize decide (x.num < 0) = s at *;generalize decide (y.num < 0) = t at *;generalize x.num.natAbs = p at *;generalize y.num.natAbs = q at *;rw [hx,hy]
 cases s <;> cases t <;> simp [Int.neg_mul,Int.mul_neg]

theorem B1c {n L:Nat} {x y:Rat} (hx:Sz x L) (hy:Sz y L) (hL:2 * L + 1 <= 1099511627000) (hn:28 * (2 * L + 1) + 10040 <= n):f150 n (rq x) (rq y) = some (rq (x * y)):=by
 obtain ⟨x1,x2⟩:=hx;obtain ⟨y1,y2⟩:=hy;have l1:=B9 x.num.natAbs y.num.natAbs;have l3:=B9 x.den y.den;have hd:0 < x.den * y.den:=KY (XQ x.den_nz) (XQ y.den_nz);unfold f150 rq;dsimp only
 rw [L9 (by omega) (by omega),A2,L9 (by omega) (by omega),A2,Ul hd (L:=2 * L + 1) (by omega) (by omega) hL hn,A2,Adb];rfl

theorem B1w {n L:Nat} {x y:Rat} (hx:Sz x L) (hy:Sz y L) (hL:2 * L + 1 <= 1099511627000) (hn:28 * (2 * L + 1) + 10040 <= n):f178 n (rq x) (rq y) = some (rq (x * y)):=by
 obtain ⟨x1,x2⟩:=hx;obtain ⟨y1,y2⟩:=hy;have l1:=B9 x.num.natAbs y.num.natAbs;have l3:=B9 x.den y.den;have hd:0 < x.den * y.den:=KY (XQ x.den_nz) (XQ y.den_nz);unfold f178 rq;dsimp only
 rw [Lf (by omega) (by omega),A2,Lf (by omega) (by omega),A2,V4 hd (L:=2 * L + 1) (by omega) (by omega) hL hn,A2,Adb];rfl

theorem Ah0 {x y:Rat} (hy:y ≠ 0):x / y = mq (!(decide (x.num < 0) == decide (y.num < 0))) (x.num.natAbs * y.den) (x.den * y.num.natAbs):=by
 have hyn:y.num ≠ 0:=fun e=>hy (KR.1 e)
 have key:mq (!(decide (x.num < 0) == decide (y.num < 0))) (x.num.natAbs * y.den) (x.den * y.num.natAbs) * y = x:=by
  conv=>lhs;rhs;rw [<- Rat.mkRat_self y]
  conv=>rhs;rw [<- Rat.mkRat_self x]
  unfold mq
  rw [Rat.mkRat_mul_mkRat,Rat.mkRat_eq_iff (Nat.mul_ne_zero (Nat.mul_ne_zero x.den_nz (by omega)) y.den_nz) x.den_nz]
  have hx:=Ka x;have hy:=Ka y;generalize decide (x.num < 0) = s at *;generalize decide (y.num < 0) = t at *;generalize x.num.natAbs = p at *;generalize y.num.natAbs = q at *;rw [hx,hy];simp only [YD]
  cases s <;> cases t <;> simp <;> grind
 conv=>lhs;rw [<- key]
 exact Rat.mul_div_cancel hy

theorem B5g {n L:Nat} {x y:Rat} (hx:Sz x L) (hy:Sz y L) (hy0:y ≠ 0) (hL:2 * L + 1 <= 1099511627000) (hn:28 * (2 * L + 1) + 10040 <= n):f151 n (rq x) (rq y) = some (rq (x / y)):=by
 obtain ⟨x1,x2⟩:=hx;obtain ⟨y1,y2⟩:=hy;have l1:=B9 x.num.natAbs y.den;have l3:=B9 x.den y.num.natAbs;have hyn:y.num ≠ 0:=fun e=>hy0 (KR.1 e)
 have hd:0 < x.den * y.num.natAbs:=KY (XQ x.den_nz) (by omega)
 unfold f151 rq;dsimp only
 rw [L9 (by omega) (by omega),A2,L9 (by omega) (by omega),A2,Ul hd (L:=2 * L + 1) (by omega) (by omega) hL hn,A2,Ah0 hy0];rfl

theorem B5v {n L:Nat} {x y:Rat} (hx:Sz x L) (hy:Sz y L) (hy0:y ≠ 0) (hL:2 * L + 1 <= 1099511627000) (hn:28 * (2 * L + 1) + 10040 <= n):f223 n (rq x) (rq y) = some (rq (x / y)):=by
 obtain ⟨x1,x2⟩:=hx;obtain ⟨y1,y2⟩:=hy;have l1:=B9 x.num.natAbs y.den;have l3:=B9 x.den y.num.natAbs;have hyn:y.num ≠ 0:=fun e=>hy0 (KR.1 e)
 have hd:0 < x.den * y.num.natAbs:=KY (XQ x.den_nz) (by omega)
 unfold f223 rq;dsimp only
 rw [Lf (by omega) (by omega),A2,Lf (by omega) (by omega),A2,V4 hd (L:=2 * L + 1) (by omega) (by omega) hL hn,A2,Ah0 hy0];rfl

theorem Qr {n:Nat} {x:Rat}:f152 n (rq x) = some (rq (-x)):=by
 unfold f152 rq;dsimp only;rw [Rat.neg_num,Rat.neg_den,Qba,Ah3];by_cases h:x.num < 0
 . rw [ZL h,ZB (show ¬ -x.num < 0 by omega)];rfl
 . rw [ZB h]
   have:decide (x.num.natAbs ≠ 0) = decide (-x.num < 0):=decide_eq_decide.2 (by omega)
   rw [this];rfl

theorem B9u {n L:Nat} {x:Rat} (hx:Sz x L) (hL:L <= 1099511627000):f206 n (rq x) = some (rq (-x)):=by
 obtain ⟨x1,x2⟩:=hx;unfold f206 rq;dsimp only
 rw [Rat.neg_num,Rat.neg_den,Qba,show f195 n (decide (x.num < 0),dg x.num.natAbs,dg x.den) = some (((dg x.num.natAbs).length:Int) == 0) from rfl,A2,Jn n (by omega),A2,Jn n (by omega),A2,A5q]
 by_cases h:x.num < 0
 . rw [ZL h,ZB (show ¬ -x.num < 0 by omega)];rfl
 . rw [ZB h]
   have:(!decide (x.num.natAbs = 0)) = decide (-x.num < 0):=by
    by_cases h2:x.num.natAbs = 0
    . rw [ZL h2,ZB (by omega)];rfl
    . rw [ZB h2,ZL (by omega)];rfl
   rw [this];rfl

theorem H6 {x:Rat} {L:Nat} (h:Sz x L):Sz (-x) L:=by
 unfold Sz at *;rw [Rat.neg_num,Rat.neg_den,Qba];exact h

theorem Sz.mono {x:Rat} {L M:Nat} (h:Sz x L) (hLM:L <= M):Sz x M:=⟨ZN h.1 hLM,ZN h.2 hLM⟩

theorem B5h {n L:Nat} {x y:Rat} (hx:Sz x L) (hy:Sz y L) (hL:2 * L + 1 <= 1099511627000) (hn:28 * (2 * L + 1) + 10040 <= n):f149 n (rq x) (rq y) = some (rq (x - y)):=by
 unfold f149;rw [Qr,A2,Aq0 hx (H6 hy) hL hn,A2,Rat.sub_eq_add_neg]

theorem B5f {n:Nat} {x:Rat}:f145 n (rq x) = some (decide (x = 0)):=by
 unfold f145 rq;dsimp only;rw [A5q];congr 1
 exact decide_eq_decide.2 ⟨fun h=>KR.1 (by omega),fun h=>by rw [h];rfl⟩

theorem B5t {n:Nat} {x:Rat}:f195 n (rq x) = some (decide (x = 0)):=by
 unfold f195 rq;dsimp only;rw [A5q];congr 1
 exact decide_eq_decide.2 ⟨fun h=>KR.1 (by omega),fun h=>by rw [h];rfl⟩

theorem B5k {r:Rt} (h:Hp r = true):∃ x:Rat,r = rq x /\ Sz x 40:=by
 obtain ⟨s,N,D,rfl,h1,h2,h3,h4⟩:=B1h h
 have hg:Nat.gcd N D = 1:=by
  unfold Hp at h;simp only [QE,QR,Bg,QS] at h;exact h.2
 refine ⟨mq s N D,?_,Z1 h3 h1 h2⟩;rw [Aly h3,hg,Nat.div_one,Nat.div_one];congr 1
 cases s with
 | false=>rfl
 | true=>have:=h4 rfl;rw [ZL (by omega)];rfl

theorem B4j {n:Nat} {a:Int} (h:-1000000000 <= a /\ a <= 1000000000) (hn:1048577 <= n):f127 n a = some (decide (a < 0),dg a.natAbs,dg 1):=by
 unfold f127;rw [QJ,In];by_cases hc:a < 0
 . rw [QK hc,Ae (x:=0 - a) (by omega) (by omega),show 0 - a = (a.natAbs:Int) by omega,Q0 (by omega) (by omega),A2,ZL hc]
 . rw [QH hc]
   conv=>lhs;rw [show a = (a.natAbs:Int) by omega]
   rw [Q0 (by omega) (by omega),A2,ZB hc]

def vq (x:List Rat):List Rt:=x.map rq

def Sv (x:List Rat) (L:Nat):Prop:=∀ a ∈ x,Sz a L

def C7 (acc:Rat):List Rat->List Rat->Rat
 | a :: x,b :: y=>C7 (acc + a * b) x y
 | _,_=>acc

def C6 (x:Rat):Bool:=decide ((dg x.num.natAbs).length <= 40) && decide ((dg x.den).length <= 40)

theorem R1 {x:Rat}:C6 x = true ↔ Sz x 40:=by unfold C6 Sz;simp

@[simp] theorem Gp (x:List Rat):(vq x).length = x.length:=by simp [vq]

theorem P2 {x:List Rat} {i:Nat} (h:i < x.length):(vq x).getD i (false,[],[]) = rq (x.getD i 0):=by
 unfold vq;rw [QI,QL,QI,QN h];rfl

theorem B9p {x:List Rat} {i:Nat} (h:i < x.length):x.drop i = x.getD i 0 :: x.drop (i + 1):=by
 rw [XT h,QI,QN h];rfl

theorem Sv.get {x:List Rat} {L i:Nat} (hs:Sv x L) (h:i < x.length):Sz (x.getD i 0) L:=by
 refine hs _ ?_;rw [QI,QN h];exact JB h

theorem Sv.mono {x:List Rat} {L M:Nat} (h:Sv x L) (hLM:L <= M):Sv x M:=fun a ha=>(h a ha).mono hLM

theorem Jv:Sz 0 1:=by
 refine ⟨?_,?_⟩
 . rw [show (0:Rat).num = 0 from rfl,show (0:Int).natAbs = 0 from rfl,Cd];simp
 . rw [show (0:Rat).den = 1 from rfl,In];simp

theorem U8 {n:Nat} {x:List Rat} (hl:x.length <= 1048576):∀ (m i:Nat),i <= x.length->x.length < i + m ->
  ∃ r,H5 n m (vq x) (x.length:Int) (i:Int) (fun a=>some a) (fun (_:Unit)=>some (-1)) = some r /\ decide (r >= 0) = !(x.drop i).all C6
 | 0,i,hi,hm=>by omega
 | m + 1,i,hi,hm=>by
  rw [Abj];unfold Nj;dsimp only;rw [QJ];by_cases h:i < x.length
  . rw [QK (by omega),A4 (by simp;omega),QS,P2 h,B9p h,XZ]
    have e:f130 n (rq (x.getD i 0)) = some (!C6 (x.getD i 0)):=by
     unfold f130 f131 rq C6;dsimp only;generalize (dg (x.getD i 0).num.natAbs).length = p;generalize (dg (x.getD i 0).den).length = q;rw [QJ];by_cases c:p <= 40
     . rw [QK (by omega),A2,ZL c,XY];congr 2;exact decide_eq_decide.2 (by omega)
     . rw [QH (by omega),A2,ZB c,Bool.false_and]
    rw [e,A2]
    cases hf:C6 (x.getD i 0) with
    | false=>exact ⟨(i:Int),by simp,by simp⟩
    | true =>
     rw [ZO,QW,Ae (x:=(i:Int) + 1) (by omega) (by omega),XY]
     exact U8 hl m (i + 1) (by omega) (by omega)
  . rw [QH (by omega),ZF (by omega)]
    exact ⟨-1,rfl,rfl⟩

theorem B5w {n:Nat} {x:List Rat} (hl:x.length <= 1048576) (hn:1048577 <= n):f76 n (vq x) = some (if x.all C6 = true then (vq x,0) else ([],7)):=by
 unfold f76 A2r A2e
 obtain ⟨r,h1,h2⟩:=U8 (n:=n) hl n 0 (by omega) (by omega)
 have h1:H5 n n (vq x) (x.length:Int) 0 _ _ = _:=h1;rw [Gp,h1,A2,A2,h2,XG]
 cases x.all C6 <;> rfl

def Bq (x:Rat) (N D:Nat):Prop:=x.num.natAbs <= N /\ x.den <= D

def Bv (x:List Rat) (N D:Nat):Prop:=∀ a ∈ x,Bq a N D

theorem Bq.mono {x:Rat} {N D N' D':Nat} (h:Bq x N D) (h1:N <= N') (h2:D <= D'):Bq x N' D':=⟨ZN h.1 h1,ZN h.2 h2⟩

theorem Bv.get {x:List Rat} {N D i:Nat} (hs:Bv x N D) (h:i < x.length):Bq (x.getD i 0) N D:=by
 refine hs _ ?_;rw [QI,QN h];exact JB h

theorem Aq3 (c:Nat):rq (c:Rat) = (false,dg c,dg 1):=by
 unfold rq
 rw [Rat.num_natCast,Rat.den_natCast,KG,ZB (by omega)]

theorem Ahm {c:Nat} (hc:c <= 100):Sz (c:Rat) 1:=by
 unfold Sz;rw [Rat.num_natCast,Rat.den_natCast,KG]
 exact ⟨Kd (by omega),Kd (by omega)⟩

theorem A5f {α:Type} {n:Nat} {l:List Int} (hl:l.length <= 1048576) {k0:List Int->Option α}:∀ (m i:Nat) (z:List Int),z.length = l.length - i->i <= l.length->l.length < i + m->Sr n m l (i:Int) (l.take i ++ z) k0 = k0 l
 | 0,i,z,hz,hi,hm=>by omega
 | m + 1,i,z,hz,hi,hm=>by
  rw [Aos];unfold Wh;dsimp only;rw [QJ];by_cases h:i < l.length
  . rw [QK (by omega)]
    simp only [QS]
    rw [A4 (by simp;try omega),A4 (by simp [hz];omega),A4 (by simp [hz];omega),T9 h hz,Ae (x:=(i:Int) + 1) (by omega) (by omega)]
    exact A5f hl m (i + 1) _ (by simp [hz];omega) (by omega) (by omega)
  . rw [QH (by omega)]
    obtain rfl:z = []:=XJ (by omega)
    rw [XV (by omega),XE]

theorem Agm {n:Nat} {l:List Int} (hl:l.length <= 1048576) (hn:1048577 <= n):A5h n l = some l:=by
 unfold A5h
 rw [A4 (by simp;try omega)]
 have:=A5f (n:=n) hl (k0:=fun a=>some a) n 0 (List.replicate l.length 0) (by simp) (by omega) (by omega)
 simpa using this

theorem B23 {n:Nat} {x:Rt} (h:Sm x) (hn:1048577 <= n):Amz n x = some x:=by
 unfold Amz;rw [Agm h.1 hn,A2,Agm h.2 hn,A2]

theorem A9x {α:Type} {n:Nat} {l:List Rt} (hl:l.length <= 1048576) (hs:∀ x ∈ l,Sm x) (hn:1048577 <= n) {k0:List Rt->Option α}:∀ (m i:Nat) (z:List Rt),z.length = l.length - i->i <= l.length->l.length < i + m->Y1 n m l (i:Int) (l.take i ++ z) k0 = k0 l
 | 0,i,z,hz,hi,hm=>by omega
 | m + 1,i,z,hz,hi,hm=>by
  rw [Asb];unfold A0q;dsimp only;rw [QJ];by_cases h:i < l.length
  . rw [QK (by omega)]
    simp only [QS]
    rw [A4 (by simp;try omega),B23 (Sm.get hs i) hn,A2,A4 (by simp [hz];omega),A4 (by simp [hz];omega),T9 h hz,Ae (x:=(i:Int) + 1) (by omega) (by omega)]
    exact A9x hl hs hn m (i + 1) _ (by simp [hz];omega) (by omega) (by omega)
  . rw [QH (by omega)]
    obtain rfl:z = []:=XJ (by omega)
    rw [XV (by omega),XE]

theorem Ak5 {n:Nat} {l:List Rt} (h:SmL l) (hn:1048577 <= n):Aes n l = some l:=by
 obtain ⟨hl,hs⟩:=h;unfold Aes
 rw [A4 (by simp;try omega)]
 have:=A9x (n:=n) hl hs hn (k0:=fun a=>some a) n 0 (List.replicate l.length Ny) (by simp) (by omega) (by omega)
 simpa using this

def Cg (k:Int):Nat->List Int
 | 0=>[]
 | m + 1=>k :: Cg (k + 1) m

theorem C8:∀ (m:Nat) (k:Int),(Cg k m).length = m
 | 0,_=>rfl
 | m + 1,k=>by simp [Cg,C8 m]

theorem Adc {β:Type} {pre r:List β} {x y:β}:(pre ++ x :: r).set pre.length y = pre ++ y :: r:=by
 rw [YX _ _ (QY _)];simp

theorem Ax4 {β:Type} {pre r:List β} {x d:β}:(pre ++ x :: r).getD pre.length d = x:=by simp

theorem Ax5 {β:Type} {pre r:List β} {x:β}:pre ++ x :: r = (pre ++ [x]) ++ r:=by simp

theorem A9n {α:Type} {n:Nat} {k0:Int->List Int->Option α}:∀ (r:List Int) (m:Nat) (pre:List Int) (k:Int),pre.length + r.length <= 1048576->r.length < m->0 <= k->k + r.length <= 1152921504606846976 ->
  Xq n m k (pre.length:Int) (pre ++ r) k0 = k0 (k + r.length) (pre ++ Cg k r.length)
 | [],m + 1,pre,k,hN,hm,h0,hk=>by
  rw [A9p];unfold R5
  rw [QJ,QH (by simp)]
  simp [Cg]
 | x :: r,m + 1,pre,k,hN,hm,h0,hk=>by
  simp only [QU] at hN hm hk;rw [A9p];unfold R5
  rw [QJ,QK (by simp;omega),A4 (by simp;omega),A4 (by simp)]
  rw [QS,Adc,Ae (x:=k + 1) (by omega) (by omega),Ae (x:=(pre.length:Int) + 1) (by omega) (by omega),Ax5]
  have ih:=A9n (n:=n) (k0:=k0) r m (pre ++ [k]) (k + 1) (by simp;omega) (by omega) (by omega) (by omega)
  simp only [ZZ,QU,ZG,XS] at ih;refine Eq.trans ih ?_
  rw [show k + 1 + (r.length:Int) = k + ((r.length + 1:Nat):Int) by omega]
  simp [Cg]

theorem Ly {n:Nat} {l:List Int} {k:Int} (hl:l.length <= 1048576) (h0:0 <= k) (hk:k + l.length <= 1152921504606846976) (hn:1048577 <= n):R6 n l k = some (k + l.length,Cg k l.length):=by
 unfold R6
 exact A9n (n:=n) (k0:=fun z w=>some (z,w)) l n [] k (by simpa using hl) (by omega) h0 hk

theorem Xn {n:Nat} {k:Int} (hn:1048577 <= n):f87 n [] k = some k:=by
 unfold f87
 obtain ⟨m,rfl⟩:∃ m,n = m + 1:=⟨n - 1,by omega⟩
 rw [Axy];rfl

theorem Adv {α:Type} {n:Nat} {l:List Int} {k0 k1:Int->Option α} (hl:l.length <= 1048576):∀ (q m i:Nat) (k:Int),l.drop i = Cg k q->i + q = l.length->q < m->0 <= k->k + q <= 1152921504606846976 ->
  A4a n m l k (i:Int) k0 k1 = k1 (k + q)
 | 0,m + 1,i,k,hd,hq,hm,h0,hk=>by
  rw [Adx];unfold Xm
  rw [QJ,QH (by omega)]
  simp
 | q + 1,m + 1,i,k,hd,hq,hm,h0,hk=>by
  have hlt:i < l.length:=by omega
  have hx:l.drop i = l.getD i 0 :: l.drop (i + 1):=by
   rw [XT hlt];simp [QI,hlt]
  rw [hx] at hd;simp only [Cg,List.cons.injEq] at hd;rw [Adx];unfold Xm
  rw [QJ,QK (by omega),A4 (by simp;omega),QS,hd.1,XW,QW,Ae (x:=k + 1) (by omega) (by omega),Ae (x:=(i:Int) + 1) (by omega) (by omega)]
  refine (Adv (n:=n) (k0:=k0) (k1:=k1) hl q m (i + 1) (k + 1) hd.2 (by omega) (by omega) (by omega) (by omega)).trans ?_
  rw [show k + 1 + (q:Int) = k + ((q + 1:Nat):Int) by omega]

theorem Arh {n m:Nat} {k:Int} (hm:m <= 1048576) (h0:0 <= k) (hk:k + m <= 1152921504606846976) (hn:1048577 <= n):f88 n (Cg k m) k = some (k + m):=by
 unfold f88
 exact Adv (n:=n) (k0:=fun z=>some z) (k1:=fun z=>some z) (by rw [C8];exact hm) m n 0 k rfl (by rw [C8];omega) (by omega) h0 hk

theorem B29 {n:Nat} {x:Rt} {k:Int} (hx:Sm x) (h0:0 <= k) (hk:k <= 1125899906842624) (hn:1048577 <= n) :
  Vf n x k = some (k + x.2.1.length + x.2.2.length,Cg k x.2.1.length,Cg (k + x.2.1.length) x.2.2.length):=by
 obtain ⟨h1,h2⟩:=hx;unfold Vf
 rw [Ly h1 h0 (by omega) hn,A2,A4 (by simp [C8]),Ly h2 (by omega) (by dsimp only;omega) hn,A2,A4 (by simp [C8])]

theorem Ve {n a b:Nat} {s:Bool} {k:Int} (h1:a <= 1048576) (h2:b <= 1048576) (h0:0 <= k) (hk:k <= 1125899906842624) (hn:1048577 <= n):f39 n (s,Cg k a,Cg (k + a) b) k = some (k + a + b):=by
 unfold f39;dsimp only
 rw [Arh h1 h0 (by omega) hn,A2,QJ,QH (by omega),Arh h2 (by omega) (by omega) hn,A2,QJ,QH (by omega)]

def Co:List Rt->Int->Int × List Rt
 | [],k=>(k,[])
 | x :: r,k=>((Co r (k + 1 + x.2.1.length + x.2.2.length)).1,(Int.tmod k 3 == 0,Cg (k + 1) x.2.1.length,Cg (k + 1 + x.2.1.length) x.2.2.length) :: (Co r (k + 1 + x.2.1.length + x.2.2.length)).2)

theorem Hr:∀ (l:List Rt) (k:Int),(Co l k).2.length = l.length
 | [],_=>rfl
 | x :: r,k=>by simp [Co,Hr r]

theorem A06:∀ (l:List Rt) (k:Int),k <= (Co l k).1
 | [],k=>JR k
 | x :: r,k=>by have:=A06 r (k + 1 + x.2.1.length + x.2.2.length);simp only [Co];omega

theorem A9u {α:Type} {n:Nat} (hn:1048577 <= n) {k0:Int->List Rt->Option α}:∀ (r:List Rt) (m:Nat) (pre:List Rt) (k:Int),pre.length + r.length <= 1048576->(∀ x ∈ r,Sm x)->r.length < m->0 <= k->k + 2097153 * r.length <= 1125899906842624 ->
  Pk n m k (pre.length:Int) (pre ++ r) k0 = k0 (Co r k).1 (pre ++ (Co r k).2)
 | [],m + 1,pre,k,hN,hs,hm,h0,hk=>by
  rw [A9w];unfold Rd
  rw [QJ,QH (by simp)]
  simp [Co]
 | x :: r,m + 1,pre,k,hN,hs,hm,h0,hk=>by
  simp only [QU] at hN hm hk;obtain ⟨s,a,b⟩:=x
  obtain ⟨h1,h2⟩:=hs (s,a,b) (by simp)
  simp only at h1 h2
  have ih:=fun y=>A9u hn (k0:=k0) r m (pre ++ [y]) (k + 1 + a.length + b.length) (by simp;omega) (fun z hz=>hs z (by simp [hz])) (by omega) (by omega) (by omega)
  simp only [ZZ,QU,ZG,XS] at ih
  have ea:∀ (l:List Int) (k:Int),l.isEmpty = true->Cg k l.length = l /\ k + (l.length:Int) = k:=fun l k h=>by
   rw [YF] at h;subst h;simp [Cg]
  rw [A9w];unfold Rd
  rw [QJ,QK (by simp;omega),A4 (by simp;omega),A4 (by simp)]
  simp only [QS,Adc,Ax4]
  have g1:∀ (y:Rt),(decide (0 <= (pre.length:Int)) && decide ((pre.length:Int) < ((pre ++ y :: r).length:Int))) = true:=fun y=>by simp;omega
  have g2:∀ (y:Rt),decide (pre.length < (pre ++ y :: r).length) = true:=fun y=>by simp
  have w1:W (k + 1) = k + 1:=Ae (by omega) (by omega)
  have w2:W ((pre.length:Int) + 1) = ((pre.length + 1:Nat):Int):=by rw [Ae (by omega) (by omega)];rfl
  simp only [g1,g2,Fb,w1,w2,Xn hn,Ly h1 (show 0 <= k + 1 by omega) (show k + 1 + (a.length:Int) <= 1152921504606846976 by omega) hn,A2,C8,XA,XM]
  have fin:∀ (y:Rt),Pk n m (k + 1 + a.length + b.length) ((pre.length + 1:Nat):Int) (pre ++ y :: r) k0 = k0 (Co r (k + 1 + a.length + b.length)).1 (pre ++ y :: (Co r (k + 1 + a.length + b.length)).2):=fun y=>by
   have:=ih y;rw [ZP,ZP] at this;exact this
  show _ = k0 (Co r (k + 1 + a.length + b.length)).1 (pre ++ (Int.tmod k 3 == 0,Cg (k + 1) a.length,Cg (k + 1 + a.length) b.length) :: (Co r (k + 1 + a.length + b.length)).2);rw [<- fin]
  cases ha:a.isEmpty with
  | true =>
   obtain rfl:=YF.1 ha
   cases hb:b.isEmpty with
   | true =>
    obtain rfl:=YF.1 hb;simp [Cg]
   | false =>
    simp only [ZM,QW,Ly h2 (show 0 <= k + 1 by omega) (show k + 1 + (b.length:Int) <= 1152921504606846976 by omega) hn,A2,C8,XA,XM,Fb]
    simp [Cg]
  | false =>
   cases hb:b.isEmpty with
   | true =>
    obtain rfl:=YF.1 hb;simp [Cg]
   | false =>
    simp only [QW,Ly h2 (show 0 <= k + 1 + (a.length:Int) by omega) (show k + 1 + (a.length:Int) + (b.length:Int) <= 1152921504606846976 by omega) hn,A2,C8,XA,XM,Fb]

theorem Ak3 {n:Nat} {l:List Rt} {k:Int} (hl:SmL l) (h0:0 <= k) (hk:k <= 8796093022208) (hn:1048577 <= n):Je n l k = some (Co l k):=by
 unfold Je
 refine (A9u (n:=n) hn (k0:=fun z w=>some (z,w)) l n [] k (by simpa using hl.1) hl.2 (by have:=hl.1;omega) h0 ?_).trans ?_
 . have:=hl.1;omega
 . simp

theorem Ave {n:Nat} {l:List Int} (h:l.length <= 17592186044416):A5l n l = some (if l = [] then .inr () else .inl l):=by
 unfold A5l Ik
 cases l with
 | nil=>rfl
 | cons a r =>
  simp only [List.isEmpty_cons,QW,ZX,Fb]
  rw [A4 (by simp at h ⊢;omega)]
  rfl

def L6:List Int->Int
 | []=>0
 | c :: r=>if c = 0 then L6 r else c

theorem Aeb {n:Nat} {l:List Int} (hl:l.length <= 1048576):∀ (m i:Nat),i <= l.length->l.length < i + m->A4c n m l (l.length:Int) (i:Int) (fun z=>some z) (fun (_:Unit)=>some 0) = some (L6 (l.drop i))
 | 0,i,hi,hm=>by omega
 | m + 1,i,hi,hm=>by
  rw [Aya];unfold A7d;rw [QJ];by_cases h:i < l.length
  . have hx : l.drop i = l.getD i 0 :: l.drop (i + 1) := by
     rw [XT h];simp [QI,h]
    rw [QK (by omega),A4 (by simp;try omega),QS,hx]
    unfold L6;by_cases c:l.getD i 0 = 0
    . rw [c,XW,QW,QK rfl,Ae (x:=(i:Int) + 1) (by omega) (by omega)]
      exact Aeb hl m (i + 1) (by omega) (by omega)
    . rw [QH c,show (l.getD i 0 != 0) = true by rw [bne_iff_ne];exact c,ZM]
  . rw [QH (by omega),ZF (by omega)];rfl

theorem Mo {n:Nat} {l:List Int} (hl:l.length <= 1048576) (hn:1048577 <= n):f64 n l = some (L6 l):=by
 unfold f64
 have:=Aeb (n:=n) hl n 0 (by omega) (by omega)
 simpa using this

def A09 (L:List (List Rt)):Bool:=L.any fun v=>decide (4096 < v.length)

theorem Ajy {n:Nat} {L:List (List Rt)} (hl:L.length <= 1048576) (hn:1048577 <= n):f65 n L = some (if A09 L = true then 2 else 0):=by
 obtain ⟨c,h1,h2⟩:=B6i (n:=n) hl hn;rw [h1];rcases h2 with ⟨rfl,h⟩ | ⟨rfl,v,hv,h⟩
 . rw [QH];intro c;obtain ⟨v,hv,h3⟩:=XB.1 c;have:=h v hv;have:=KV h3;omega
 . rw [QK];exact XB.2 ⟨v,hv,ZL h⟩

def Alo (L:List (List Rt)):Int:=if A09 L = true then 2 else if (L.all Ho) = true then (if (L.all fun v=>v.length == (L.getD 0 []).length) = true then 0 else 8) else 1

theorem Azh {n:Nat} {x y:List Rt} (hn:1048577 <= n):f128 n x y = some (Alo [x,y]):=by
 unfold f128 Alo A09;dsimp only;rw [QJ];simp only [KM,List.any_nil,Qai,XZ,Qas,XM];by_cases a:x.length <= 4096
 . rw [QH (by omega),ZB (show ¬ 4096 < x.length by omega),YJ]
   by_cases b:y.length <= 4096
   . rw [ZB (by omega),ZB (by omega),QW,A8b hn,A2,QH (by simp)]
     cases hx:Ho x with
     | false=>rfl
     | true =>
      rw [ZO,QW,A8b hn,A2]
      cases hy:Ho y with
      | false=>rfl
      | true =>
       simp only [ZO,QW,ZD,if_true];by_cases c:x.length = y.length
       . rw [show ((x.length:Int) != (y.length:Int)) = false by simp;omega,QW,QK (by simp [c])]
       . rw [show ((x.length:Int) != (y.length:Int)) = true by rw [bne_iff_ne];omega,ZM,QH (by simp;omega)]
   . rw [ZL (by omega),ZL (by omega),ZM,QK rfl]
 . rw [QK (by omega),ZL (show 4096 < x.length by omega),Qap,ZM,QK rfl]

theorem B03:∀ {l:List Rt},l.all Hp = true->∃ X:List Rat,l = vq X /\ Sv X 40
 | [],_=>⟨[],rfl,fun a h=>by simp at h⟩
 | r :: l,h=>by
  simp only [XZ,QE] at h;obtain ⟨x,rfl,hx⟩:=B5k h.1;obtain ⟨X,rfl,hX⟩:=B03 h.2
  exact ⟨x :: X,rfl,fun a ha=>by rcases QT.1 ha with rfl | ha;exact hx;exact hX a ha⟩

theorem Adf:∀ (l:List Rt) (k:Int),(∀ x ∈ l,Sm x)->(Co l k).1 <= k + 2097153 * l.length
 | [],k,_=>by simp [Co]
 | x :: r,k,h=>by
  obtain ⟨h1,h2⟩:=h x (by simp)
  have:=Adf r (k + 1 + x.2.1.length + x.2.2.length) fun y hy=>h y (by simp [hy])
  simp only [Co,QU];omega

theorem Fu {n:Nat} {b:Bool} {c:Int}:f114 n b c = some (if b = true then 0 else c):=by
 unfold f114;cases b <;> rfl

def Bb7 (X:List Rat) (k i:Nat):List Rat:=(X.drop (i * k)).take k

def mvR (A X:List Rat):List Rat:=(List.range X.length).map fun i=>C7 0 (Bb7 A X.length i) X

def Ac8 (w:Nat) (row:List Rt) (v:Nat->Rat):Prop:=row.length = w /\ ∀ c,c < w->row.getD c Ny = rq (v c)

def Aht (m w:Nat) (R:List (List Rt)) (M:Nat->Nat->Rat):Prop:=R.length = m /\ ∀ r,r < m->Ac8 w (R.getD r []) (M r)

def SzM (M:Nat->Nat->Rat) (L:Nat):Prop:=∀ r c,Sz (M r c) L

theorem Aju {n L:Nat} {x:Rat} (hx:Sz x L) (hL:L <= 1099511627000):f61 n (rq x) = some (rq x):=by
 obtain ⟨x1,x2⟩:=hx;unfold f61 rq;dsimp only
 rw [Jn n (by omega),A2,Jn n (by omega),A2]

theorem SzM.mono {M:Nat->Nat->Rat} {L L':Nat} (h:SzM M L) (hL:L <= L'):SzM M L':=fun r c=>(h r c).mono hL

theorem Ac8.congr {w:Nat} {row:List Rt} {u v:Nat->Rat} (h:Ac8 w row u) (e:∀ c,c < w->u c = v c):Ac8 w row v:=⟨h.1,fun c hc=>by rw [h.2 c hc,e c hc]⟩

theorem Aht.congr {m w:Nat} {R:List (List Rt)} {M M':Nat->Nat->Rat} (h:Aht m w R M) (e:∀ r c,r < m->c < w->M r c = M' r c):Aht m w R M':=⟨h.1,fun r hr=>(h.2 r hr).congr fun c hc=>e r c hr hc⟩

structure A8t (m:Nat) (a b:List Rt) (M:Nat->Nat->Rat):Prop where
 la:a.length = m * m
 lb:b.length = m
 at_:∀ r c,r < m->c < m->a.getD (r * m + c) Ny = rq (M r c)
 bt:∀ r,r < m->b.getD r Ny = rq (M r m)

theorem A8t.congr {m:Nat} {a b:List Rt} {M M':Nat->Nat->Rat} (h:A8t m a b M) (e:∀ r c,r < m->c <= m->M r c = M' r c):A8t m a b M' :=
 ⟨h.la,h.lb,fun r c hr hc=>by rw [h.at_ r c hr hc,e r c hr (by omega)],fun r hr=>by rw [h.bt r hr,e r m hr (QY _)]⟩

theorem B9n {n c:Nat} (hc:c <= 1000000) (hn:1048577 <= n):f127 n (c:Int) = some (rq (c:Rat)):=by
 unfold f127
 rw [ZB (by omega),QW,Q0 (by omega) (by omega),A2,Aq3,In]

theorem A63 {L:Nat} (h:1 <= L):Sz (1:Rat) L:=(Ahm (c:=1) (by omega)).mono h

theorem Uk {α:Type} {n m:Nat} (hm:m <= 100) (hn:1048577 <= n) {k0:List Rt->Option α}:∀ (fu i:Nat),i <= m->m < i + fu->A48 n fu (m:Int) (i:Int) (vq (List.replicate i 0)) k0 = k0 (vq (List.replicate m 0))
 | 0,i,hi,hf=>by omega
 | fu + 1,i,hi,hf=>by
  rw [Axq];unfold A6t;rw [QJ];by_cases h:i < m
  . have e0:f127 n 0 = some (rq 0):=B9n (c:=0) (by omega) hn
    have e:vq (List.replicate i 0) ++ [rq 0] = vq (List.replicate (i + 1) 0):=by rw [List.replicate_succ'];simp [vq]
    rw [QK (by omega),e0,A2,A4 (by simp;omega),e,Ae (x:=(i:Int) + 1) (by omega) (by omega)]
    exact Uk hm hn fu (i + 1) (by omega) (by omega)
  . obtain rfl:i = m:=by omega
    rw [QH (by omega)]

theorem B1b {n m:Nat} (hm:m <= 100) (hn:1048577 <= n):f90 n (m:Int) = some (vq (List.replicate m 0)):=by
 unfold f90
 exact Uk (n:=n) (k0:=fun a=>some a) hm hn n 0 (by omega) (by omega)

theorem Aq4 (a:Int):rq (a:Rat) = (decide (a < 0),dg a.natAbs,dg 1):=by
 unfold rq;rw [Rat.num_intCast,Rat.den_intCast]

theorem A3q {n:Nat} {a:Int} (h:-1000000000 <= a /\ a <= 1000000000) (hn:1048577 <= n):f127 n a = some (rq (a:Rat)):=by rw [B4j h hn,Aq4]

theorem Amh {n:Nat} {x:Rat}:f131 n (rq x) = some (C6 x):=by
 unfold f131 C6 rq;dsimp only;rw [QJ];by_cases h:(dg x.num.natAbs).length <= 40
 . rw [QK (by omega),ZL h,XY]
   by_cases c:(dg x.den).length <= 40
   . rw [ZL c,ZL (by omega)]
   . rw [ZB c,ZB (by omega)]
 . rw [QH (by omega),ZB h];rfl

theorem Abq {n:Nat} {x:Rat}:f154 n (rq x) = some (C6 x):=by
 unfold f154 C6 rq;dsimp only;rw [QJ];by_cases h:(dg x.num.natAbs).length <= 40
 . rw [QK (by omega),ZL h,XY]
   by_cases c:(dg x.den).length <= 40
   . rw [ZL c,ZL (by omega)]
   . rw [ZB c,ZB (by omega)]
 . rw [QH (by omega),ZB h];rfl

theorem Hy {x y:Rat} {L K:Nat} (hx:Sz x L) (hy:Sz y K):Sz (x + y) (L + K + 1):=by
 obtain ⟨x1,x2⟩:=hx;obtain ⟨y1,y2⟩:=hy;have l1:=B9 x.num.natAbs y.den;have l2:=B9 y.num.natAbs x.den;have l3:=B9 x.den y.den;have l4:=A6m (x.num.natAbs * y.den) (y.num.natAbs * x.den);have hd:0 < x.den * y.den:=KY (XQ x.den_nz) (XQ y.den_nz);by_cases hs:decide (x.num < 0) = decide (y.num < 0)
 . rw [A3j hs];exact Z1 hd (by omega) (by omega)
 . by_cases hle:y.num.natAbs * x.den <= x.num.natAbs * y.den
   . have l5:=B7 (Qax (x.num.natAbs * y.den) (y.num.natAbs * x.den))
     rw [Qi hs hle];exact Z1 hd (by omega) (by omega)
   . have l5:=B7 (Qax (y.num.natAbs * x.den) (x.num.natAbs * y.den))
     rw [Rat.add_comm,Qi (fun e=>hs e.symm) (by omega),KO y.den x.den];exact Z1 hd (by omega) (by omega)

theorem Aq {x y:Rat} {L K:Nat} (hx:Sz x L) (hy:Sz y K):Sz (x * y) (L + K + 1):=by
 obtain ⟨x1,x2⟩:=hx;obtain ⟨y1,y2⟩:=hy;have l1:=B9 x.num.natAbs y.num.natAbs;have l3:=B9 x.den y.den;rw [Adb]
 exact Z1 (KY (XQ x.den_nz) (XQ y.den_nz)) (by omega) (by omega)

theorem A8s {x y:Rat} {L K:Nat} (hx:Sz x L) (hy:Sz y K) (hy0:y ≠ 0):Sz (x / y) (L + K + 1):=by
 obtain ⟨x1,x2⟩:=hx;obtain ⟨y1,y2⟩:=hy;have l1:=B9 x.num.natAbs y.den;have l3:=B9 x.den y.num.natAbs;have hyn:y.num ≠ 0:=fun e=>hy0 (KR.1 e);rw [Ah0 hy0]
 exact Z1 (KY (XQ x.den_nz) (by omega)) (by omega) (by omega)

def Bb8 (M:Nat->Nat->Rat) (m i:Nat):List Rat:=(List.range m).map (M i)

def bsV (M:Nat->Nat->Rat) (m i:Nat) (X:List Rat):Rat:=(M i m - C7 0 (Bb8 M m i) X) / M i i

def bs (M:Nat->Nat->Rat) (m:Nat):Nat->List Rat->List Rat
 | 0,X=>X
 | i + 1,X=>bs M m i (X.set i (bsV M m i X))

theorem Hk:∀ (x y:List Rat) (a:Rat),C7 a x y = a + C7 0 x y
 | [],_,a=>by simp [C7,Rat.add_zero]
 | p :: x,[],a=>by simp [C7,Rat.add_zero]
 | p :: x,q :: y,a=>by
  simp only [C7];rw [Hk x y (a + p * q),Hk x y (0 + p * q)];grind

theorem Ab1:∀ (x y:List Rat),C7 0 x y = C7 0 y x
 | [],[]=>rfl
 | [],_ :: _=>rfl
 | _ :: _,[]=>rfl
 | p :: x,q :: y=>by
  simp only [C7];rw [Hk,Hk y,Ab1 x y];grind

theorem T7:∀ (x:List Rat),0 <= C7 0 x x
 | []=>by simp only [C7];exact Rat.le_refl
 | p :: x=>by
  have:=T7 x
  have h2:(0:Rat) <= p * p:=by
   rcases Rat.le_total (a:=0) (b:=p) with h | h
   . exact Qbb h h
   . have:=Qbb (a:=-p) (b:=-p) (by grind) (by grind)
     grind
  simp only [C7];rw [Hk];grind

theorem Alt (p:Rat):0 <= p * p:=by
 rcases Rat.le_total (a:=0) (b:=p) with h | h
 . exact Qbb h h
 . have:=Qbb (a:=-p) (b:=-p) (by grind) (by grind)
   grind

theorem Agz:∀ {x:List Rat},C7 0 x x = 0->∀ i,x.getD i 0 = 0
 | [],_,i=>by simp
 | p :: x,h,i=>by
  simp only [C7] at h;rw [Hk] at h;have h1:=T7 x;have h2:=Alt p
  have h3:C7 0 x x = 0:=by grind
  have h4:p * p = 0:=by grind
  have h5:p = 0:=by rcases Rat.mul_eq_zero.1 h4 with h | h <;> exact h
  cases i with
  | zero=>simpa using h5
  | succ i=>simpa using Agz h3 i

theorem Ab0:∀ {x:List Rat} (z:List Rat),(∀ i,x.getD i 0 = 0)->C7 0 x z = 0
 | [],_,_=>rfl
 | p :: x,[],_=>rfl
 | p :: x,c :: z,h=>by
  have h0:p = 0:=by simpa using h 0
  have h1:=Ab0 (x:=x) z fun i=>by simpa using h (i + 1)
  simp only [C7];rw [Hk,h1,h0];grind

structure Pd (A:List Rat) (k:Nat):Prop where
 sa:∀ X Y,X.length = k->Y.length = k->C7 0 (mvR A X) Y = C7 0 X (mvR A Y)
 pd:∀ X,X.length = k->C7 0 X X <= C7 0 X (mvR A X)

structure CgI (A R D:List Rat) (k:Nat):Prop where
 lR:R.length = k
 lD:D.length = k
 i1:C7 0 R D = C7 0 R R
 i2:C7 0 R (mvR A D) = C7 0 D (mvR A D)

theorem CgI.p {A R D:List Rat} {k:Nat} (h:CgI A R D k) (hA:Pd A k) (hr:C7 0 R R ≠ 0):C7 0 D (mvR A D) ≠ 0:=by
 intro e;have h1:=hA.pd D h.lD;have h2:=T7 D
 have h3:C7 0 D D = 0:=by grind
 have h4:=Ab0 R (Agz h3);rw [Ab1,h.i1] at h4;exact hr h4

theorem A5s {α:Type} {n:Nat} {e:List Nod} (hN:e.length <= 1048576) {k0:List Nod->Option α}:∀ (r:List Nod) (m:Nat) (out:List Nod),e.drop out.length = r->out.length + r.length = e.length->r.length < m ->
  (∀ j,j < out.length->out.getD j (0,0,0,0) = e.getD j (0,0,0,0))->Pj n m e (out.length:Int) (out ++ List.replicate r.length (0,0,0,0)) k0 = k0 e
 | [],m + 1,out,hd,hl,hm,ho=>by
  rw [A9t];unfold R9;simp only [ZG] at hl
  rw [QJ,QH (by omega)]
  congr 1;simp only [ZG,List.replicate_zero,XE]
  apply List.ext_getElem (by omega)
  intro j h1 h2;have:=ho j h1;simpa [QI,h1,h2] using this
 | x :: r,m + 1,out,hd,hl,hm,ho=>by
  obtain ⟨hx,hlt,hd'⟩:=D8 (d:=(0,0,0,0)) hd;rw [A9t];unfold R9;simp only [QU] at hl hm
  rw [QJ,QK (by omega),A4 (by simp;omega),Ae (by omega) (by omega)]
  simp only [QS,hx];unfold f138
  rw [A2,A4 (by simp;omega),A4 (by simp)]
  have es:(out ++ List.replicate (x :: r).length (0,0,0,0)).set out.length x = (out ++ [x]) ++ List.replicate r.length (0,0,0,0):=by
   rw [YX _ _ (QY _)];simp [Qay]
  rw [es]
  have ih:=A5s hN r m (out ++ [x]) (by simpa using hd') (by simp;omega) (by omega) (fun j hj=>by
   simp only [ZZ,QU,ZG] at hj;rcases XN j out.length with h | h
   . rw [C1 h];exact ho j h
   . obtain rfl:j = out.length:=by omega
     rw [Ch,hx]) (n:=n) (k0:=k0)
  simp only [ZZ,QU,ZG,XS] at ih;exact ih

theorem B2e {n:Nat} {e:List Nod} (hN:e.length <= 1048576) (hn:1048577 <= n):And n e = some e:=by
 unfold And Ay7
 rw [A4 (by simp;omega)]
 have:=A5s (n:=n) hN (k0:=fun z=>some z) e n [] rfl (by simp) (by omega) (fun j hj=>by simp at hj)
 simp only [ZG,KJ] at this;rw [QS];have this:Pj n n e 0 (List.replicate e.length (0,0,0,0)) (fun z=>some z) = some e:=this;rw [this];rfl

def mkL (k:Int):Nat->List Nod
 | 0=>[]
 | m + 1=>(k,k + 1,k + 2,k + 3) :: mkL (k + 4) m

theorem J5:∀ (m:Nat) (k:Int),(mkL k m).length = m
 | 0,_=>rfl
 | m + 1,k=>by simp [mkL,J5 m]

theorem gds {l:List Nod} {i:Nat} {a d:Nod} (h:i < l.length):(l.set i a).getD i d = a:=by
 simp [QI,h]

theorem Ama {α:Type} {n:Nat} {b:List Nod} {i:Nat} {k:Int} (hi:i < b.length) (hN:b.length <= 1048576) (hk:0 <= k /\ k < 1000000000) {f} {k0:Int->List Nod->Option α} :
  Mn n k (i:Int) b f k0 = f (k + 4) ((i:Int) + 1) (b.set i (k,k + 1,k + 2,k + 3)):=by
 unfold Mn
 have w1:W (k + 1) = k + 1:=Ae (by omega) (by omega)
 have w2:W (k + 1 + 1) = k + 2:=by rw [Ae (by omega) (by omega)];omega
 have w3:W (k + 2 + 1) = k + 3:=by rw [Ae (by omega) (by omega)];omega
 have w4:W (k + 3 + 1) = k + 4:=by rw [Ae (by omega) (by omega)];omega
 simp only [w1,w2,w3,w4,QS,Qaq,gds hi,JF]
 have g1:(decide (0 <= (i:Int)) && decide ((i:Int) < (b.length:Int))) = true:=by simp;omega
 have g2:decide (i < b.length) = true:=by simpa using hi
 rw [QJ,QK (by omega)]
 simp only [g1,g2,Fb]
 rw [Ae (by omega) (by omega)]

theorem A9b {α:Type} {n:Nat} {k0:Int->List Nod->Option α}:∀ (r:List Nod) (m:Nat) (pre:List Nod) (k:Int),pre.length + r.length <= 1048576->r.length < m->0 <= k->k + 4 * r.length < 1000000000 ->
  Xr n m k (pre.length:Int) (pre ++ r) k0 = k0 (k + 4 * r.length) (pre ++ mkL k r.length)
 | [],m + 1,pre,k,hN,hm,h0,hk=>by
  rw [A9r];unfold Mn
  rw [QJ,QH (by simp)]
  simp [mkL]
 | x :: r,m + 1,pre,k,hN,hm,h0,hk=>by
  simp only [QU] at hN hm hk
  rw [A9r,Ama (by simp) (by simp;omega) ⟨h0,by omega⟩]
  have es:(pre ++ x :: r).set pre.length (k,k + 1,k + 2,k + 3) = (pre ++ [(k,k + 1,k + 2,k + 3)]) ++ r:=by
   rw [YX _ _ (QY _)];simp
  rw [es]
  have ih:=A9b (n:=n) (k0:=k0) r m (pre ++ [(k,k + 1,k + 2,k + 3)]) (k + 4) (by simp;omega) (by omega) (by omega) (by omega)
  simp only [ZZ,QU,ZG,XS] at ih;refine Eq.trans ih ?_
  rw [show k + 4 + 4 * (r.length:Int) = k + 4 * ((r.length + 1:Nat):Int) by omega]
  simp [mkL]

theorem B21 {n:Nat} {e:List Nod} (hN:e.length <= 1048576) (hn:1048577 <= n):Amv n e 1 = some (1 + 4 * (e.length:Int),mkL 1 e.length):=by
 unfold Amv
 exact A9b (n:=n) (k0:=fun z w=>some (z,w)) e n [] 1 (by simpa using hN) (by omega) (by omega) (by omega)

theorem B2c {n:Nat} {e:List Nod} (hN:e.length <= 1048576) (hn:1048577 <= n):Vg n e 1 = some (1 + 4 * (e.length:Int),mkL 1 e.length):=by
 unfold Vg
 rw [B21 hN hn,A2,A4 (by simp [J5])]

structure Q4 where
 f:Rat
 a:Rat
 v:Rat
 c:Rat

theorem Q4.ext' {p q:Q4} (h1:p.f = q.f) (h2:p.a = q.a) (h3:p.v = q.v) (h4:p.c = q.c):p = q:=by
 cases p;cases q;simp only at h1 h2 h3 h4;rw [h1,h2,h3,h4]

def Q4.cst (k:Rat):Q4:=⟨k,0,0,0⟩

def Q4.add (p q:Q4):Q4:=⟨p.f + q.f,p.a + q.a,p.v + q.v,p.c + q.c⟩

def Q4.neg (p:Q4):Q4:=⟨-p.f,-p.a,-p.v,-p.c⟩

def Q4.mul (p q:Q4):Q4:=⟨p.f * q.f,p.a * q.f + p.f * q.a,p.v * q.f + p.f * q.v,p.c * q.f + p.f * q.c + (p.a * q.v + p.v * q.a)⟩

def Q4.inv (p:Q4):Q4:=⟨1 / p.f,-(p.a * (1 / p.f * (1 / p.f))),-(p.v * (1 / p.f * (1 / p.f))),2 * (1 / p.f * (1 / p.f) * (1 / p.f)) * (p.a * p.v) - p.c * (1 / p.f * (1 / p.f))⟩

def Q4.pow (p:Q4):Nat->Q4
 | 0=>cst 1
 | n + 1=>mul (pow p n) p

def Q4.d1 (f:Rat):Nat->Rat
 | 0=>0
 | n + 1=>f ^ n * ((n + 1:Nat):Rat)

def Q4.d2 (f:Rat):Nat->Rat
 | 0=>0
 | 1=>0
 | n + 2=>f ^ n * (((n + 2) * (n + 1):Nat):Rat)

theorem Q4.d1_suc (f:Rat) (n:Nat):d1 f (n + 1) = d1 f n * f + f ^ n:=by
 cases n with
 | zero=>simp [d1];grind
 | succ n=>simp only [d1,Rat.pow_succ];push_cast;grind

theorem Q4.d2_suc (f:Rat) (n:Nat):d2 f (n + 1) = d2 f n * f + 2 * d1 f n:=by
 match n with
 | 0=>simp [d2,d1];grind
 | 1=>simp [d2,d1];grind
 | n + 2=>simp only [d2,d1,Rat.pow_succ];push_cast;grind

theorem Q4.pow_eq (p:Q4):∀ n,pow p n = ⟨p.f ^ n,d1 p.f n * p.a,d1 p.f n * p.v,d2 p.f n * p.a * p.v + d1 p.f n * p.c⟩
 | 0=>by simp [pow,cst,d1,d2];grind
 | n + 1=>by
  rw [pow,pow_eq p n];simp only [mul];refine ext' ?_ ?_ ?_ ?_
  . simp only [Rat.pow_succ]
  . simp only [d1_suc];grind
  . simp only [d1_suc];grind
  . simp only [d1_suc,d2_suc];grind

structure Z4 where
 f:Int
 a:Int
 v:Int
 c:Int

def Z4.q (p:Z4):Q4:=⟨(p.f:Rat),(p.a:Rat),(p.v:Rat),(p.c:Rat)⟩

def Z4.n (p:Z4):Nat:=p.f.natAbs + p.a.natAbs + p.v.natAbs + p.c.natAbs

def Z4.add (p q:Z4):Z4:=⟨p.f + q.f,p.a + q.a,p.v + q.v,p.c + q.c⟩

def Z4.mul (p q:Z4):Z4:=⟨p.f * q.f,p.a * q.f + p.f * q.a,p.v * q.f + p.f * q.v,p.c * q.f + p.f * q.c + (p.a * q.v + p.v * q.a)⟩

theorem Z4.q_mul (p q:Z4):(mul p q).q = Q4.mul p.q q.q:=by
 refine Q4.ext' ?_ ?_ ?_ ?_ <;> simp only [Z4.q,mul,Q4.mul] <;> push_cast <;> rfl

theorem Z4.q_add (p q:Z4):(add p q).q = Q4.add p.q q.q:=by
 refine Q4.ext' ?_ ?_ ?_ ?_ <;> simp only [Z4.q,add,Q4.add] <;> push_cast <;> rfl

theorem Z4.n_add (p q:Z4):(add p q).n <= p.n + q.n:=by
 have h1:=YU p.f q.f;have h2:=YU p.a q.a;have h3:=YU p.v q.v;have h4:=YU p.c q.c;simp only [n,add];omega

theorem Z4.n_mul (p q:Z4):(mul p q).n <= p.n * q.n:=by
 have h2:=YU (p.a * q.f) (p.f * q.a);have h3:=YU (p.v * q.f) (p.f * q.v);have h4:=YU (p.c * q.f + p.f * q.c) (p.a * q.v + p.v * q.a);have h5:=YU (p.c * q.f) (p.f * q.c);have h6:=YU (p.a * q.v) (p.v * q.a);simp only [n,mul,YH,Nat.mul_add,Int.natAbs_mul] at *;generalize p.f.natAbs * q.f.natAbs = x1 at *;generalize p.a.natAbs * q.f.natAbs = x2 at *;generalize p.f.natAbs * q.a.natAbs = x3 at *;generalize p.v.natAbs * q.f.natAbs = x4 at *;generalize p.f.natAbs * q.v.natAbs = x5 at *;generalize p.c.natAbs * q.f.natAbs = x6 at *;generalize p.f.natAbs * q.c.natAbs = x7 at *;generalize p.a.natAbs * q.v.natAbs = x8 at *;generalize p.v.natAbs * q.a.natAbs = x9 at *;omega

def Ea (q:Q4) (M:Nat):Prop:=∃ P Q:Z4,Q.f ≠ 0 /\ Q4.mul q Q.q = P.q /\ P.n <= M /\ Q.n <= M

theorem Ea.mono {q:Q4} {M N:Nat} (h:Ea q M) (hN:M <= N):Ea q N:=by
 obtain ⟨P,Q,h1,h2,h3,h4⟩:=h;exact ⟨P,Q,h1,h2,ZN h3 hN,ZN h4 hN⟩

theorem Q4.mul_comm (p q:Q4):mul p q = mul q p:=by
 refine ext' ?_ ?_ ?_ ?_ <;> simp only [mul] <;> grind

theorem Q4.mul_assoc (p q r:Q4):mul (mul p q) r = mul p (mul q r):=by
 refine ext' ?_ ?_ ?_ ?_ <;> simp only [mul] <;> grind

theorem Q4.add_mul (p q r:Q4):mul (add p q) r = add (mul p r) (mul q r):=by
 refine ext' ?_ ?_ ?_ ?_ <;> simp only [mul,add] <;> grind

theorem Q4.neg_mul (p r:Q4):mul (neg p) r = neg (mul p r):=by
 refine ext' ?_ ?_ ?_ ?_ <;> simp only [mul,neg] <;> grind

theorem Q4.inv_mul (p:Q4) (h:p.f ≠ 0):mul (inv p) p = cst 1:=by
 have h1:1 / p.f * p.f = 1:=by grind
 generalize hr:1 / p.f = r at h1;refine ext' ?_ ?_ ?_ ?_ <;> simp only [mul,inv,cst,hr] <;> grind

theorem Q4.one_mul (p:Q4):mul (cst 1) p = p:=by
 refine ext' ?_ ?_ ?_ ?_ <;> simp only [mul,cst] <;> grind

theorem Q4.mul4 (p q r s:Q4):mul (mul p q) (mul r s) = mul (mul p r) (mul q s):=by
 rw [mul_assoc,<- mul_assoc q,mul_comm q r,mul_assoc r,<- mul_assoc]

theorem Ada {a b:Int} (ha:a ≠ 0) (hb:b ≠ 0):a * b ≠ 0:=by
 intro h;rcases Int.mul_eq_zero.1 h with h | h
 . exact ha h
 . exact hb h

theorem Ea.mul {p q:Q4} {M N:Nat} (hp:Ea p M) (hq:Ea q N):Ea (Q4.mul p q) (M * N):=by
 obtain ⟨P,Q,h1,h2,h3,h4⟩:=hp;obtain ⟨R,S,g1,g2,g3,g4⟩:=hq;refine ⟨Z4.mul P R,Z4.mul Q S,Ada h1 g1,?_,ZN (Z4.n_mul _ _) (KH h3 g3),ZN (Z4.n_mul _ _) (KH h4 g4)⟩;rw [Z4.q_mul,Z4.q_mul,Q4.mul4,h2,g2]

theorem Ea.add {p q:Q4} {M N:Nat} (hp:Ea p M) (hq:Ea q N):Ea (Q4.add p q) (2 * (M * N)):=by
 obtain ⟨P,Q,h1,h2,h3,h4⟩:=hp;obtain ⟨R,S,g1,g2,g3,g4⟩:=hq;have e1:=KH h3 g4;have e2:=KH h4 g3;have e3:=KH h4 g4;have n1:=Z4.n_mul P S;have n2:=Z4.n_mul R Q;have n3:=Z4.n_mul Q S;have n4:=Z4.n_add (Z4.mul P S) (Z4.mul R Q);rw [KO R.n] at n2
 refine ⟨Z4.add (Z4.mul P S) (Z4.mul R Q),Z4.mul Q S,Ada h1 g1,?_,by omega,by omega⟩
 rw [Z4.q_add,Z4.q_mul,Z4.q_mul,Z4.q_mul,Q4.add_mul,<- h2,<- g2,Q4.mul_assoc,Q4.mul_assoc,Q4.mul_comm Q.q S.q]

theorem Ea.neg {p:Q4} {M:Nat} (hp:Ea p M):Ea (Q4.neg p) M:=by
 obtain ⟨P,Q,h1,h2,h3,h4⟩:=hp
 refine ⟨⟨-P.f,-P.a,-P.v,-P.c⟩,Q,h1,?_,by simpa [Z4.n] using h3,h4⟩
 rw [Q4.neg_mul,h2];refine Q4.ext' ?_ ?_ ?_ ?_ <;> simp only [Q4.neg,Z4.q] <;> push_cast <;> rfl

theorem Ea.inv {p:Q4} {M:Nat} (hp:Ea p M) (h0:p.f ≠ 0):Ea (Q4.inv p) M:=by
 obtain ⟨P,Q,h1,h2,h3,h4⟩:=hp;refine ⟨Q,P,?_,?_,h4,h3⟩
 . have:p.f * (Q.f:Rat) = (P.f:Rat):=XU Q4.f h2;intro h;rw [h] at this
   have hq:(Q.f:Rat) ≠ 0:=by simpa using h1
   grind
 . rw [<- h2,<- Q4.mul_assoc,Q4.inv_mul p h0,Q4.one_mul]

theorem Ea.one:Ea (Q4.cst 1) 1:=⟨⟨1,0,0,0⟩,⟨1,0,0,0⟩,by decide,by
 refine Q4.ext' ?_ ?_ ?_ ?_ <;> simp only [Q4.mul,Q4.cst,Z4.q] <;> simp [Rat.add_zero],by decide,by decide⟩

theorem Ea.cst (k:Int):Ea (Q4.cst (k:Rat)) (max k.natAbs 1):=⟨⟨k,0,0,0⟩,⟨1,0,0,0⟩,by simp,by
 refine Q4.ext' ?_ ?_ ?_ ?_ <;> simp only [Q4.mul,Q4.cst,Z4.q] <;> simp [Rat.add_zero],by simp [Z4.n];omega,by simp [Z4.n];omega⟩

theorem Ea.pow {p:Q4} {M:Nat} (hp:Ea p M):∀ n,Ea (Q4.pow p n) (M ^ n)
 | 0=>by simpa [Q4.pow] using Ea.one
 | n + 1=>by simpa only [Q4.pow,KL] using (Ea.pow hp n).mul hp

def Hb (x:Rat) (B:Nat):Prop:=x.num.natAbs <= B /\ x.den <= B

theorem Hb.mono {x:Rat} {B C:Nat} (h:Hb x B) (hC:B <= C):Hb x C:=⟨ZN h.1 hC,ZN h.2 hC⟩

theorem Acr (x:Rat):x * ((x.den:Int):Rat) = (x.num:Rat):=by
 have h1:mkRat x.num x.den = x:=Rat.mkRat_self x;rw [Rat.mkRat_eq_div] at h1
 have h2:((x.den:Int):Rat) ≠ 0:=by have:=x.den_nz;simpa using this
 rw [Rat.intCast_natCast] at h2 ⊢;generalize (x.den:Rat) = d at *;grind

theorem Ea.var {x w:Rat} {δ:Int} {A B C D:Nat} (hx:x.num.natAbs <= A) (hxd:x.den <= B) (hw:w.num.natAbs <= C) (hwd:w.den <= D) (hδ:δ.natAbs <= 1):Ea ⟨x,(δ:Rat),w,0⟩ (A * D + B * D + C * B):=by
 have h1:=Acr x;have h2:=Acr w;have e1:=KH hx hwd;have e2:=KH hxd hwd;have e3:=KH hw hxd;have e4:δ.natAbs * (x.den * w.den) <= 1 * (x.den * w.den):=XR _ hδ
 refine ⟨⟨x.num * w.den,δ * (x.den * w.den),w.num * x.den,0⟩,⟨(x.den:Int) * w.den,0,0,0⟩,Ada (by have:=x.den_nz;omega) (by have:=w.den_nz;omega),?_,?_,?_⟩
 . refine Q4.ext' ?_ ?_ ?_ ?_ <;> simp only [Q4.mul,Z4.q] <;> simp only [Rat.intCast_mul,<- h1,<- h2] <;> grind
 . simp only [Z4.n,Int.natAbs_mul,KG];have:((0:Int).natAbs) = 0:=rfl;omega
 . simp only [Z4.n,Int.natAbs_mul,KG];have:((0:Int).natAbs) = 0:=rfl;omega

abbrev Nd:=Int × Int × Int × Int

def Bs (x u w:Nat->Rat) (l:List Q4) (n:Nd):Q4 :=
 if n.1 = 1 then Q4.cst (n.2.2.2:Rat)
 else if n.1 = 2 then ⟨x n.2.2.2.toNat,u n.2.2.2.toNat,w n.2.2.2.toNat,0⟩
 else if n.1 = 3 then Q4.add (l.getD n.2.1.toNat (Q4.cst 0)) (l.getD n.2.2.1.toNat (Q4.cst 0))
 else if n.1 = 4 then Q4.add (l.getD n.2.1.toNat (Q4.cst 0)) (Q4.neg (l.getD n.2.2.1.toNat (Q4.cst 0)))
 else if n.1 = 5 then Q4.mul (l.getD n.2.1.toNat (Q4.cst 0)) (l.getD n.2.2.1.toNat (Q4.cst 0))
 else if n.1 = 6 then Q4.mul (l.getD n.2.1.toNat (Q4.cst 0)) (Q4.inv (l.getD n.2.2.1.toNat (Q4.cst 0)))
 else if n.1 = 7 then Q4.neg (l.getD n.2.1.toNat (Q4.cst 0))
 else Q4.pow (l.getD n.2.1.toNat (Q4.cst 0)) n.2.2.2.toNat

def evs (x u w:Nat->Rat):List Nd->List Q4->List Q4
 | [],l=>l
 | n :: r,l=>evs x u w r (l ++ [Bs x u w l n])

theorem A8g (x u w:Nat->Rat):∀ (ns:List Nd) (l:List Q4),(evs x u w ns l).length = l.length + ns.length
 | [],l=>by simp [evs]
 | n :: r,l=>by rw [evs,A8g x u w r];simp;omega

structure G5 {ι:Type} (x:Nat->Rat) (u w:ι->Nat->Rat) (R:(ι->Q4)->Prop):Prop where
 cst:∀ k:Rat,R fun _=>Q4.cst k
 var:∀ n,R fun i=>⟨x n,u i n,w i n,0⟩
 add:∀ {p q:ι->Q4},R p->R q->R fun i=>Q4.add (p i) (q i)
 neg:∀ {p:ι->Q4},R p->R fun i=>Q4.neg (p i)
 mul:∀ {p q:ι->Q4},R p->R q->R fun i=>Q4.mul (p i) (q i)
 inv:∀ {p:ι->Q4},R p->R fun i=>Q4.inv (p i)

theorem G5.pow {ι:Type} {x:Nat->Rat} {u w:ι->Nat->Rat} {R:(ι->Q4)->Prop} (h:G5 x u w R) {p:ι->Q4} (hp:R p):∀ n,R fun i=>Q4.pow (p i) n
 | 0=>h.cst 1
 | n + 1=>h.mul (h.pow hp n) hp

theorem G5.of {ι:Type} {x:Nat->Rat} {u w:ι->Nat->Rat} {R:(ι->Q4)->Prop} (h:G5 x u w R) {l:ι->List Q4} (hl:∀ k,R fun i=>(l i).getD k (Q4.cst 0)) (n:Nd):R fun i=>Bs x (u i) (w i) (l i) n:=by
 unfold Bs;by_cases h1:n.1 = 1
 . simp only [QK h1];exact h.cst _
 by_cases h2:n.1 = 2
 . simp only [QH h1,QK h2];exact h.var _
 by_cases h3:n.1 = 3
 . simp only [QH h1,QH h2,QK h3];exact h.add (hl _) (hl _)
 by_cases h4:n.1 = 4
 . simp only [QH h1,QH h2,QH h3,QK h4];exact h.add (hl _) (h.neg (hl _))
 by_cases h5:n.1 = 5
 . simp only [QH h1,QH h2,QH h3,QH h4,QK h5];exact h.mul (hl _) (hl _)
 by_cases h6:n.1 = 6
 . simp only [QH h1,QH h2,QH h3,QH h4,QH h5,QK h6];exact h.mul (hl _) (h.inv (hl _))
 by_cases h7:n.1 = 7
 . simp only [QH h1,QH h2,QH h3,QH h4,QH h5,QH h6,QK h7];exact h.neg (hl _)
 . simp only [QH h1,QH h2,QH h3,QH h4,QH h5,QH h6,QH h7];exact h.pow (hl _) _

theorem G5.evs {ι:Type} {x:Nat->Rat} {u w:ι->Nat->Rat} {R:(ι->Q4)->Prop} (h:G5 x u w R):∀ (ns:List Nd) {l:ι->List Q4} {N:Nat},(∀ i,(l i).length = N)->(∀ k,R fun i=>(l i).getD k (Q4.cst 0))->∀ k,R fun i=>(evs x (u i) (w i) ns (l i)).getD k (Q4.cst 0)
 | [],l,N,_,hl,k=>hl k
 | n :: r,l,N,hN,hl,k=>by
  simp only [Go.Ev.evs]
  refine h.evs r (N:=N + 1) (fun i=>by simp [hN i]) (fun k=>?_) k
  rcases JI k N with hk | hk | hk
  . have e : (fun i => (l i ++ [Bs x (u i) (w i) (l i) n]).getD k (Q4.cst 0)) = fun i => (l i).getD k (Q4.cst 0) := by
     funext i
     simp only [QI,ZA (show k < (l i).length by rw [hN i];exact hk)]
    rw [e];exact hl k
  . have e : (fun i => (l i ++ [Bs x (u i) (w i) (l i) n]).getD k (Q4.cst 0)) = fun i => Bs x (u i) (w i) (l i) n := by
     funext i
     rw [QI,QZ (by rw [hN i];omega),hN i,hk];simp
    rw [e];exact h.of hl n
  . have e : (fun i => (l i ++ [Bs x (u i) (w i) (l i) n]).getD k (Q4.cst 0)) = fun _ => Q4.cst 0 := by
     funext i
     rw [QI,YW (by simp [hN i];omega)];rfl
    rw [e];exact h.cst 0

theorem G5.run {ι:Type} {x:Nat->Rat} {u w:ι->Nat->Rat} {R:(ι->Q4)->Prop} (h:G5 x u w R) (ns:List Nd) (k:Nat):R fun i=>(Go.Ev.evs x (u i) (w i) ns []).getD k (Q4.cst 0) :=
 h.evs ns (N:=0) (fun _=>rfl) (fun k=>by simpa using h.cst 0) k

def Ju (l:List Q4) (n:Nd):Prop:=n.1 = 6 /\ (l.getD n.2.2.1.toNat (Q4.cst 0)).f = 0

instance (l:List Q4) (n:Nd):Decidable (Ju l n):=by unfold Ju;infer_instance

def E9 (fit:Q4->Bool) (x u w:Nat->Rat):List Nd->List Q4->List Q4 ⊕ Int
 | [],l=>.inl l
 | n :: r,l=>if Ju l n then .inr 10 else if fit (Bs x u w l n) = true then E9 fit x u w r (l ++ [Bs x u w l n]) else .inr 7

theorem Yu {fit:Q4->Bool} {x u w:Nat->Rat}:∀ (ns:List Nd) (l l':List Q4),(∀ k,k < l.length->fit (l.getD k (Q4.cst 0)) = true)->E9 fit x u w ns l = .inl l'->(∀ k,k < l'.length->fit (l'.getD k (Q4.cst 0)) = true) /\ l' = evs x u w ns l
 | [],l,l',h,e=>by obtain rfl:=Sum.inl.inj e;exact ⟨h,rfl⟩
 | n :: r,l,l',h,e=>by
  simp only [E9] at e;by_cases hb:Ju l n
  . rw [QK hb] at e;cases e
  . rw [QH hb] at e;by_cases hf:fit (Bs x u w l n) = true
    . rw [QK hf] at e;refine Yu r _ l' (fun k hk=>?_) e;simp only [ZZ,QU,ZG] at hk;rcases XN k l.length with h1 | h1
      . rw [QI,ZA h1,<- QI];exact h k h1
      . obtain rfl:k = l.length:=by omega
        rw [QI,QZ (QY _)];simpa using hf
    . rw [QH hf] at e;cases e

theorem A39 {fit:Q4->Bool} {x u w:Nat->Rat}:∀ (ns:List Nd) (l:List Q4) (c:Int),E9 fit x u w ns l = .inr c->c = 7 \/ c = 10
 | [],l,c,e=>by cases e
 | n :: r,l,c,e=>by
  simp only [E9] at e;by_cases hb:Ju l n
  . rw [QK hb] at e;exact .inr (Sum.inr.inj e).symm
  . rw [QH hb] at e;by_cases hf:fit (Bs x u w l n) = true
    . rw [QK hf] at e;exact A39 r _ c e
    . rw [QH hf] at e;exact .inl (Sum.inr.inj e).symm

theorem Ala {x:Nat->Rat} {u w:Bool->Nat->Rat} {R:(Bool->Q4)->Prop} (h:G5 x u w R) {f g:Q4->Bool} (hfg:∀ p,R p->f (p true) = g (p false)) (hv:∀ p,R p->(p true).f = (p false).f) :
  ∀ (ns:List Nd) (l m:List Q4),l.length = m.length->(∀ k,R fun b=>bif b then l.getD k (Q4.cst 0) else m.getD k (Q4.cst 0)) ->
   (∃ c,E9 f x (u true) (w true) ns l = .inr c /\ E9 g x (u false) (w false) ns m = .inr c) \/
   ∃ l' m',E9 f x (u true) (w true) ns l = .inl l' /\ E9 g x (u false) (w false) ns m = .inl m' /\ l'.length = l.length + ns.length /\ m'.length = l.length + ns.length /\ ∀ k,R fun b=>bif b then l'.getD k (Q4.cst 0) else m'.getD k (Q4.cst 0)
 | [],l,m,hl,hk=>.inr ⟨l,m,rfl,rfl,by simp,by simp [hl],hk⟩
 | n :: r,l,m,hl,hk=>by
  simp only [E9]
  have hb:Ju l n ↔ Ju m n:=by
   unfold Ju;have:=hv _ (hk n.2.2.1.toNat);simp only [ZM,QW] at this;rw [this]
  have hr:=h.of (l:=fun b=>bif b then l else m) (fun k=>by
   have:=hk k
   have e:(fun i=>((fun b=>bif b then l else m) i).getD k (Q4.cst 0)) = fun b=>bif b then l.getD k (Q4.cst 0) else m.getD k (Q4.cst 0):=by funext b;cases b <;> rfl
   rw [e];exact this) n
  have hq:=hfg _ hr;simp only [ZM,QW] at hq;by_cases h1:Ju l n
  . rw [QK h1,QK (hb.1 h1)];exact .inl ⟨10,rfl,rfl⟩
  . rw [QH h1,QH (fun q=>h1 (hb.2 q))];by_cases h2:f (Bs x (u true) (w true) l n) = true
    . rw [QK h2,QK (by rw [<- hq];exact h2)]
      have:=Ala h hfg hv r (l ++ [Bs x (u true) (w true) l n]) (m ++ [Bs x (u false) (w false) m n]) (by simp [hl]) (fun k=>by
       rcases JI k l.length with hkl | hkl | hkl
       . have e1:(l ++ [Bs x (u true) (w true) l n]).getD k (Q4.cst 0) = l.getD k (Q4.cst 0):=by simp only [QI,ZA hkl]
         have e2:(m ++ [Bs x (u false) (w false) m n]).getD k (Q4.cst 0) = m.getD k (Q4.cst 0):=by simp only [QI,ZA (show k < m.length by omega)]
         rw [e1,e2];exact hk k
       . have e1:(l ++ [Bs x (u true) (w true) l n]).getD k (Q4.cst 0) = Bs x (u true) (w true) l n:=by rw [QI,QZ (by omega),hkl];simp
         have e2:(m ++ [Bs x (u false) (w false) m n]).getD k (Q4.cst 0) = Bs x (u false) (w false) m n:=by rw [QI,QZ (by omega),hkl,hl];simp
         rw [e1,e2]
         have e:(fun i=>Bs x (u i) (w i) ((fun b=>bif b then l else m) i) n) = fun b=>bif b then Bs x (u true) (w true) l n else Bs x (u false) (w false) m n:=by funext b;cases b <;> rfl
         rw [<- e];exact hr
       . have e1:(l ++ [Bs x (u true) (w true) l n]).getD k (Q4.cst 0) = Q4.cst 0:=by rw [QI,YW (by simp;omega)];rfl
         have e2:(m ++ [Bs x (u false) (w false) m n]).getD k (Q4.cst 0) = Q4.cst 0:=by rw [QI,YW (by simp;omega)];rfl
         rw [e1,e2]
         have e:(fun b:Bool=>bif b then Q4.cst 0 else Q4.cst 0) = fun _=>Q4.cst 0:=by funext b;cases b <;> rfl
         rw [e];exact h.cst 0)
      rcases this with h3 | ⟨l',m',a1,a2,a3,a4,a5⟩
      . exact .inl h3
      . exact .inr ⟨l',m',a1,a2,by rw [a3];simp;omega,by rw [a4];simp;omega,a5⟩
    . rw [QH h2,QH (by rw [<- hq];exact h2)];exact .inl ⟨7,rfl,rfl⟩

theorem Azo {x:Nat->Rat} {u w:Bool->Nat->Rat} {R:(Bool->Q4)->Prop} (h:G5 x u w R) {f g:Q4->Bool} (hfg:∀ p,R p->f (p true) = g (p false)) (hv:∀ p,R p->(p true).f = (p false).f) (ns:List Nd) :
  (∃ c,E9 f x (u true) (w true) ns [] = .inr c /\ E9 g x (u false) (w false) ns [] = .inr c) \/
  ∃ l' m',E9 f x (u true) (w true) ns [] = .inl l' /\ E9 g x (u false) (w false) ns [] = .inl m' /\ l'.length = ns.length /\ m'.length = ns.length /\ ∀ k,R fun b=>bif b then l'.getD k (Q4.cst 0) else m'.getD k (Q4.cst 0):=by
 have:=Ala h hfg hv ns [] [] rfl (fun k=>by
  have e:(fun b:Bool=>bif b then ([]:List Q4).getD k (Q4.cst 0) else ([]:List Q4).getD k (Q4.cst 0)) = fun _=>Q4.cst 0:=by funext b;cases b <;> simp
  rw [e];exact h.cst 0)
 simpa using this

theorem Aq8 (x V:Nat->Rat):G5 x (fun b:Bool=>bif b then V else fun _=>0) (fun b:Bool=>bif b then fun _=>0 else V) (fun p=>(p true).f = (p false).f /\ (p true).a = (p false).v /\ ((p true).v = 0 /\ (p true).c = 0)):=by
 refine ⟨fun _=>⟨rfl,rfl,rfl,rfl⟩,fun _=>⟨rfl,rfl,rfl,rfl⟩,?_,?_,?_,?_⟩
 . rintro p q ⟨h1,h2,h3,h4⟩ ⟨g1,g2,g3,g4⟩
   simp only [Q4.add,h1,h2,h3,h4,g1,g2,g3,g4]
   exact ⟨trivial,trivial,by grind,by grind⟩
 . rintro p ⟨h1,h2,h3,h4⟩
   simp only [Q4.neg,h1,h2,h3,h4]
   exact ⟨trivial,trivial,by grind,by grind⟩
 . rintro p q ⟨h1,h2,h3,h4⟩ ⟨g1,g2,g3,g4⟩
   simp only [Q4.mul,h1,h2,h3,h4,g1,g2,g3,g4]
   exact ⟨trivial,trivial,by grind,by grind⟩
 . rintro p ⟨h1,h2,h3,h4⟩
   simp only [Q4.inv,h1,h2,h3,h4]
   exact ⟨trivial,trivial,by grind,by grind⟩

def B5b (n:Nd):Bool:=decide (n.1 = 3) || decide (n.1 = 4) || decide (n.1 = 5) || decide (n.1 = 6)

def Bb9 (n:Nd):Bool:=decide (n.1 = 7) || decide (n.1 = 8)

def Bbs (n:Nd) (k:Nat):Prop:=(1 <= n.1 /\ n.1 <= 8) /\ (B5b n = true \/ Bb9 n = true->n.2.1.toNat < k) /\ (B5b n = true->n.2.2.1.toNat < k)

theorem iPl {n L K:Nat} {x y:Rat} (hx:Sz x L) (hy:Sz y K) (hL:L + K <= 1000000000) (hn:68719476736 <= n):f161 n (rq x) (rq y) = some (rq (x + y)):=B5u (L:=L + K) (hx.mono (by omega)) (hy.mono (by omega)) (by omega) (by omega)

theorem U1 {n L K:Nat} {x y:Rat} (hx:Sz x L) (hy:Sz y K) (hL:L + K <= 1000000000) (hn:68719476736 <= n):f178 n (rq x) (rq y) = some (rq (x * y)):=B1w (L:=L + K) (hx.mono (by omega)) (hy.mono (by omega)) (by omega) (by omega)

theorem iOv {n L K:Nat} {x y:Rat} (hx:Sz x L) (hy:Sz y K) (h0:y ≠ 0) (hL:L + K <= 1000000000) (hn:68719476736 <= n):f223 n (rq x) (rq y) = some (rq (x / y)):=B5v (L:=L + K) (hx.mono (by omega)) (hy.mono (by omega)) h0 (by omega) (by omega)

theorem iNg {n L:Nat} {x:Rat} (hx:Sz x L) (hL:L <= 1000000000):f206 n (rq x) = some (rq (-x)):=B9u hx (by omega)

theorem sPl {n L K:Nat} {x y:Rat} (hx:Sz x L) (hy:Sz y K) (hL:L + K <= 1000000000) (hn:68719476736 <= n):f148 n (rq x) (rq y) = some (rq (x + y)):=Aq0 (L:=L + K) (hx.mono (by omega)) (hy.mono (by omega)) (by omega) (by omega)

theorem K8 {n L K:Nat} {x y:Rat} (hx:Sz x L) (hy:Sz y K) (hL:L + K <= 1000000000) (hn:68719476736 <= n):f150 n (rq x) (rq y) = some (rq (x * y)):=B1c (L:=L + K) (hx.mono (by omega)) (hy.mono (by omega)) (by omega) (by omega)

theorem sOv {n L K:Nat} {x y:Rat} (hx:Sz x L) (hy:Sz y K) (h0:y ≠ 0) (hL:L + K <= 1000000000) (hn:68719476736 <= n):f151 n (rq x) (rq y) = some (rq (x / y)):=B5g (L:=L + K) (hx.mono (by omega)) (hy.mono (by omega)) h0 (by omega) (by omega)

theorem sLs {n L K:Nat} {x y:Rat} (hx:Sz x L) (hy:Sz y K) (hL:L + K <= 1000000000) (hn:68719476736 <= n):f149 n (rq x) (rq y) = some (rq (x - y)):=B5h (L:=L + K) (hx.mono (by omega)) (hy.mono (by omega)) (by omega) (by omega)

theorem G3 {a:Int} (h:a.natAbs <= 1000000000):Sz (a:Rat) 3:=by
 unfold Sz;rw [Rat.num_intCast,Rat.den_intCast]
 exact ⟨Kd (by omega),Kd (by omega)⟩

theorem iW {n:Nat} {a:Int} (h:a.natAbs <= 1000000000) (hn:68719476736 <= n):f126 n a = some (rq (a:Rat)):=by
 unfold f126;rw [QJ,Aq4];by_cases h0:a < 0
 . rw [QK h0,Ae (by omega) (by omega),show (0 - a:Int) = ((a.natAbs:Nat):Int) by omega,A81 (by omega) (by omega),A2,show f180 n = some [1] from rfl,A2,ZL h0,In]
 . rw [QH h0]
   conv=>lhs;rw [show a = ((a.natAbs:Nat):Int) by omega]
   rw [A81 (by omega) (by omega),A2,show f180 n = some [1] from rfl,A2,ZB h0,In]

theorem iW0 {n:Nat} (hn:68719476736 <= n):f126 n 0 = some (rq 0):=iW (a:=0) (by omega) hn

theorem iW1 {n:Nat} (hn:68719476736 <= n):f126 n 1 = some (rq 1):=iW (a:=1) (by omega) hn

theorem iW2 {n:Nat} (hn:68719476736 <= n):f126 n 2 = some (rq 2):=iW (a:=2) (by omega) hn

theorem iWm {n:Nat} (hn:68719476736 <= n):f126 n (-1) = some (rq (-1)):=iW (a:=-1) (by omega) hn

theorem B1a (a:Int) (i:Nat):(!(decide (a ^ i < 0) == decide (a < 0))) = decide (a ^ (i + 1) < 0):=by
 rw [Int.pow_succ];by_cases h0:a = 0
 . subst h0
   have:¬ (0:Int) ^ i < 0:=by cases i with | zero=>decide | succ i=>rw [Int.pow_succ,Qac];decide
   rw [Qac,ZB this];rfl
 . have hp:a ^ i ≠ 0:=Int.pow_ne_zero h0;generalize a ^ i = p at hp;rcases Int.lt_trichotomy p 0 with ha | ha | ha <;> rcases Int.lt_trichotomy a 0 with hb | hb | hb
   . have:=Int.mul_pos_of_neg_of_neg ha hb
     rw [ZL ha,ZL hb,ZB (by omega)];rfl
   . exact absurd hb h0
   . have:=Int.mul_neg_of_neg_of_pos ha hb
     rw [ZL ha,ZB (by omega),ZL this];rfl
   . exact absurd ha hp
   . exact absurd ha hp
   . exact absurd ha hp
   . have:=Int.mul_neg_of_pos_of_neg ha hb
     rw [ZB (show ¬ p < 0 by omega),ZL hb,ZL this];rfl
   . exact absurd hb h0
   . have:=Int.mul_pos ha hb
     rw [ZB (show ¬ p < 0 by omega),ZB (show ¬ a < 0 by omega),ZB (by omega)];rfl

theorem Pc (a L:Nat) (h:(dg a).length <= L):∀ i,(dg (a ^ i)).length <= L * i + 1
 | 0=>by rw [Nat.pow_zero];exact ZN (A6l (by decide)) (by omega)
 | i + 1=>by
  have h1:=B9 (a ^ i) a;have h2:=Pc a L h i;rw [KL,Nat.mul_succ];omega

theorem Ad5 {α:Type} {n L k:Nat} {x:Rat} (hx:Sz x L) (hL:L <= 10000000) (hk:k <= 10) (hn:68719476736 <= n) {k0:Bool->Bool->List Int->List Int->Option α}:∀ (m i:Nat),i <= k->k < i + m ->
  Pu n m (k:Int) (i:Int) (rq x).1 (rq x).2.1 (rq x).2.2 false (decide (x.num ^ i < 0)) (dg (x.num.natAbs ^ i)) (dg (x.den ^ i)) k0 = k0 false (decide (x.num ^ k < 0)) (dg (x.num.natAbs ^ k)) (dg (x.den ^ k))
 | 0,i,hi,hm=>by omega
 | m + 1,i,hi,hm=>by
  rw [Ato];unfold A1x;rw [QJ];by_cases h:i < k
  . have l1:=Pc x.num.natAbs L hx.1 i;have l2:=Pc x.den L hx.2 i;have h1:=hx.1;have h2:=hx.2
    have h3:L * i <= L * 10:=KC _ (by omega)
    rw [QK (by omega)]
    show ob (f200 n (dg (x.num.natAbs ^ i)) (dg x.num.natAbs)) _ = _
    rw [Lf (by omega) (by omega),A2]
    show ob (f200 n (dg (x.den ^ i)) (dg x.den)) _ = _
    rw [Lf (by omega) (by omega),A2,Ae (x:=(i:Int) + 1) (by omega) (by omega),<- KL,<- KL]
    show Pu n m (k:Int) ((i + 1:Nat):Int) (rq x).1 (rq x).2.1 (rq x).2.2 false (!(decide (x.num ^ i < 0) == decide (x.num < 0))) _ _ k0 = _;rw [B1a]
    exact Ad5 hx hL hk hn m (i + 1) (by omega) (by omega)
  . obtain rfl:i = k:=by omega
    rw [QH (by omega)]

theorem Ado {n L k:Nat} {x:Rat} (hx:Sz x L) (hL:L <= 10000000) (hk:k <= 10) (hn:68719476736 <= n):f197 n (rq x) (k:Int) = some (rq (x ^ k)):=by
 unfold f197;rw [iW1 hn,A2]
 have h1:=Ad5 (n:=n) hx hL hk hn (k0:=fun m f b c=>(
   bif f then
    ob (f195 n (f,b,c)) fun e =>
    ob (f195 n ((!e),b,c)) fun g =>
    bif g then
     ob (f180 n) fun i =>
     some ((!e),b,i)
    else
     some ((!e),b,c)
   else
    ob (f195 n (false,b,c)) fun j =>
    bif j then
     ob (f180 n) fun l =>
     some (false,b,l)
    else
     some (false,b,c))) n 0 (by omega) (by omega)
 rw [Int.pow_zero,Nat.pow_zero,Nat.pow_zero,show decide ((1:Int) < 0) = false from rfl,show ((0:Nat):Int) = 0 from rfl] at h1;rw [show rq 1 = (false,dg 1,dg 1) from Aq3 1,h1]
 have f195e:∀ (s:Bool) (a d:Nat),f195 n (s,dg a,dg d) = some (decide (a = 0)):=fun s a d=>by
  unfold f195;dsimp only;rw [A5q]
 have key:rq (x ^ k) = (decide (x.num ^ k < 0),dg (x.num.natAbs ^ k),dg (x.den ^ k)):=by
  unfold rq;rw [Rat.num_pow,Rat.den_pow,Int.natAbs_pow]
 have hz:x.num.natAbs ^ k = 0->x.den ^ k = 1:=fun h=>by
  rcases YZ k with h2 | h2
  . subst h2;rfl
  . have h3:x.num.natAbs = 0:=(Nat.pow_eq_zero.1 h).1
    have:x = 0:=KR.1 (by omega)
    rw [this];exact Nat.one_pow k
 have hs:x.num.natAbs ^ k = 0->¬ x.num ^ k < 0:=fun h=>by rw [<- Int.natAbs_pow] at h;omega
 rw [key];by_cases h2:x.num ^ k < 0
 . rw [ZL h2,ZM,f195e,A2,f195e,A2];have h3:¬ x.num.natAbs ^ k = 0:=fun h=>hs h h2;rw [ZB h3];rfl
 . rw [ZB h2,QW,f195e,A2];by_cases h3:x.num.natAbs ^ k = 0
   . rw [ZL h3,ZM,show f180 n = some [1] from rfl,A2,hz h3,In]
   . rw [ZB h3];rfl

abbrev Jc:=Rt × List Rt × List Rt × Rt

def jc (f v:Rat):Jc:=(rq f,[],[],rq v)

theorem Bbd {n:Nat} (hn:68719476736 <= n):f100 n 0 = some []:=by
 obtain ⟨m,rfl⟩:∃ m,n = m + 1:=⟨n - 1,by omega⟩
 rfl

theorem B9w {n:Nat} (hn:68719476736 <= n):Ac4 n 0 = some []:=by
 obtain ⟨m,rfl⟩:∃ m,n = m + 1:=⟨n - 1,by omega⟩
 rfl

theorem Axj {n:Nat} (hn:68719476736 <= n):f76 n [] = some ([],0):=by
 have:=B5w (n:=n) (x:=[]) (by simp) (by omega)
 exact this

theorem A62 {x:Rat} {L:Nat} (h:Sz x L) (k:Nat):Sz (x ^ k) (L * k + 1):=by
 unfold Sz;rw [Rat.num_pow,Rat.den_pow,Int.natAbs_pow];exact ⟨Pc _ _ h.1 k,Pc _ _ h.2 k⟩

theorem Bax {x:Rat} {L k:Nat} (h:Sz x L) (hk:k <= 8):Sz (Q4.d1 x k) (L * 8 + 5):=by
 cases k with
 | zero=>exact Jv.mono (by omega)
 | succ k =>
  have h1:=Aq (A62 h k) (G3 (a:=((k + 1:Nat):Int)) (by omega))
  have:L * k <= L * 8:=KC _ (by omega)
  exact h1.mono (by omega)

def Bo (V:List Rat) (k:Nat):Rat:=V.getD k 0

theorem Axf {n:Nat} {f:Rat} {V:List Rat} (hV:0 < V.length) (hn:68719476736 <= n):Ac2 n (0,vq V) (rq f) = some (jc f 0):=by
 unfold Ac2;dsimp only
 rw [Bbd hn,A2,iW0 hn,A2,A4 (by simp [vq];intro e;rw [e] at hV;simp at hV),A2];rfl

theorem Ajr {n L K:Nat} {f g v w:Rat} (hf:Sz f L) (hg:Sz g L) (hv:Sz v K) (hw:Sz w K) (hL:L <= 1000) (hK:K <= 100000000) (hn:68719476736 <= n):Ll n (jc f v) (jc g w) = some (jc (f + g) (v + w)):=by
 unfold Ll jc;dsimp only
 rw [iPl hf hg (by omega) hn,A2,iPl hv hw (by omega) hn,A2];rfl

theorem B0h {n L K:Nat} {f v k:Rat} (hf:Sz f L) (hv:Sz v K) (hk:Sz k 10) (hL:L <= 1000) (hK:K <= 100000000) (hn:68719476736 <= n):Lk n (jc f v) (rq k) = some (jc (f * k) (v * k)):=by
 unfold Lk jc;dsimp only
 rw [U1 hf hk (by omega) hn,A2,U1 hv hk (by omega) hn,A2];rfl

theorem Adl {n L K:Nat} {f g v w:Rat} (hf:Sz f L) (hg:Sz g L) (hv:Sz v K) (hw:Sz w K) (hL:L <= 1000) (hK:K <= 100000000) (hn:68719476736 <= n):Lj n (jc f v) (jc g w) = some (jc (f * g) (v * g + f * w)):=by
 unfold Lj jc;dsimp only
 rw [U1 hf hg (by omega) hn,A2,U1 hv hg (by omega) hn,A2,U1 hf hw (by omega) hn,A2,iPl (Aq hv hg) (Aq hf hw) (by omega) hn,A2];rfl

theorem Adn {n L K:Nat} {f v g d:Rat} {e:Rt} (hd:Sz d L) (hv:Sz v K) (hL:L <= 100000) (hK:K <= 100000000) (hn:68719476736 <= n):Y4 n (jc f v) (rq g) (rq d) e = some (jc g (d * v)):=by
 unfold Y4 jc;dsimp only
 rw [U1 hd hv (by omega) hn,A2];rfl

theorem B5s {n L K:Nat} {f v:Rat} (hf:Sz f L) (h0:f ≠ 0) (hv:Sz v K) (hL:L <= 1000) (hK:K <= 100000000) (hn:68719476736 <= n):Yd n (jc f v) = some (jc (1 / f) (-(1 / f * (1 / f)) * v)):=by
 have h1:=A8s (G3 (a:=1) (by omega)) hf h0
 have h1:Sz (1 / f) (3 + L + 1):=h1;have h2:=Aq h1 h1;have h3:=Aq h2 h1
 have t2:f178 n (rq (1 / f * (1 / f) * (1 / f))) (rq 2) = some (rq (1 / f * (1 / f) * (1 / f) * 2)):=U1 h3 (G3 (a:=2) (by omega)) (by omega) hn
 unfold Yd
 rw [iW1 hn,A2,show (jc f v).1 = rq f from rfl,iOv (A63 (L:=1) (by omega)) hf h0 (by omega) hn,A2,U1 h1 h1 (by omega) hn,A2,iNg h2 (by omega),A2,U1 h2 h1 (by omega) hn,A2,iW2 hn,A2,t2,A2]
 have:=Adn (n:=n) (f:=f) (g:=1 / f) (e:=rq (1 / f * (1 / f) * (1 / f) * 2)) (H6 h2) hv (by omega) hK hn
 have this:Y4 n (jc f v) (rq (1 / f)) (rq (-(1 / f * (1 / f)))) (rq (1 / f * (1 / f) * (1 / f) * 2)) = _:=this;rw [this,A2]

theorem Ar2 {n L k:Nat} {f:Rat} {v:Rat} (hf:Sz f L) (hL:L <= 1000) (hk:k <= 8) (hn:68719476736 <= n):Ac0 n (jc f v) (k:Int) = some (rq (Q4.d1 f k),rq (Q4.d2 f k)):=by
 unfold Ac0;rw [iW0 hn,A2,A2];dsimp only;rw [show (jc f v).1 = rq f from rfl]
 match k with
 | 0=>rfl
 | 1 =>
  rw [show decide (((1:Nat):Int) >= 1) = true from rfl,ZM,show W (((1:Nat):Int) - 1) = ((0:Nat):Int) from rfl,Ado hf (by omega) (by omega) hn,A2,iW (by omega) hn,A2,U1 (A62 hf 0) (G3 (a:=((1:Nat):Int)) (by omega)) (by omega) hn,A2]
  rfl
 | k + 2 =>
  have h2:(k + 2) * (k + 1) <= 8 * 8:=KH (by omega) (by omega)
  have l1:L * (k + 1) <= L * 8:=KC _ (by omega)
  have l2:L * k <= L * 8:=KC _ (by omega)
  rw [QJ,QK (by omega),Ae (x:=((k + 2:Nat):Int) - 1) (by omega) (by omega),show ((k + 2:Nat):Int) - 1 = ((k + 1:Nat):Int) by omega,Ado hf (by omega) (by omega) hn,A2,iW (by omega) hn,A2,
   U1 (A62 hf (k + 1)) (G3 (a:=((k + 2:Nat):Int)) (by omega)) (by omega) hn,A2,QJ,QK (by omega),
   Ae (x:=((k + 2:Nat):Int) - 2) (by omega) (by omega),show ((k + 2:Nat):Int) - 2 = ((k:Nat):Int) by omega,Ado hf (by omega) (by omega) hn,A2,show ((k + 2:Nat):Int) * ((k + 1:Nat):Int) = (((k + 2) * (k + 1):Nat):Int) by rw [YD],
   Ae (x:=(((k + 2) * (k + 1):Nat):Int)) (by omega) (by omega),iW (by rw [KG];omega) hn,A2,U1 (A62 hf k) (G3 (a:=(((k + 2) * (k + 1):Nat):Int)) (by rw [KG];omega)) (by omega) hn,A2]
  rfl

theorem Axd {n L K k:Nat} {f v:Rat} (hf:Sz f L) (hv:Sz v K) (hL:L <= 1000) (hK:K <= 100000000) (hk:k <= 8) (hn:68719476736 <= n):Yb n (jc f v) (k:Int) = some (jc (f ^ k) (Q4.d1 f k * v)):=by
 unfold Yb
 rw [Ar2 hf hL hk hn,A2,show (jc f v).1 = rq f from rfl,Ado hf (by omega) (by omega) hn,A2]
 have:=Adn (n:=n) (f:=f) (g:=f ^ k) (e:=rq (Q4.d2 f k)) (Bax hf hk) hv (by omega) hK hn
 dsimp only;rw [this,A2]

theorem B1r {n:Nat} {f v:Rat} (hn:68719476736 <= n):A59 n (jc f v) = some (C6 f && C6 v):=by
 unfold A59 jc;dsimp only;rw [Axj hn,A2,A2,Amh,A2,Amh]
 cases C6 f <;> cases C6 v <;> rfl

theorem B5r {n:Nat} {f:Rat} {k:Int} {V:List Rat} (hk:0 <= k /\ k < V.length) (hn:68719476736 <= n):Ac1 n (0,vq V) (rq f) k = some (jc f (V.getD k.toNat 0)):=by
 unfold Ac1 Ag7;dsimp only
 rw [B9w hn,A2,iW0 hn,A2,A4 (by simp [vq];intro e;rw [e] at hk;simp at hk;omega),A2,A2,QJ,QH (by omega),A4 (by simp [vq];intro e;rw [e] at hk;simp at hk;omega),A4 (by simp;omega),P2 (by omega)];rfl

def Ap (q:Q4):Jc:=jc q.f q.v

theorem Adm {l:List Q4} {k:Nat} (h:k < l.length):(l.map Ap).getD k ((false,[],[]),[],[],(false,[],[])) = Ap (l.getD k (Q4.cst 0)):=by
 simp [QI,QN h]

structure B13 (l:List Q4) (K:Nat):Prop where
 f:∀ k,Sz (l.getD k (Q4.cst 0)).f 40
 v:∀ k,Sz (l.getD k (Q4.cst 0)).v K

theorem Axe {n K:Nat} {X V:List Rat} {l:List Q4} {x:Nod} (hx:Do x l.length) (hd:x.1 = 2->x.2.2.2 < X.length /\ x.2.2.2 < V.length) (hV:0 < V.length) (hs:B13 l K) (hK:K <= 90000000) (hn:68719476736 <= n) :
  A5a n (0,vq V) x (vq X) (l.map Ap) = some ((if x.1 = 6 /\ (l.getD x.2.2.1.toNat (Q4.cst 0)).f = 0 then (((false,[],[]),[],[],(false,[],[])),10) else if x.1 = 8 /\ C6 ((l.getD x.2.1.toNat (Q4.cst 0)).f ^ x.2.2.2.toNat) = false then (((false,[],[]),[],[],(false,[],[])),7) else (Ap (Bs (Bo X) (fun _=>0) (Bo V) l x),0)),l.map Ap):=by
 obtain ⟨op,A,B,N⟩:=x;obtain ⟨⟨o1,o2⟩,hN,hA,hB⟩:=hx;unfold A5a;simp only [A8c,A2];unfold Or at hN;unfold Dt at hA hB ⊢;unfold Bs;dsimp only at *
 obtain rfl | rfl | rfl | rfl | rfl | rfl | rfl | rfl:op = 1 \/ op = 2 \/ op = 3 \/ op = 4 \/ op = 5 \/ op = 6 \/ op = 7 \/ op = 8:=by omega
 . simp only [Int.reduceEq,or_self,if_false,if_true,Int.reduceBEq,ZM,QW,Int.reduceLT,gt_iff_lt,decide_false,false_and] at *
   rw [iW (by omega) hn,A2,Axf hV hn,A2];rfl
 . simp only [Int.reduceEq,or_self,if_false,if_true,Int.reduceBEq,ZM,QW,Int.reduceLT,gt_iff_lt,decide_false,false_and] at *;have hd:=hd trivial
   rw [Gp,A4 (by simp;omega),P2 (by omega),B5r (V:=V) ⟨hN.1,hd.2⟩ hn,A2];rfl
 all_goals simp only [Int.reduceEq,or_self,or_true,true_or,if_false,if_true,Int.reduceBEq,ZM,QW,Int.reduceLT,gt_iff_lt,decide_true,false_and,true_and] at *
 all_goals (have lA:A.toNat < l.length:=by omega)
 all_goals (have lB:B.toNat < l.length:=by omega)
 all_goals (rw [ZH,A4 (by simp;omega),A4 (by simp;omega),A4 (by simp;omega),A4 (by simp;omega),Adm lA])
 all_goals (try rw [Adm lB])
 all_goals (have a1:=hs.f A.toNat;have a2:=hs.v A.toNat;have b:=hs.f B.toNat;have d:=hs.v B.toNat)
 all_goals (generalize hP:l.getD A.toNat (Q4.cst 0) = P at a1 a2 ⊢;generalize hQ:l.getD B.toNat (Q4.cst 0) = Q at b d ⊢)
 . have e:Ll n (Ap P) (Ap Q) = _:=Ajr a1 b a2 d (by omega) (by omega) hn
   have e:Ll n (((Ap P).1.1,(Ap P).1.2.1,(Ap P).1.2.2),(Ap P).2.1,(Ap P).2.2.1,(Ap P).2.2.2.1,(Ap P).2.2.2.2.1,(Ap P).2.2.2.2.2) (((Ap Q).1.1,(Ap Q).1.2.1,(Ap Q).1.2.2),(Ap Q).2.1,(Ap Q).2.2.1,(Ap Q).2.2.2.1,(Ap Q).2.2.2.2.1,(Ap Q).2.2.2.2.2) = some _:=e;rw [e,A2];rfl
 . have e:Lk n (Ap Q) (rq (-1)) = _:=B0h b d (G3 (a:=-1) (by omega) |>.mono (by omega)) (by omega) (by omega) hn
   have e:Lk n (((Ap Q).1.1,(Ap Q).1.2.1,(Ap Q).1.2.2),(Ap Q).2.1,(Ap Q).2.2.1,(Ap Q).2.2.2.1,(Ap Q).2.2.2.2.1,(Ap Q).2.2.2.2.2) (rq (-1)) = some _:=e
   have e2:Ll n (Ap P) (jc (Q.f * -1) (Q.v * -1)) = _:=Ajr (L:=60) (K:=K + 5) (a1.mono (by omega)) ((Aq b (G3 (a:=-1) (by omega))).mono (by omega)) (a2.mono (by omega)) ((Aq d (G3 (a:=-1) (by omega))).mono (by omega)) (by omega) (by omega) hn
   have e2:Ll n (((Ap P).1.1,(Ap P).1.2.1,(Ap P).1.2.2),(Ap P).2.1,(Ap P).2.2.1,(Ap P).2.2.2.1,(Ap P).2.2.2.2.1,(Ap P).2.2.2.2.2) (jc (Q.f * -1) (Q.v * -1)) = some _:=e2;rw [iWm hn,A2,e,A2,e2,A2,Rat.mul_neg,Rat.mul_one,Rat.mul_neg,Rat.mul_one];rfl
 . have e:Lj n (Ap P) (Ap Q) = _:=Adl a1 b a2 d (by omega) (by omega) hn
   have e:Lj n (((Ap P).1.1,(Ap P).1.2.1,(Ap P).1.2.2),(Ap P).2.1,(Ap P).2.2.1,(Ap P).2.2.2.1,(Ap P).2.2.2.2.1,(Ap P).2.2.2.2.2) (((Ap Q).1.1,(Ap Q).1.2.1,(Ap Q).1.2.2),(Ap Q).2.1,(Ap Q).2.2.1,(Ap Q).2.2.2.1,(Ap Q).2.2.2.2.1,(Ap Q).2.2.2.2.2) = some _:=e;rw [e,A2];rfl
 . have z:f195 n (rq Q.f) = _:=B5t;have z:f195 n ((rq Q.f).1,(rq Q.f).2.1,(rq Q.f).2.2) = _:=z;have z:f195 n ((Ap Q).1.1,(Ap Q).1.2.1,(Ap Q).1.2.2) = _:=z;rw [z,A2,QJ];by_cases h0:Q.f = 0
   . rw [QK h0,QK h0]
   . rw [QH h0,QH h0]
     have e:Yd n (Ap Q) = _:=B5s b h0 d (by omega) (by omega) hn
     have e:Yd n (((Ap Q).1.1,(Ap Q).1.2.1,(Ap Q).1.2.2),(Ap Q).2.1,(Ap Q).2.2.1,(Ap Q).2.2.2.1,(Ap Q).2.2.2.2.1,(Ap Q).2.2.2.2.2) = some _:=e
     have g:Sz (1 / Q.f) (3 + 40 + 1):=A8s (G3 (a:=1) (by omega)) b h0
     have e2:Lj n (Ap P) (jc (1 / Q.f) (-(1 / Q.f * (1 / Q.f)) * Q.v)) = _:=Adl (L:=60) (K:=K + 100) (a1.mono (by omega)) (g.mono (by omega)) (a2.mono (by omega)) ((Aq (H6 (Aq g g)) d).mono (by omega)) (by omega) (by omega) hn
     have e2:Lj n (((Ap P).1.1,(Ap P).1.2.1,(Ap P).1.2.2),(Ap P).2.1,(Ap P).2.2.1,(Ap P).2.2.2.1,(Ap P).2.2.2.2.1,(Ap P).2.2.2.2.2) (jc (1 / Q.f) (-(1 / Q.f * (1 / Q.f)) * Q.v)) = some _:=e2;rw [e,A2,e2,A2]
     have c:P.v * (1 / Q.f) + P.f * (-(1 / Q.f * (1 / Q.f)) * Q.v) = (Q4.mul P (Q4.inv Q)).v:=by
      simp only [Q4.mul,Q4.inv];generalize 1 / Q.f = r;grind
     rw [c];rfl
 . have e:Lk n (Ap P) (rq (-1)) = _:=B0h a1 a2 (G3 (a:=-1) (by omega) |>.mono (by omega)) (by omega) (by omega) hn
   have e:Lk n (((Ap P).1.1,(Ap P).1.2.1,(Ap P).1.2.2),(Ap P).2.1,(Ap P).2.2.1,(Ap P).2.2.2.1,(Ap P).2.2.2.2.1,(Ap P).2.2.2.2.2) (rq (-1)) = some _:=e;rw [iWm hn,A2,e,A2,Rat.mul_neg,Rat.mul_one,Rat.mul_neg,Rat.mul_one];rfl
 . obtain ⟨N',rfl⟩:∃ N':Nat,N = (N':Int):=⟨N.toNat,by omega⟩
   have e0:f197 n (rq P.f) (N':Int) = _:=Ado a1 (by omega) (by omega) hn
   have e0:f197 n ((Ap P).1.1,(Ap P).1.2.1,(Ap P).1.2.2) (N':Int) = some _:=e0
   have e:Yb n (Ap P) (N':Int) = _:=Axd a1 a2 (by omega) (by omega) (by omega) hn
   have e:Yb n (((Ap P).1.1,(Ap P).1.2.1,(Ap P).1.2.2),(Ap P).2.1,(Ap P).2.2.1,(Ap P).2.2.2.1,(Ap P).2.2.2.2.1,(Ap P).2.2.2.2.2) (N':Int) = some _:=e;rw [e0,A2,Amh,A2,QS]
   cases hfit:C6 (P.f ^ N') with
   | false=>simp only [ZX,ZM,if_true]
   | true =>
    simp only [ZO,QW,Bool.true_eq_false,if_false];rw [e,A2,Q4.pow_eq];rfl

structure Gh (q:Q4) (L:Nat):Prop where
 f:Sz q.f L
 a:Sz q.a L
 v:Sz q.v L
 c:Sz q.c L

theorem Gh.mono {q:Q4} {L K:Nat} (h:Gh q L) (hK:L <= K):Gh q K:=⟨h.f.mono hK,h.a.mono hK,h.v.mono hK,h.c.mono hK⟩

theorem B59 {r:Rat} {L:Nat} (h:Sz r L) (h1:1 <= L):Gh (Q4.cst r) L:=⟨h,Jv.mono h1,Jv.mono h1,Jv.mono h1⟩

theorem B57 {p q:Q4} {L K:Nat} (hp:Gh p L) (hq:Gh q K):Gh (Q4.mul p q) (4 * (L + K) + 7):=by
 refine ⟨(Aq hp.f hq.f).mono (by omega),(Hy (Aq hp.a hq.f) (Aq hp.f hq.a)).mono (by omega),(Hy (Aq hp.v hq.f) (Aq hp.f hq.v)).mono (by omega),?_⟩
 exact (Hy (Hy (Aq hp.c hq.f) (Aq hp.f hq.c)) (Hy (Aq hp.a hq.v) (Aq hp.v hq.a))).mono (by omega)

theorem B56 {p:Q4} {L:Nat} (hp:Gh p L):Gh (Q4.neg p) L:=⟨H6 hp.f,H6 hp.a,H6 hp.v,H6 hp.c⟩

theorem Awd {x:Rat} {L:Nat} (h:Sz x L) (h0:x ≠ 0):Sz (1 / x) (L + 4):=(A8s (A63 (L:=1) (by omega)) h h0).mono (by omega)

theorem B58 {p:Q4} {L:Nat} (hp:Gh p L) (h0:p.f ≠ 0):Gh (Q4.inv p) (8 * L + 60):=by
 have r:=Awd hp.f h0;have r2:=Aq r r;have r3:=Aq r2 r
 have t3:=Aq (show Sz 2 1 from Ahm (c:=2) (by omega)) r3
 refine ⟨r.mono (by omega),(H6 (Aq hp.a r2)).mono (by omega),(H6 (Aq hp.v r2)).mono (by omega),?_⟩
 show Sz (_ - _) _;rw [Rat.sub_eq_add_neg]
 exact (Hy (Aq t3 (Aq hp.a hp.v)) (H6 (Aq hp.c r2))).mono (by omega)

abbrev Js:=Rt × Rt × Rt × Rt

def S4 (q:Q4):Js:=(rq q.f,rq q.a,rq q.v,rq q.c)

theorem sW0 {n:Nat} (hn:68719476736 <= n):f127 n 0 = some (rq 0):=A3q (a:=0) (by omega) (by omega)

theorem sW1 {n:Nat} (hn:68719476736 <= n):f127 n 1 = some (rq 1):=A3q (a:=1) (by omega) (by omega)

theorem sW2 {n:Nat} (hn:68719476736 <= n):f127 n 2 = some (rq 2):=A3q (a:=2) (by omega) (by omega)

theorem Acv {n:Nat} {r:Rat} (hn:68719476736 <= n):f141 n (rq r) = some (S4 (Q4.cst r)):=by
 unfold f141;rw [sW0 hn,A2,A2,A2];rfl

theorem Aq2 {n L K:Nat} {p q:Q4} (hp:Gh p L) (hq:Gh q K) (hL:L + K <= 100000000) (hn:68719476736 <= n):f142 n (S4 p) (S4 q) = some (S4 (Q4.add p q)):=by
 unfold f142 S4;dsimp only
 rw [sPl hp.f hq.f (by omega) hn,A2,sPl hp.a hq.a (by omega) hn,A2,sPl hp.v hq.v (by omega) hn,A2,sPl hp.c hq.c (by omega) hn,A2];rfl

theorem Aq1 {n:Nat} {p:Q4}:f143 n (S4 p) = some (S4 (Q4.neg p)):=by
 unfold f143 S4;dsimp only;rw [Qr,A2,Qr,A2,Qr,A2,Qr,A2];rfl

theorem Acu {n L K:Nat} {p q:Q4} (hp:Gh p L) (hq:Gh q K) (hL:L + K <= 100000000) (hn:68719476736 <= n):f144 n (S4 p) (S4 q) = some (S4 (Q4.mul p q)):=by
 have e1:=Aq hp.a hq.f;have e2:=Aq hp.f hq.a;have e3:=Aq hp.v hq.f;have e4:=Aq hp.f hq.v;have e5:=Aq hp.c hq.f;have e6:=Aq hp.f hq.c;have e7:=Aq hp.a hq.v;have e8:=Aq hp.v hq.a;unfold f144 S4;dsimp only
 rw [K8 hp.f hq.f (by omega) hn,A2,K8 hp.a hq.f (by omega) hn,A2,K8 hp.f hq.a (by omega) hn,A2,sPl e1 e2 (by omega) hn,A2,
  K8 hp.v hq.f (by omega) hn,A2,K8 hp.f hq.v (by omega) hn,A2,sPl e3 e4 (by omega) hn,A2,
  K8 hp.c hq.f (by omega) hn,A2,K8 hp.f hq.c (by omega) hn,A2,sPl e5 e6 (by omega) hn,A2,
  K8 hp.a hq.v (by omega) hn,A2,K8 hp.v hq.a (by omega) hn,A2,sPl e7 e8 (by omega) hn,A2,sPl (Hy e5 e6) (Hy e7 e8) (by omega) hn,A2];rfl

theorem B5i {n L:Nat} {p:Q4} (hp:Gh p L) (h0:p.f ≠ 0) (hL:L <= 10000000) (hn:68719476736 <= n):f146 n (S4 p) = some (S4 (Q4.inv p)):=by
 have r:=Awd hp.f h0;have r2:=Aq r r;have r3:=Aq r2 r
 have k2:Sz 2 1:=Ahm (c:=2) (by omega)
 have t3:=Aq k2 r3;unfold f146 S4;dsimp only
 rw [sW1 hn,A2,sOv (A63 (L:=1) (by omega)) hp.f h0 (by omega) hn,A2,K8 r r (by omega) hn,A2,sW2 hn,A2,K8 r2 r (by omega) hn,A2,K8 k2 r3 (by omega) hn,A2,
  K8 hp.a r2 (by omega) hn,A2,Qr,A2,K8 hp.v r2 (by omega) hn,A2,Qr,A2,K8 hp.a hp.v (by omega) hn,A2,K8 t3 (Aq hp.a hp.v) (by omega) hn,A2,
  K8 hp.c r2 (by omega) hn,A2,sLs (Aq t3 (Aq hp.a hp.v)) (Aq hp.c r2) (by omega) hn,A2];rfl

def Hi (q:Q4):Bool:=C6 q.f && (C6 q.a && (C6 q.v && C6 q.c))

theorem B1e {n:Nat} {q:Q4}:f147 n (S4 q) = some (Hi q):=by
 unfold f147 S4 Hi;dsimp only;rw [Abq,A2,Abq,Abq,Abq]
 cases C6 q.f <;> cases C6 q.a <;> cases C6 q.v <;> cases C6 q.c <;> rfl

theorem Axk {q:Q4}:Hi q = true ↔ Gh q 40:=by
 unfold Hi;simp only [QE,R1];exact ⟨fun ⟨a,b,c,d⟩=>⟨a,b,c,d⟩,fun h=>⟨h.f,h.a,h.v,h.c⟩⟩

theorem G4 {l:List Q4} {k:Nat} (h:k < l.length):(l.map S4).getD k ((false,[],[]),(false,[],[]),(false,[],[]),(false,[],[])) = S4 (l.getD k (Q4.cst 0)):=by
 simp [QI,QN h]

def pz:Nat->Nat
 | 0=>1
 | j + 1=>4 * (pz j + 40) + 7

theorem B9q:∀ {j:Nat},j <= 8->pz j <= 4000000
 | 0,_=>by decide
 | 1,_=>by decide
 | 2,_=>by decide
 | 3,_=>by decide
 | 4,_=>by decide
 | 5,_=>by decide
 | 6,_=>by decide
 | 7,_=>by decide
 | 8,_=>by decide
 | j + 9,h=>by omega

theorem All {p:Q4} (hp:Gh p 40):∀ j,Gh (Q4.pow p j) (pz j)
 | 0=>B59 (A63 (L:=1) (by omega)) (QY _)
 | j + 1=>B57 (All hp j) hp

theorem A3s {α:Type} {n N A:Nat} {X U V:List Rt} {i op B:Int} {e:List Nod} {l:List Q4} (hA:A < l.length) (hP:Gh (l.getD A (Q4.cst 0)) 40) (hN:N <= 8) (hn:68719476736 <= n)
  {k0:List Rt->List Rt->List Rt->Int->List Nod->Bool->Bool->Bool->Bool->Bool->List Int->List Int->Bool->List Int->List Int->Bool->List Int->List Int->Bool->List Int->List Int->List Js->Option α}:∀ (m j:Nat) (q:Q4),q = Q4.pow (l.getD A (Q4.cst 0)) j->j <= N->N < j + m ->
  Xj n m X U V i (j:Int) e false false false false op (A:Int) B (N:Int) (S4 q).1.1 (S4 q).1.2.1 (S4 q).1.2.2 (S4 q).2.1.1 (S4 q).2.1.2.1 (S4 q).2.1.2.2 (S4 q).2.2.1.1 (S4 q).2.2.1.2.1 (S4 q).2.2.1.2.2 (S4 q).2.2.2.1 (S4 q).2.2.2.2.1 (S4 q).2.2.2.2.2 (l.map S4) k0 =
  (let r:=S4 (Q4.pow (l.getD A (Q4.cst 0)) N);k0 X U V i e false false false false r.1.1 r.1.2.1 r.1.2.2 r.2.1.1 r.2.1.2.1 r.2.1.2.2 r.2.2.1.1 r.2.2.1.2.1 r.2.2.1.2.2 r.2.2.2.1 r.2.2.2.2.1 r.2.2.2.2.2 (l.map S4))
 | 0,j,q,hq,hj,hm=>by omega
 | m + 1,j,q,hq,hj,hm=>by
  rw [Are];unfold A0f;rw [QJ];by_cases h:j < N
  . rw [QK (by omega),ZH,A4 (by simp;omega),QS,A4 (by simp;omega),G4 hA]
    dsimp only;have hz:=All hP j
    have hzl:=B9q (show j <= 8 by omega)
    have e1:f144 n (S4 q) (S4 (l.getD A (Q4.cst 0))) = some (S4 (Q4.mul q (l.getD A (Q4.cst 0)))):=Acu (by rw [hq];exact hz) hP (by omega) hn
    have e1:f144 n (((S4 q).1.1,(S4 q).1.2.1,(S4 q).1.2.2),((S4 q).2.1.1,(S4 q).2.1.2.1,(S4 q).2.1.2.2),((S4 q).2.2.1.1,(S4 q).2.2.1.2.1,(S4 q).2.2.1.2.2),(S4 q).2.2.2.1,(S4 q).2.2.2.2.1,(S4 q).2.2.2.2.2) (S4 (l.getD A (Q4.cst 0))) = _:=e1
    rw [e1,A2,Ae (x:=(j:Int) + 1) (by omega) (by omega)]
    exact A3s hA hP hN hn m (j + 1) _ (by rw [hq];rfl) (by omega) (by omega)
  . obtain rfl:j = N:=by omega
    rw [QH (by omega),hq]

theorem Awu {α:Type} {n:Nat} {X U V:List Rat} {e:List Nod} {l:List Q4} {x:Nod} (hx:Do x l.length) (he:e.getD l.length (0,0,0,0) = x) (hl:l.length < e.length) (hl2:l.length <= 1000) (hd:x.1 = 2->x.2.2.2 < X.length) (hU:U.length = X.length) (hV:V.length = X.length)
  (hs:∀ k,k < l.length->Gh (l.getD k (Q4.cst 0)) 40) (hn:68719476736 <= n)
  {f:List Rt->List Rt->List Rt->Int->List Nod->Bool->Bool->Bool->Bool->List Js->Option α} {k0:Int->Bool->Bool->Bool->Bool->Option α} {k1:Bool->Bool->Bool->Bool->List Js->Option α} :
  Pg n (vq X) (vq U) (vq V) (l.length:Int) e false false false false (l.map S4) f k0 k1 =
   if Ju l x then k0 10 false false false false else if Hi (Bs (Bo X) (Bo U) (Bo V) l x) = true then f (vq X) (vq U) (vq V) ((l.length + 1:Nat):Int) e false false false false ((l ++ [Bs (Bo X) (Bo U) (Bo V) l x]).map S4) else k0 7 false false false false:=by
 have J : ∀ q : Q4, (ob (f147 n (S4 q)) fun a =>
       bif (!a) then
        k0 7 false false false false
       else
        gd (decide (((l.map S4).length + 1) * 224 <= 140737488355328)) (
         f (vq X) (vq U) (vq V) (W ((l.length:Int) + 1)) e false false false false (l.map S4 ++ [S4 q]))) = if Hi q = true then f (vq X) (vq U) (vq V) ((l.length + 1:Nat):Int) e false false false false ((l ++ [q]).map S4) else k0 7 false false false false:=by
  intro q
  rw [B1e,A2,Ae (by omega) (by omega)]
  cases hf:Hi q with
  | false=>rfl
  | true =>
   rw [ZO,QW,A4 (by simp;omega),JZ]
   simp only [if_true];rfl
 obtain ⟨op,A,B,N⟩:=x;obtain ⟨⟨o1,o2⟩,hN,hA,hB⟩:=hx;unfold Pg Ju
 rw [QJ,QK (by omega),A4 (by simp;omega),QS,he,sW0 hn,A2,Acv hn,A2]
 unfold Or at hN;unfold Dt at hA hB;unfold Bs;dsimp only at *
 obtain rfl | rfl | rfl | rfl | rfl | rfl | rfl | rfl:op = 1 \/ op = 2 \/ op = 3 \/ op = 4 \/ op = 5 \/ op = 6 \/ op = 7 \/ op = 8:=by omega
 all_goals simp only [Int.reduceEq,or_self,or_true,true_or,if_false,if_true,Int.reduceBEq,ZM,QW,Int.reduceLT,gt_iff_lt,decide_true,decide_false,false_and,true_and] at *
 . rw [A3q (by omega) (by omega),A2,Acv hn,A2]
   exact J _
 . have hd:=hd trivial
   rw [Gp,Gp,Gp,A4 (by simp;omega),A4 (by simp;omega),A4 (by simp;omega),P2 (by omega),P2 (by omega),P2 (by omega)]
   exact J ⟨Bo X N.toNat,Bo U N.toNat,Bo V N.toNat,0⟩
 all_goals (have lA:A.toNat < l.length:=by omega)
 . have lB:B.toNat < l.length:=by omega
   rw [ZH,A4 (by simp;omega),A4 (by simp;omega),A4 (by simp;omega),A4 (by simp;omega),G4 lA,G4 lB,Aq2 (hs _ lA) (hs _ lB) (by omega) hn,A2]
   have:=J (Q4.add (l.getD A.toNat (Q4.cst 0)) (l.getD B.toNat (Q4.cst 0)));rw [ZH] at this;exact this
 . have lB:B.toNat < l.length:=by omega
   rw [ZH,A4 (by simp;omega),A4 (by simp;omega),A4 (by simp;omega),A4 (by simp;omega),G4 lA,G4 lB,Aq1,A2,Aq2 (hs _ lA) (B56 (hs _ lB)) (by omega) hn,A2]
   have:=J (Q4.add (l.getD A.toNat (Q4.cst 0)) (Q4.neg (l.getD B.toNat (Q4.cst 0))));rw [ZH] at this;exact this
 . have lB:B.toNat < l.length:=by omega
   rw [ZH,A4 (by simp;omega),A4 (by simp;omega),A4 (by simp;omega),A4 (by simp;omega),G4 lA,G4 lB,Acu (hs _ lA) (hs _ lB) (by omega) hn,A2]
   have:=J (Q4.mul (l.getD A.toNat (Q4.cst 0)) (l.getD B.toNat (Q4.cst 0)));rw [ZH] at this;exact this
 . have lB:B.toNat < l.length:=by omega
   rw [ZH,A4 (by simp;omega),A4 (by simp;omega),G4 lB,show f145 n (S4 (l.getD B.toNat (Q4.cst 0))).1 = some (decide ((l.getD B.toNat (Q4.cst 0)).f = 0)) from B5f,A2,QJ]
   by_cases h0:(l.getD B.toNat (Q4.cst 0)).f = 0
   . rw [QK h0,QK h0]
   . rw [QH h0,QH h0,A4 (by simp;omega),A4 (by simp;omega),A4 (by simp;omega),A4 (by simp;omega),G4 lA,B5i (hs _ lB) h0 (by omega) hn,A2,Acu (hs _ lA) (B58 (hs _ lB) h0) (by omega) hn,A2]
     have:=J (Q4.mul (l.getD A.toNat (Q4.cst 0)) (Q4.inv (l.getD B.toNat (Q4.cst 0))));rw [ZH] at this;exact this
 . rw [ZH,A4 (by simp;omega),A4 (by simp;omega),G4 lA,Aq1,A2]
   have:=J (Q4.neg (l.getD A.toNat (Q4.cst 0)));rw [ZH] at this;exact this
 . obtain ⟨N',rfl⟩:∃ N':Nat,N = (N':Int):=⟨N.toNat,by omega⟩
   obtain ⟨A',rfl⟩:∃ A':Nat,A = (A':Int):=⟨A.toNat,by omega⟩
   rw [QS] at lA;rw [sW1 hn,A2,Acv hn,A2]
   have hp:=A3s (n:=n) (N:=N') (A:=A') (X:=vq X) (U:=vq U) (V:=vq V) (i:=(l.length:Int)) (op:=8) (B:=B) (e:=e) (l:=l) lA (hs _ lA) (by omega) hn
    (k0:=fun v w y z d0 d1 d2 d3 d4 b c d g h j m o p r s t u =>
     (ob (f147 n ((b,c,d),(g,h,j),(m,o,p),r,s,t)) fun a =>
     bif (!a) then
      k0 7 false false false false
     else
      gd (decide ((u.length + 1) * 224 <= 140737488355328)) (
       f v w y (W (z + 1)) d0 d1 d2 d3 d4 (u ++ [((b,c,d),(g,h,j),(m,o,p),r,s,t)])))) n 0 (Q4.cst 1) rfl (by omega) (by omega)
   refine hp.trans ?_;exact J (Q4.pow (l.getD A' (Q4.cst 0)) N')

def A8r (e:List Nod) (d:Int):Prop:=∀ k,k < e.length->Do (e.getD k (0,0,0,0)) k /\ ((e.getD k (0,0,0,0)).1 = 2->(e.getD k (0,0,0,0)).2.2.2 < d)

theorem A5p {e:List Nod} {i:Nat} (h:i < e.length):e.drop i = e.getD i (0,0,0,0) :: e.drop (i + 1):=by
 rw [XT h,QI,QN h];rfl

theorem Ajc {α:Type} {n:Nat} {X U V:List Rat} {e:List Nod} (hp:A8r e X.length) (he:e.length <= 60) (hU:U.length = X.length) (hV:V.length = X.length) (hn:68719476736 <= n)
  {k0:Int->Bool->Bool->Bool->Bool->Option α} {k1:Bool->Bool->Bool->Bool->List Js->Option α}:∀ (m:Nat) (l:List Q4),(∀ k,k < l.length->Gh (l.getD k (Q4.cst 0)) 40)->l.length <= e.length->e.length < l.length + m ->
  A49 n m (vq X) (vq U) (vq V) (l.length:Int) e false false false false (l.map S4) k0 k1 = match E9 Hi (Bo X) (Bo U) (Bo V) (e.drop l.length) l with
   | .inl l'=>k1 false false false false (l'.map S4)
   | .inr c=>k0 c false false false false
 | 0,l,hs,hl,hm=>by omega
 | m + 1,l,hs,hl,hm=>by
  rw [Axs];by_cases h:l.length < e.length
  . obtain ⟨h1,h2⟩:=hp _ h
    rw [Awu h1 rfl h (by omega) h2 hU hV hs hn,A5p h,E9]
    by_cases hb:Ju l (e.getD l.length (0,0,0,0))
    . rw [QK hb,QK hb]
    . rw [QH hb,QH hb];generalize hq:Bs (Bo X) (Bo U) (Bo V) l (e.getD l.length (0,0,0,0)) = q;by_cases hf:Hi q = true
      . rw [QK hf,QK hf]
        have:=Ajc hp he hU hV hn (k0:=k0) (k1:=k1) m (l ++ [q]) (fun k hk=>by
         simp only [ZZ,QU,ZG] at hk;rcases XN k l.length with h3 | h3
         . rw [QI,ZA h3,<- QI];exact hs k h3
         . obtain rfl:k = l.length:=by omega
           rw [QI,QZ (QY _)];simpa using Axk.1 hf) (by simp;omega) (by simp;omega)
        rw [ZZ] at this;exact this
      . rw [QH hf,QH hf]
  . have h0:l.length = e.length:=by omega
    unfold Pg
    rw [QJ,QH (by omega),ZF (by omega)]
    rfl

theorem B1f {n:Nat} {X U V:List Rat} {e:List Nod} (hp:A8r e X.length) (h1:1 <= e.length) (he:e.length <= 60) (hU:U.length = X.length) (hV:V.length = X.length) (hn:68719476736 <= n) :
  f89 n e (vq X) (vq U) (vq V) = some (match E9 Hi (Bo X) (Bo U) (Bo V) e [] with
   | .inl l=>(S4 (l.getD (e.length - 1) (Q4.cst 0)),0)
   | .inr c=>(((false,[],[]),(false,[],[]),(false,[],[]),(false,[],[])),c)):=by
 unfold f89
 have:=Ajc (n:=n) hp he hU hV hn (k0:=fun b d f g h=>(
   some ((((d,[],[]),(f,[],[]),(g,[],[]),h,[],[]),b):Js × Int)))
  (k1:=fun j m o p a=>(
   gd (decide (0 <= (W ((a.length:Int) - 1))) && decide ((W ((a.length:Int) - 1)) < (a.length:Int))) (
    gd (decide ((W ((a.length:Int) - 1)).toNat < a.length)) (
     let i:=a.getD ((W ((a.length:Int) - 1)).toNat) ((false,[],[]),(false,[],[]),(false,[],[]),(false,[],[]))
     some (i,0))))) n [] (by simp) (by simp) (by simp;omega)
 refine Eq.trans this ?_;rw [ZG,XG]
 cases hev:E9 Hi (Bo X) (Bo U) (Bo V) e [] with
 | inr c=>rfl
 | inl l =>
  have hl:=(Yu e [] l (fun k hk=>by simp at hk) hev).2
  have hlen:l.length = e.length:=by rw [hl,A8g];simp
  simp only [ZH,hlen]
  rw [Ae (by omega) (by omega),A4 (by simp;omega),A4 (by simp;omega),show ((e.length:Int) - 1).toNat = e.length - 1 by omega,G4 (by omega)]

def Fp (q:Q4):Bool:=C6 q.f && C6 q.v

theorem Apg {l:List Q4} {q:Q4} {k:Nat} (h:k < l.length):(l ++ [q]).getD k (Q4.cst 0) = l.getD k (Q4.cst 0):=by
 simp only [QI,ZA h]

theorem Api {l:List Q4} {q:Q4}:(l ++ [q]).getD l.length (Q4.cst 0) = q:=by
 rw [QI,QZ (QY _)];simp

theorem Aph {l:List Q4} {k:Nat} (h:l.length <= k):l.getD k (Q4.cst 0) = Q4.cst 0:=by
 rw [QI,YW h];rfl

theorem Awy {x u w:Nat->Rat} {l:List Q4} {n:Nod} (h:n.1 = 8):(Bs x u w l n).f = (l.getD n.2.1.toNat (Q4.cst 0)).f ^ n.2.2.2.toNat:=by
 unfold Bs
 rw [QH (by omega),QH (by omega),QH (by omega),QH (by omega),QH (by omega),QH (by omega),QH (by omega),Q4.pow_eq]

theorem B9m {l:List Q4} (h:∀ k,k < l.length->Fp (l.getD k (Q4.cst 0)) = true):B13 l 40:=by
 have key:∀ k,Sz (l.getD k (Q4.cst 0)).f 40 /\ Sz (l.getD k (Q4.cst 0)).v 40:=fun k=>by
  rcases XN k l.length with h1 | h1
  . have:=h k h1;unfold Fp at this;simp only [QE,R1] at this;exact this
  . rw [Aph h1];exact ⟨Jv.mono (by omega),Jv.mono (by omega)⟩
 exact ⟨fun k=>(key k).1,fun k=>(key k).2⟩

theorem Ajs {α:Type} {n:Nat} {X V:List Rat} {e:List Nod} (hp:A8r e X.length) (he:e.length <= 60) (hVX:V.length = X.length) (hV:0 < V.length) (hn:68719476736 <= n)
  {k0:Int->Option α} {k1:List Jc->Option α}:∀ (m:Nat) (l:List Q4),(∀ k,k < l.length->Fp (l.getD k (Q4.cst 0)) = true)->l.length <= e.length->e.length < l.length + m ->
  T3 n m (vq X) e (e.length:Int) (l.length:Int) 0 (vq V) (l.map Ap) k0 k1 = match E9 Fp (Bo X) (fun _=>0) (Bo V) (e.drop l.length) l with
   | .inl l'=>k1 (l'.map Ap)
   | .inr c=>k0 c
 | 0,l,hs,hl,hm=>by omega
 | m + 1,l,hs,hl,hm=>by
  rw [Ap2];unfold Wo;rw [QJ];by_cases h:l.length < e.length
  . obtain ⟨h1,h2⟩:=hp _ h
    rw [QK (by omega),A4 (by simp;omega),QS,A5p h,E9]
    generalize hx:e.getD l.length (0,0,0,0) = x at h1 h2
    have hg:=Axe (n:=n) (X:=X) (V:=V) h1 (fun h=>⟨h2 h,by rw [hVX];exact h2 h⟩) hV (B9m hs) (by omega) hn
    dsimp only
    rw [hg,A2,A4 (by simp)]
    generalize hq:Bs (Bo X) (fun _=>0) (Bo V) l x = q;by_cases hb:Ju l x
    . have hb':x.1 = 6 /\ (l.getD x.2.2.1.toNat (Q4.cst 0)).f = 0:=hb;rw [QK hb,QK hb'];rfl
    . have hb':¬ (x.1 = 6 /\ (l.getD x.2.2.1.toNat (Q4.cst 0)).f = 0):=hb;rw [QH hb,QH hb'];by_cases h8:x.1 = 8 /\ C6 ((l.getD x.2.1.toNat (Q4.cst 0)).f ^ x.2.2.2.toNat) = false
      . rw [QK h8]
        have:Fp q = false:=by
         unfold Fp;rw [<- hq,Awy h8.1,h8.2];rfl
        rw [this,QH (by simp)];rfl
      . rw [QH h8];show (ob (A59 n (jc q.f q.v)) fun a=>_) = _;rw [B1r hn,A2]
        show (bif (!Fp q) then k0 7 else _) = _
        cases hf:Fp q with
        | false=>rfl
        | true =>
         rw [ZO,QW,A4 (by simp;omega),Ae (by omega) (by omega)]
         simp only [if_true]
         have:=Ajs hp he hVX hV hn (k0:=k0) (k1:=k1) m (l ++ [q]) (fun k hk=>by
          simp only [ZZ,QU,ZG] at hk;rcases XN k l.length with h3 | h3
          . rw [Apg h3];exact hs k h3
          . obtain rfl:k = l.length:=by omega
            rw [Api];exact hf) (by simp;omega) (by simp;omega)
         rw [ZZ,JZ] at this;exact this
  . have h0:l.length = e.length:=by omega
    rw [QH (by omega),ZF (by omega)]
    rfl

theorem B1q {n:Nat} {X V:List Rat} {e:List Nod} (hp:A8r e X.length) (he:e.length <= 60) (hVX:V.length = X.length) (hV:0 < V.length) (hn:68719476736 <= n) :
  Ac3 n (0,vq V) e (vq X) = some (match E9 Fp (Bo X) (fun _=>0) (Bo V) e [] with
   | .inl l=>(l.map Ap,0)
   | .inr c=>([],c)):=by
 unfold Ac3
 have:=Ajs (n:=n) hp he hVX hV hn (k0:=fun a=>(some (([],a):List Jc × Int))) (k1:=fun b=>some (b,0)) n [] (by simp) (by simp) (by simp;omega)
 refine Eq.trans this ?_;rw [ZG,XG]
 cases E9 Fp (Bo X) (fun _=>0) (Bo V) e [] <;> rfl

theorem B9t {n:Nat} {X V:List Rat} {e:List Nod} (hp:A8r e X.length) (h1:1 <= e.length) (he:e.length <= 60) (hVX:V.length = X.length) (hV:0 < V.length) (hn:68719476736 <= n) :
  Aeh n (0,vq V) e (vq X) = some (match E9 Fp (Bo X) (fun _=>0) (Bo V) e [] with
   | .inl l=>(Ap (l.getD (e.length - 1) (Q4.cst 0)),0)
   | .inr c=>(((false,[],[]),[],[],(false,[],[])),c)):=by
 unfold Aeh;rw [B1q hp he hVX hV hn,A2]
 cases hev:E9 Fp (Bo X) (fun _=>0) (Bo V) e [] with
 | inr c =>
  have hc:(c != 0) = true:=by rcases A39 _ _ _ hev with rfl | rfl <;> rfl
  dsimp only;rw [hc];rfl
 | inl l =>
  have hl:=(Yu e [] l (fun k hk=>by simp at hk) hev).2
  have hlen:l.length = e.length:=by rw [hl,A8g];simp
  simp only [ZH,hlen]
  rw [Ae (by omega) (by omega),show ((0:Int) != 0) = false from rfl,QW,A4 (by simp;omega),show ((e.length:Int) - 1).toNat = e.length - 1 by omega,Adm (by omega)]

theorem Abc {x:Nod} {i:Int} (h:I8 x i):Do x i:=by
 obtain ⟨h1,h2⟩:=h;unfold Do Or Dt;grind

theorem A3t:∀ (r:List Nod) (bs ds:List Int) (p:List Int × List Int),Dh bs ds r = some p->∀ j,j < r.length->Do (r.getD j (0,0,0,0)) ((bs.length + j:Nat):Int)
 | [],bs,ds,p,h,j,hj=>by simp at hj
 | x :: r,bs,ds,p,h,j,hj=>by
  simp only [Dh] at h;split at h
  . rename_i hok
    cases j with
    | zero=>exact Abc hok.1
    | succ j =>
     have:=A3t r _ _ p h j (by simpa using hj)
     simp only [ZZ,QU,ZG] at this;simp only [JV]
     rw [show bs.length + (j + 1) = bs.length + 1 + j by omega]
     exact this
  . cases h

theorem Alb:∀ (l:List Nod) (s:Int),s <= Hl s l /\ ∀ x ∈ l,x.1 = 2->0 <= x.2.2.2 /\ x.2.2.2 <= 3->x.2.2.2 < Hl s l
 | [],s=>⟨JR _,fun x h=>by simp at h⟩
 | y :: l,s=>by
  obtain ⟨h1,h2⟩:=Alb l (if y.1 = 2 then max s (W (y.2.2.2 + 1)) else s)
  have e:Hl s (y :: l) = Hl (if y.1 = 2 then max s (W (y.2.2.2 + 1)) else s) l:=rfl
  rw [e];refine ⟨Int.le_trans ?_ h1,fun x hx hx2 hx3=>?_⟩
  . split <;> omega
  . rcases QT.1 hx with rfl | hx
    . rw [QK hx2,Ae (by omega) (by omega)] at h1 ⊢
      omega
    . exact h2 x hx hx2 hx3

theorem B55 {e:List Nod} {d:Int} (h:Dc e) (hd:Hl 0 e <= d):A8r e d:=fun k hk=>by
 obtain ⟨_,bs,ds,hr,_⟩:=h;have hp:=A3t e [] [] _ hr k hk;simp only [ZG,XS] at hp;refine ⟨hp,fun h2=>?_⟩
 have hm:e.getD k (0,0,0,0) ∈ e:=by
  rw [QI,QN hk];exact JB hk
 have:=(Alb e 0).2 _ hm h2 (by have:=hp.2.1;unfold Or at this;rw [QH (by omega),QK h2] at this;exact this)
 omega

def K2 (e:List Nod):Bool:=decide (1 <= e.length /\ e.length <= 60) && match Dh [] [] e with
 | none=>false
 | some (bs,ds)=>decide (bs.getD (e.length - 1) 0 = 0) && ds.all fun x=>decide (x <= 12)

theorem Kr {e:List Nod}:K2 e = true ↔ Dc e:=by
 unfold K2 Dc
 cases h:Dh [] [] e with
 | none=>simp
 | some p =>
  obtain ⟨bs,ds⟩:=p;simp only [QE,QR,QM]
  exact ⟨fun ⟨h1,h2,h3⟩=>⟨h1,bs,ds,rfl,h2,h3⟩,fun ⟨h1,a,d2,hq,h2,h3⟩=>by
   obtain ⟨rfl,rfl⟩:=YT (QA hq)
   exact ⟨h1,h2,h3⟩⟩

def Hn (e:List Nod) (l:List Rt):Int:=if 4096 < l.length then 2 else if K2 e = true /\ Ho l = true then (if (l.length:Int) < Hl 0 e then 8 else 0) else 1

open Classical in
theorem B28 {n:Nat} {e:List Nod} {l:List Rt} (hN:e.length <= 1048576) (hn:1048577 <= n):f59 n e l = some (Hn e l):=by
 unfold f59 f108 Hn
 rw [Ajy (by simp) hn,A2,B44 hN hn,A2,Fu,A2,A2,Al7 hn,A2,Fu,A2,Mo (by simp) hn,A2]
 have hL:A09 [l] = decide (4096 < l.length):=by simp [A09]
 rw [hL]
 have hB:∀ d:Decidable (Dc e),@decide (Dc e) d = K2 e:=fun d=>by
  cases hb:K2 e with
  | true=>exact ZL (Kr.1 hb)
  | false=>exact ZB fun h=>by rw [Kr.2 h] at hb;cases hb
 rw [hB];by_cases h1:4096 < l.length
 . simp only [h1,decide_true,if_true]
   rw [show L6 [2,if K2 e = true then 0 else 1,if Ho l = true then 0 else 1] = 2 from rfl,show ((2:Int) != 0) = true from rfl,ZM,Fu,A2,Mo (by simp) hn];rfl
 . simp only [h1,decide_false,if_false,YB]
   cases h2:K2 e with
   | true =>
    cases h3:Ho l with
    | true =>
     simp only [if_true,and_self]
     rw [show L6 [0,0,0] = 0 from rfl,show ((0:Int) != 0) = false from rfl,QW,B4t hN hn,A2,Fu,A2,Mo (by simp) hn,A2]
     by_cases h4:(l.length:Int) < Hl 0 e
     . rw [QK h4,QH (by simp;omega)];rfl
     . rw [QH h4,QK (by simp;omega)];rfl
    | false =>
     simp only [if_true,YB,if_false,and_false]
     rw [show L6 [0,0,1] = 1 from rfl,show ((1:Int) != 0) = true from rfl,ZM,Fu,A2,Mo (by simp) hn];rfl
   | false =>
    simp only [if_false,YB,false_and]
    rw [show ∀ b:Int,L6 [0,1,b] = 1 from fun _=>rfl,show ((1:Int) != 0) = true from rfl,ZM,Fu,A2,Mo (by simp) hn];rfl

open Classical in
theorem B26 {n:Nat} {e:List Nod} {l:List Rt} (hN:e.length <= 1048576) (hn:1048577 <= n):f62 n e l = some (Hn e l):=by
 unfold f62 Hn;rw [QJ];by_cases h1:4096 < l.length
 . rw [QK (by omega),QK h1]
 . rw [QH (by omega),QH h1,B4o hN hn,A2]
   dsimp only
   have hB:∀ d:Decidable (Dc e),@decide (Dc e) d = K2 e:=fun d=>by
    cases hb:K2 e with
    | true=>exact ZL (Kr.1 hb)
    | false=>exact ZB fun h=>by rw [Kr.2 h] at hb;cases hb
   rw [hB]
   cases h2:K2 e with
   | true =>
    simp only [ZO,QW];rw [A8b hn,A2]
    cases h3:Ho l with
    | true =>
     simp only [ZO,QW,and_self,if_true];rw [B4m hN hn,A2,QJ];by_cases h4:(l.length:Int) < Hl 0 e
     . rw [QK h4,QK h4]
     . rw [QH h4,QH h4]
    | false=>simp
   | false=>simp

theorem Alg {e:List Nod} {l:List Rt} (h:Hn e l = 0):Dc e /\ Ho l = true /\ Hl 0 e <= l.length /\ l.length <= 4096:=by
 unfold Hn at h;split at h
 . omega
 . split at h
   . rename_i h1;split at h
     . omega
     . exact ⟨Kr.1 h1.1,h1.2,by omega,by omega⟩
   . omega

theorem Apn {l:List Rt} (h:Ho l = true):∃ X:List Rat,l = vq X /\ Sv X 40 /\ 1 <= X.length /\ X.length <= 4:=by
 unfold Ho at h;simp only [QE,QR] at h;obtain ⟨X,rfl,hX⟩:=B03 h.2;rw [Gp] at h;exact ⟨X,rfl,hX,h.1.1,h.1.2⟩

theorem B08 {n:Nat} {x:Rat} {L:Nat} (h:Sz x L) (hL:L <= 1000000000):f91 n (rq x) = some (rq x):=by
 obtain ⟨h1,h2⟩:=h;unfold f91
 rw [A4 (by show decide ((0 + (dg x.num.natAbs).length) * 8 <= _) = true;simp;omega),A4 (by show decide ((0 + (dg x.den).length) * 8 <= _) = true;simp;omega)]

theorem B16 (m:Nat):Bo (List.replicate m 0) = fun _=>0:=by
 funext k;unfold Bo;rw [QI,XO];split <;> rfl

theorem B9z:C6 0 = true:=R1.2 (Jv.mono (by omega))

theorem Aed {n:Nat} {x:Rat} (h:Sz x 1000000):Xy n (rq x) = some (if (rq x).2.1 = [] then .inr ((rq x).1,(),(rq x).2.2) else .inl ((rq x).1,(rq x).2.1,(rq x).2.2)):=by
 have h1:(rq x).2.1.length <= 1000000:=h.1;have h2:(rq x).2.2.length <= 1000000:=h.2;have h3:(rq x).2.2 ≠ []:=fun e=>x.den_nz (Avr.1 e);unfold Xy
 rw [Ave (by omega),A2]
 by_cases h0:(rq x).2.1 = []
 . rw [QK h0,QK h0,T1 n (by omega) h3];rfl
 . rw [QH h0,QH h0,T1 n (by omega) h3];rfl

theorem Apx {X V:List Rat} {e:List Nod}:(∃ c,E9 Hi (Bo X) (Bo V) (fun _=>0) e [] = .inr c /\ E9 Fp (Bo X) (fun _=>0) (Bo V) e [] = .inr c /\ c ≠ 0) \/
  ∃ l m,E9 Hi (Bo X) (Bo V) (fun _=>0) e [] = .inl l /\ E9 Fp (Bo X) (fun _=>0) (Bo V) e [] = .inl m /\ l.length = e.length /\ m.length = e.length /\ ∀ k,(l.getD k (Q4.cst 0)).f = (m.getD k (Q4.cst 0)).f /\ (l.getD k (Q4.cst 0)).a = (m.getD k (Q4.cst 0)).v /\ (k < e.length->Sz (m.getD k (Q4.cst 0)).f 40 /\ Sz (m.getD k (Q4.cst 0)).v 40):=by
 rcases Azo (Aq8 (Bo X) (Bo V)) (f:=Hi) (g:=Fp) (fun p hp=>by
   obtain ⟨h1,h2,h3,h4⟩:=hp;unfold Hi Fp
   rw [h1,h2,h3,h4,B9z];simp) (fun p hp=>hp.1) e with ⟨c,h1,h2⟩ | ⟨l,m,h1,h2,h3,h4,h5⟩
 . exact .inl ⟨c,h1,h2,by rcases A39 _ _ _ h1 with rfl | rfl <;> decide⟩
 . refine .inr ⟨l,m,h1,h2,h3,h4,fun k=>⟨(h5 k).1,(h5 k).2.1,fun hk=>?_⟩⟩
   have:=(Yu e [] m (fun k hk=>by simp at hk) h2).1 k (by omega)
   unfold Fp at this;simp only [QE,R1] at this;exact this

def On (x v:List Rt):Int:=if Ho v = true then (if v.length = x.length then 0 else 8) else 1

def Eu (e:List Nod) (x v:List Rt):Int:=if 4096 < x.length \/ 4096 < v.length then 2 else if Hn e x ≠ 0 then Hn e x else On x v

theorem B25 {n:Nat} {x v:List Rt} (hn:1048577 <= n):f66 n x v = some (On x v):=by
 unfold f66 On
 rw [Al7 hn,A2,Fu,A2,Fu,A2,Mo (by simp) hn,A2]
 cases h1:Ho v with
 | false=>rfl
 | true =>
  simp only [if_true];by_cases h2:v.length = x.length
  . rw [QK h2,QK (by simp [h2])];rfl
  . rw [QH h2,QH (by simp;omega)];rfl

theorem B5o {x v:List Rt}:A09 [x,v] = decide (4096 < x.length \/ 4096 < v.length):=by
 unfold A09;by_cases h1:4096 < x.length <;> by_cases h2:4096 < v.length <;> simp [h1,h2]

theorem A3o {n:Nat} {e:List Nod} {x v:List Rt} (hN:e.length <= 1048576) (hn:1048577 <= n) {α:Type} {k:Int->Option α} :
  (ob (f65 n [x,v]) fun a=>ob (f59 n e x) fun b=>ob (f66 n x v) fun c=>ob (f64 n [a,b,c]) fun d=>k d) = k (Eu e x v):=by
 rw [Ajy (by simp) hn,A2,B28 hN hn,A2,B25 hn,A2,Mo (by simp) hn,A2,B5o]
 congr 1;unfold Eu L6 L6 L6;by_cases h1:4096 < x.length \/ 4096 < v.length
 . simp [h1]
 . simp only [h1,decide_false,if_false,YB,if_true];by_cases h2:Hn e x = 0
   . simp only [h2,if_true,not_true_eq_false,ne_eq,if_false];unfold L6;split <;> simp_all
   . simp [h2]

theorem Ax6 {n:Nat} (hn:1048577 <= n):f38 n (false,[],[]) 1 = some 1:=by
 unfold f38;rw [Xn hn,A2,Xn hn,A2]

theorem B06 {x:Rat} (h:Sz x 40):Sm (rq x):=⟨ZN h.1 (by omega),ZN h.2 (by omega)⟩

theorem B5e:Sm (false,[],[]):=⟨by simp,by simp⟩

theorem Amc {n:Nat} {s:Bool} {d:List Int} {k:Int} (hd:d.length <= 1048576) (h0:0 <= k) (hk:k <= 1125899906842624) (hn:1048577 <= n):Ra n (s,[],d) k = some (k + (d.length:Int),Cg k d.length):=by
 unfold Ra;dsimp only
 rw [Xn hn,A2,Ly hd (by omega) (by omega) hn,A2,A4 (by simp [C8])]

theorem held1 {n:Nat} {s:Bool} {b:Nat} {k:Int} (hb:b <= 1048576) (h0:0 <= k) (hk:k <= 1125899906842624) (hn:1048577 <= n):f39 n (s,[],Cg k b) k = some (k + (b:Int)):=by
 have:=Ve (n:=n) (a:=0) (b:=b) (s:=s) (k:=k) (by omega) hb h0 hk hn
 simpa [Cg] using this

theorem Amb {n:Nat} {x:Rt} {k:Int} (hx:Sm x) (h0:0 <= k) (hk:k <= 1125899906842624) (hn:1048577 <= n):Vf n (x.1,x.2.1,x.2.2) k = some (k + (x.2.1.length:Int) + (x.2.2.length:Int),Cg k x.2.1.length,Cg (k + x.2.1.length) x.2.2.length):=B29 hx h0 hk hn

theorem B1d {n : Nat} {e : List Nod} {x v : List Rt} (hN : e.length <= 1048576) (hn : 1048577 <= n) {k : Option (Rt × Rt × Int)} : f40 n e x v = (if Eu e x v = 0 then
      (ob (f90 n (x.length:Int)) fun b =>
       ob (f89 n e x v b) fun a =>
       bif (a.2 != 0) then
        some ((false,[],[]),(false,[],[]),a.2)
       else
        ob (f91 n a.1.1) fun c =>
        ob (f91 n a.1.2.1) fun d =>
        some (c,d,0)) else some ((false,[],[]),(false,[],[]),Eu e x v)):=by
 unfold f40;rw [QJ,QJ];by_cases h1:4096 < x.length
 . have:Eu e x v = 2:=by unfold Eu;rw [QK (.inl h1)]
   rw [QK (by omega),this];rfl
 . by_cases h2:4096 < v.length
   . have:Eu e x v = 2:=by unfold Eu;rw [QK (.inr h2)]
     rw [QH (by omega),QK (by omega),this];rfl
   . rw [QH (by omega),QH (by omega)]
     have hs:Eu e x v = if Hn e x ≠ 0 then Hn e x else On x v:=by unfold Eu;rw [QH (by omega)]
     unfold f74;rw [B26 hN hn,A2];by_cases h3:Hn e x = 0
     . rw [h3,XW,QW,Azh hn,A2,A2];have hv:=(Alg h3).2.1
       have hw:Alo [x,v] = On x v:=by
        unfold Alo On
        rw [B5o,ZB (by omega),QH (by simp)]
        have:([x,v].all Ho) = Ho v:=by simp [hv]
        rw [this]
        cases h4:Ho v with
        | false=>rfl
        | true =>
         simp only [if_true];by_cases h5:v.length = x.length
         . rw [QK h5,QK (by simp [h5])]
         . rw [QH h5,QH (by simp;omega)]
       have hs:Eu e x v = On x v:=by rw [hs,h3];rfl
       rw [hs,hw];by_cases h6:On x v = 0
       . rw [h6,XW,QW,QK rfl]
       . rw [show (On x v != 0) = true by simpa using h6,ZM,QH h6]
     . rw [show (Hn e x != 0) = true by simpa using h3,ZM,A2,show (Hn e x != 0) = true by simpa using h3,ZM,hs,QK h3,QH h3]

theorem B19 {e:List Nod} {x v:List Rt} (h:Eu e x v = 0):Hn e x = 0 /\ Ho v = true /\ v.length = x.length:=by
 unfold Eu On at h;split at h
 . omega
 . split at h
   . rename_i h2;exact absurd h h2
   . rename_i h2;split at h
     . split at h
       . exact ⟨by simpa using h2,‹_›,‹_›⟩
       . omega
     . omega

theorem Alv {n:Nat} {e:List Nod} {x v:List Rt} (hN:e.length <= 1048576) (hn:68719476736 <= n):∃ (r s:Rt) (c:Int),f17 n e x v = some (r,s,c) /\ f40 n e x v = some (r,s,c) /\
  Aoo n e x v = some (if c = 0 then (if r.2.1 = [] then (if s.2.1 = [] then .inr (.inr (.inr (.inl ((r.1,(),r.2.2),(s.1,(),s.2.2),0)))) else .inr (.inr (.inl ((r.1,(),r.2.2),(s.1,s.2.1,s.2.2),0))))
   else (if s.2.1 = [] then .inr (.inl ((r.1,r.2.1,r.2.2),(s.1,(),s.2.2),0)) else .inl ((r.1,r.2.1,r.2.2),(s.1,s.2.1,s.2.2),0))) else .inr (.inr (.inr (.inr ((false,(),()),(false,(),()),c))))) /\
  (c = 0->∃ y z:Rat,r = rq y /\ s = rq z /\ Sz y 40 /\ Sz z 40) /\ (c ≠ 0->r = (false,[],[]) /\ s = (false,[],[])):=by
 have g17:f17 n e x v = _:=A3o (n:=n) (e:=e) (x:=x) (v:=v) hN (by omega)
 have g17B:Aoo n e x v = _:=A3o (n:=n) (e:=e) (x:=x) (v:=v) hN (by omega)
 have g40:=B1d (n:=n) (e:=e) (x:=x) (v:=v) (k:=none) hN (by omega)
 by_cases ha:Eu e x v = 0
 . rw [ha] at g17 g17B g40;obtain ⟨h0,hvv,hlen⟩:=B19 ha;obtain ⟨he,hv,hd,hl⟩:=Alg h0;obtain ⟨X,rfl,hX,x1,x4⟩:=Apn hv;obtain ⟨V,rfl,hV,v1,v4⟩:=Apn hvv;rw [Gp] at hd hl;rw [Gp,Gp] at hlen;have hp:=B55 he hd
   have hz:f90 n (X.length:Int) = some (vq (List.replicate X.length 0)):=B1b (by omega) (by omega)
   have h60:=B9t (n:=n) (X:=X) (V:=V) hp he.1.1 he.1.2 hlen (by omega) hn
   have h89:=B1f (n:=n) (X:=X) (U:=V) (V:=List.replicate X.length 0) hp he.1.1 he.1.2 hlen (by simp) hn
   rw [B16] at h89;rw [QK rfl,Gp,hz,A2,h89,A2] at g40;rw [XW,QW,h60,A2] at g17 g17B;rcases Apx (X:=X) (V:=V) (e:=e) with ⟨c,a,b,d⟩ | ⟨L,M,a,b,i,j,g⟩
   . rw [a] at g40;rw [b] at g17 g17B
     have hc:(c != 0) = true:=by simpa using d
     dsimp only at g40 g17 g17B;rw [hc,ZM] at g40 g17 g17B
     exact ⟨_,_,c,g17,g40,by rw [QH d];exact g17B,fun h=>absurd h d,fun _=>⟨rfl,rfl⟩⟩
   . rw [a] at g40;rw [b] at g17 g17B;obtain ⟨k1,k2,k3⟩:=g (e.length - 1)
     have k34:=k3 (by have:=he.1.1;omega)
     clear k3;obtain ⟨k3,k4⟩:=k34;dsimp only at g40 g17 g17B;rw [XW,QW] at g40 g17 g17B;have w1:(Ap (M.getD (e.length - 1) (Q4.cst 0))).1 = rq (M.getD (e.length - 1) (Q4.cst 0)).f:=rfl;have w2:(Ap (M.getD (e.length - 1) (Q4.cst 0))).2.2.2 = rq (M.getD (e.length - 1) (Q4.cst 0)).v:=rfl
     have w3:(S4 (L.getD (e.length - 1) (Q4.cst 0))).1 = rq (M.getD (e.length - 1) (Q4.cst 0)).f:=by rw [<- k1];rfl
     have w4:(S4 (L.getD (e.length - 1) (Q4.cst 0))).2.1 = rq (M.getD (e.length - 1) (Q4.cst 0)).v:=by rw [<- k2];rfl
     rw [w1,w2] at g17 g17B;rw [w3,w4] at g40;generalize (M.getD (e.length - 1) (Q4.cst 0)).f = y at *;generalize (M.getD (e.length - 1) (Q4.cst 0)).v = z at *
     rw [Aju k3 (by omega),A2,Aju k4 (by omega),A2] at g17
     rw [B08 k3 (by omega),A2,B08 k4 (by omega),A2] at g40
     rw [Aed (k3.mono (by omega)),A2,Aed (k4.mono (by omega))] at g17B
     refine ⟨_,_,0,g17,g40,?_,fun _=>⟨y,z,rfl,rfl,k3,k4⟩,fun h=>absurd rfl h⟩;rw [g17B,QK rfl];by_cases a1:(rq y).2.1 = [] <;> by_cases a2:(rq z).2.1 = [] <;> simp only [a1,a2,if_true,if_false,Ez,A2]
 . have hc:(Eu e x v != 0) = true:=by simpa using ha
   rw [QH ha] at g40;rw [hc,ZM] at g17 g17B
   exact ⟨_,_,_,g17,g40,by rw [QH ha];exact g17B,fun h=>absurd h ha,fun _=>⟨rfl,rfl⟩⟩

theorem Bae {n:Nat} {e:List Nod} {l v:List Rt} (he:e.length <= 9223372036854775807) (hl:BdL l) (hv:BdL v) (hn:68719476736 <= n):f6 n e l v = some true:=by
 have hn1:1048577 <= n:=by omega
 unfold f6;obtain ⟨r,e1,c⟩:=B2f (n:=n) he;rw [e1,A2];rcases c with rfl | ⟨b,f⟩
 . rfl
 obtain ⟨r',e',c'⟩:=Ak6 b hl hn1
 rw [QJ,QH (by omega),e',A2]
 rcases c' with rfl | ⟨b',sl⟩
 . rfl
 obtain ⟨r'',e'',c''⟩:=Ak6 b' hv hn1
 rw [QJ,QH (by omega),e'',A2]
 rcases c'' with rfl | ⟨b'',sv⟩
 . rfl
 obtain ⟨R,S,c,a1,a2,a3,a4,a5⟩:=Alv (n:=n) (e:=e) (x:=l) (v:=v) f hn;have x1:=B6v f hn1;have x2:=As9 sl.1 sl.2 hn1;have x2':=As9 sv.1 sv.2 hn1;have x3:=B2e f hn1;have x4:=Ak5 sl hn1;have x4':=Ak5 sv hn1;have x5:=B6t f hn1;have x6:=As7 sl.1 sl.2 hn1;have x6':=As7 sv.1 sv.2 hn1;have m1:=B2c (n:=n) f hn1;have u1:=A06 l (1 + 4 * (e.length:Int));have u0:=Adf l (1 + 4 * (e.length:Int)) sl.2;have sl1:=sl.1;have sv1:=sv.1
 have m2:=Ak3 (n:=n) (k:=1 + 4 * (e.length:Int)) sl (by omega) (by omega) hn1
 have m2':=Ak3 (n:=n) (k:=(Co l (1 + 4 * (e.length:Int))).1) sv (by omega) (by omega) hn1
 have u2:=A06 v (Co l (1 + 4 * (e.length:Int))).1
 have z1:decide ((Co v (Co l (1 + 4 * (e.length:Int))).1).1 < 0) = false:=by
  simp;omega
 have one:decide ((1:Int) < 0) = false:=rfl
 rw [QJ,QH (by omega),x1,A2,x2,A2,x2',A2,a2,A2,x3,A2,x4,A2,x4',A2,a3,A2]
 by_cases h0:c = 0
 . obtain ⟨x,y,rfl,rfl,hx,hy⟩:=a4 h0;subst h0;have s:=B06 hx;have t:=B06 hy;have q:f33 n (rq x) (rq x) = some true:=A4g s hn1;have p:f33 n (rq y) (rq y) = some true:=A4g t hn1;have h:=s.1;have g:=s.2;have d0:=t.1;have d1:=t.2;rw [QK rfl];have q1:f33 n ((rq x).1,(rq x).2.1,(rq x).2.2) (rq x) = some true:=q;have p1:f33 n ((rq y).1,(rq y).2.1,(rq y).2.2) (rq y) = some true:=p;by_cases hz:(rq x).2.1 = []
   . rw [QK hz]
     have q':f33 n ((rq x).1,[],(rq x).2.2) (rq x) = some true:=by
      have:(((rq x).1,[],(rq x).2.2):Rt) = rq x:=by rw [<- hz]
      rw [this];exact q
     have m3:=Amc (n:=n) (s:=(rq x).1) (d:=(rq x).2.2) (k:=1) g (by omega) (by omega) hn1
     have h3:=held1 (n:=n) (s:=(rq x).1) (b:=(rq x).2.2.length) (k:=1) g (by omega) (by omega) hn1
     have z2:decide (1 + ((rq x).2.2.length:Int) < 0) = false:=by simp;omega
     generalize hK:1 + ((rq x).2.2.length:Int) = K at *;by_cases hw:(rq y).2.1 = []
     . rw [QK hw]
       have p':f33 n ((rq y).1,[],(rq y).2.2) (rq y) = some true:=by
        have:(((rq y).1,[],(rq y).2.2):Rt) = rq y:=by rw [<- hw]
        rw [this];exact p
       have m4:=Amc (n:=n) (s:=(rq y).1) (d:=(rq y).2.2) (k:=K) d1 (by omega) (by omega) hn1
       have h4:=held1 (n:=n) (s:=(rq y).1) (b:=(rq y).2.2.length) (k:=K) d1 (by omega) (by omega) hn1
       have z3:decide (K + ((rq y).2.2.length:Int) < 0) = false:=by simp;omega
       simp only [Ez,A2,q',q,p',p,ZO,QW,XW,x1,x2,x5,x6,x2',x6',m1,m2,m2',a1,m3,h3,m4,h4,z1,z2,z3,C8,Hr,J5,XA,XM,Fb]
     . rw [QH hw]
       have m4:=Amb (n:=n) (k:=K) t (by omega) (by omega) hn1
       have h4:=Ve (n:=n) (a:=(rq y).2.1.length) (b:=(rq y).2.2.length) (s:=(rq y).1) (k:=K) d0 d1 (by omega) (by omega) hn1
       have z3:decide (K + ((rq y).2.1.length:Int) + ((rq y).2.2.length:Int) < 0) = false:=by simp;omega
       simp only [Ez,A2,q',q,p1,p,ZO,QW,XW,x1,x2,x5,x6,x2',x6',m1,m2,m2',a1,m3,h3,m4,h4,z1,z2,z3,C8,Hr,J5,XA,XM,Fb]
   . rw [QH hz]
     have m3:=Amb (n:=n) (k:=1) s (by omega) (by omega) hn1
     have h3:=Ve (n:=n) (a:=(rq x).2.1.length) (b:=(rq x).2.2.length) (s:=(rq x).1) (k:=1) h g (by omega) (by omega) hn1
     have z2:decide (1 + ((rq x).2.1.length:Int) + ((rq x).2.2.length:Int) < 0) = false:=by simp;omega
     generalize hK:1 + ((rq x).2.1.length:Int) + ((rq x).2.2.length:Int) = K at *;by_cases hw:(rq y).2.1 = []
     . rw [QK hw]
       have p':f33 n ((rq y).1,[],(rq y).2.2) (rq y) = some true:=by
        have:(((rq y).1,[],(rq y).2.2):Rt) = rq y:=by rw [<- hw]
        rw [this];exact p
       have m4:=Amc (n:=n) (s:=(rq y).1) (d:=(rq y).2.2) (k:=K) d1 (by omega) (by omega) hn1
       have h4:=held1 (n:=n) (s:=(rq y).1) (b:=(rq y).2.2.length) (k:=K) d1 (by omega) (by omega) hn1
       have z3:decide (K + ((rq y).2.2.length:Int) < 0) = false:=by simp;omega
       simp only [Ez,A2,q1,q,p',p,ZO,QW,XW,x1,x2,x5,x6,x2',x6',m1,m2,m2',a1,m3,h3,m4,h4,z1,z2,z3,C8,Hr,J5,XA,XM,Fb]
     . rw [QH hw]
       have m4:=Amb (n:=n) (k:=K) t (by omega) (by omega) hn1
       have h4:=Ve (n:=n) (a:=(rq y).2.1.length) (b:=(rq y).2.2.length) (s:=(rq y).1) (k:=K) d0 d1 (by omega) (by omega) hn1
       have z3:decide (K + ((rq y).2.1.length:Int) + ((rq y).2.2.length:Int) < 0) = false:=by simp;omega
       simp only [Ez,A2,q1,q,p1,p,ZO,QW,XW,x1,x2,x5,x6,x2',x6',m1,m2,m2',a1,m3,h3,m4,h4,z1,z2,z3,C8,Hr,J5,XA,XM,Fb]
 . obtain ⟨e0,e0'⟩:=a5 h0;subst e0;subst e0';rw [QH h0];have q:f33 n (false,[],[]) (false,[],[]) = some true:=A4g B5e hn1;have m3:=Ax6 hn1
   have h3:f39 n (false,[],[]) 1 = some 1:=Ve (n:=n) (a:=0) (b:=0) (s:=false) (k:=1) (by omega) (by omega) (by omega) (by omega) hn1
   simp only [Ez,A2,q,ZO,QW,XW,x1,x2,x5,x6,x2',x6',m1,m2,m2',a1,m3,h3,z1,one,C8,Hr,J5,XA,XM,Fb]

theorem div_one {x y:Rat}:x / y = x * (1 / y):=by rw [Rat.div_def,Rat.div_def,Rat.one_mul]

end Go.Ev
