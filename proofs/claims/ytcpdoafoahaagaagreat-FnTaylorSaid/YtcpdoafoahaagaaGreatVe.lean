/- DERIVED. The plain laws: what the models compute. -/
import Derived.Test.YtcpdoafoahaagaaGreatVd

set_option linter.all false
set_option linter.unusedVariables false
set_option linter.unusedSimpArgs false

namespace Go.Ev
open Go

theorem Ayq (x u w:Nat->Rat) (l:List Q4) (n:Nd):Av x u w l n=Abn x u w (λk=>l.getD k (Q4.cst 0)) n:=rfl

theorem Ayr (x u w:Nat->Rat) (Q:Nat->Q4) (n:Nd) (hn:1<=n.1/\n.1<=8) (h2:n.1 ≠ 2) :
  (Abn x u w Q n).a=(Kw (λk=>(Q k).f) (λk=>(Q k).v) n).a*(Q n.2.1.toNat).a+(Kw (λk=>(Q k).f) (λk=>(Q k).v) n).b*(Q n.2.2.1.toNat).a /\
  (Abn x u w Q n).v=(Kw (λk=>(Q k).f) (λk=>(Q k).v) n).a*(Q n.2.1.toNat).v+(Kw (λk=>(Q k).f) (λk=>(Q k).v) n).b*(Q n.2.2.1.toNat).v /\
  (Abn x u w Q n).c=((Kw (λk=>(Q k).f) (λk=>(Q k).v) n).a*(Q n.2.1.toNat).c+(Kw (λk=>(Q k).f) (λk=>(Q k).v) n).da*(Q n.2.1.toNat).a)+((Kw (λk=>(Q k).f) (λk=>(Q k).v) n).b*(Q n.2.2.1.toNat).c+(Kw (λk=>(Q k).f) (λk=>(Q k).v) n).db*(Q n.2.2.1.toNat).a):=by
 unfold Kw Abn;dsimp only;generalize Q n.2.1.toNat=P;generalize Q n.2.2.1.toNat=Q
 obtain h | h | h | h | h | h | h:n.1=1 \/ n.1=3 \/ n.1=4 \/ n.1=5 \/ n.1=6 \/ n.1=7 \/ n.1=8:=by omega
 all_goals simp only [h,if_true]
 . simp only [show ¬ ((1:Int)=3) by decide,show ¬ ((1:Int)=4) by decide,show ¬ ((1:Int)=5) by decide,show ¬ ((1:Int)=6) by decide,show ¬ ((1:Int)=7) by decide,show ¬ ((1:Int)=8) by decide,if_false,Q4.cst]
   refine ⟨?_,?_,?_⟩ <;> grind
 . simp only [show ¬ ((3:Int)=1) by decide,show ¬ ((3:Int)=2) by decide,if_false,Q4.add]
   refine ⟨?_,?_,?_⟩ <;> grind
 . simp only [show ¬ ((4:Int)=1) by decide,show ¬ ((4:Int)=2) by decide,show ¬ ((4:Int)=3) by decide,if_false,Q4.add,Q4.neg]
   refine ⟨?_,?_,?_⟩ <;> grind
 . simp only [show ¬ ((5:Int)=1) by decide,show ¬ ((5:Int)=2) by decide,show ¬ ((5:Int)=3) by decide,show ¬ ((5:Int)=4) by decide,if_false,Q4.mul]
   refine ⟨?_,?_,?_⟩ <;> grind
 . simp only [show ¬ ((6:Int)=1) by decide,show ¬ ((6:Int)=2) by decide,show ¬ ((6:Int)=3) by decide,show ¬ ((6:Int)=4) by decide,show ¬ ((6:Int)=5) by decide,if_false,Q4.mul,Q4.inv]
   generalize 1 / Q.f=r;refine ⟨?_,?_,?_⟩ <;> grind
 . simp only [show ¬ ((7:Int)=1) by decide,show ¬ ((7:Int)=2) by decide,show ¬ ((7:Int)=3) by decide,show ¬ ((7:Int)=4) by decide,show ¬ ((7:Int)=5) by decide,show ¬ ((7:Int)=6) by decide,if_false,Q4.neg]
   refine ⟨?_,?_,?_⟩ <;> grind
 . simp only [show ¬ ((8:Int)=1) by decide,show ¬ ((8:Int)=2) by decide,show ¬ ((8:Int)=3) by decide,show ¬ ((8:Int)=4) by decide,show ¬ ((8:Int)=5) by decide,show ¬ ((8:Int)=6) by decide,show ¬ ((8:Int)=7) by decide,if_false,Q4.pow_eq]
   refine ⟨?_,?_,?_⟩ <;> grind

def CD (l:List Rat) (M:Nat):Prop:=∃ D:Nat,0<D/\D<=M /\ ∀ x ∈ l,∃ z:Int,x*(D:Rat)=(z:Rat)/\z.natAbs<=M

theorem CD.mono {l:List Rat} {M N:Nat} (h:CD l M) (hN:M<=N):CD l N:=by
 obtain ⟨D,h1,h2,h3⟩:=h
 exact ⟨D,h1,ZF h2 hN,λx hx=>by obtain ⟨z,q1,q2⟩:=h3 x hx;exact ⟨z,q1,ZF q2 hN⟩⟩

theorem B5s:CD [] 1:=⟨1,by decide,QZ _,λx hx=>by cases hx⟩

theorem Ur (x:Rat):x*(x.den:Rat)=(x.num:Rat):=by
 have:=R4 x
 rwa [KE] at this

theorem CD.step {l:List Rat} {M H:Nat} (h:CD l M) {p q a b x:Rat} (hp:Hb p H) (hq:Hb q H) (ha:a ∈ l \/ a=0) (hb:b ∈ l \/ b=0) (hx:x=p*a+q*b):CD (l++[x]) (2*(H*H*M)):=by
 obtain ⟨D,h1,h2,h3⟩:=h;have pd:=p.den_pos;have qd:=q.den_pos;have hdd:p.den*q.den<=H*H:=ZK hp.2 hq.2;have e1:p.den*q.den*D<=H*H*M:=ZK hdd h2
 refine ⟨p.den*q.den*D,YZ (YZ pd qd) h1,by omega,λy hy=>?_⟩
 rcases QD.1 hy with hy | hy
 . obtain ⟨z,q1,q2⟩:=h3 y hy;refine ⟨(p.den*q.den:Nat)*z,?_,?_⟩
   . simp only [Qaw,JW,KE,<- q1];grind
   . rw [XR,XI];have:=ZK hdd q2;omega
 . obtain rfl:y=x:=by simpa using hy
   have za:∃ z:Int,a*(D:Rat)=(z:Rat)/\z.natAbs<=M:=by
    rcases ha with ha | rfl
    . exact h3 a ha
    . exact ⟨0,by simp,by simp⟩
   have zb:∃ z:Int,b*(D:Rat)=(z:Rat)/\z.natAbs<=M:=by
    rcases hb with hb | rfl
    . exact h3 b hb
    . exact ⟨0,by simp,by simp⟩
   obtain ⟨u,u1,u2⟩:=za;obtain ⟨v,v1,v2⟩:=zb;refine ⟨p.num*q.den*u+q.num*p.den*v,?_,?_⟩
   . have s1:=Ur p;have s2:=Ur q;simp only [Qaw,Rat.intCast_add,JW,KE,<- s1,<- s2,<- u1,<- v1,hx];grind
   . have t0:=YD (p.num*q.den*u) (q.num*p.den*v);have t1:p.num.natAbs*q.den<=H*H:=ZK hp.1 hq.2;have t2:q.num.natAbs*p.den<=H*H:=ZK hq.1 hp.2;have t3:=ZK t1 u2;have t4:=ZK t2 v2;simp only [XR,XI] at t0;omega

theorem CD.one {l:List Rat} {M H:Nat} (h:CD l M) {x:Rat} (hx:Hb x H) (h1:1<=H):CD (l++[x]) (2*(H*H*M)):=by
 obtain ⟨D,d1,d2,d3⟩:=h;have xd:=x.den_pos;have e0:x.den*D<=H*M:=ZK hx.2 d2;have e2:H*M*1<=H*M*H:=XF _ h1
 have e3:H*M*H=H*H*M:=by rw [Qbc,YP M H,<- Qbc]
 refine ⟨x.den*D,YZ xd d1,by omega,λy hy=>?_⟩
 rcases QD.1 hy with hy | hy
 . obtain ⟨z,q1,q2⟩:=d3 y hy;refine ⟨(x.den:Nat)*z,?_,?_⟩
   . simp only [Qaw,JW,KE,<- q1];grind
   . rw [XR,XI];have:=ZK hx.2 q2;omega
 . obtain rfl:y=x:=by simpa using hy
   refine ⟨y.num*D,?_,?_⟩
   . have s1:=Ur y;simp only [Qaw,JW,KE,<- s1];grind
   . rw [XR,XI];have:=ZK hx.1 d2;omega

theorem CD.hb {l:List Rat} {M:Nat} (h:CD l M) {x:Rat} (hx:x ∈ l):Hb x M:=by
 obtain ⟨D,h1,h2,h3⟩:=h;obtain ⟨z,q1,q2⟩:=h3 x hx
 exact Qx (d:=(D:Int)) (z:=z) (by rw [KE];exact q1) (by omega) q2 (by simpa using h2)

theorem Ajt {fit:Q4->Bool} {x u w:Nat->Rat}:∀ (ns:List Nd) (l l':List Q4),evC fit x u w ns l = .inl l'->∀ i,i<ns.length->¬ Oa (evs x u w (ns.take i) l) (ns.getD i (0,0,0,0))
 | [],l,l',e,i,hi=>by simp at hi
 | n::r,l,l',e,i,hi=>by
  simp only [evC] at e;by_cases hb:Oa l n
  . rw [QK hb] at e;cases e
  . rw [QH hb] at e;by_cases hf:fit (Av x u w l n)=true
    . rw [QK hf] at e
      cases i with
      | zero=>simpa [evs] using hb
      | succ i =>
       have:=Ajt r _ l' e i (by simpa using hi)
       simpa [evs] using this
    . rw [QH hf] at e;cases e

theorem Awv (x u w:Nat->Rat) (ns:List Nd) {i:Nat} (h:i<ns.length):evs x u w (ns.take (i+1)) []=evs x u w (ns.take i) []++[Av x u w (evs x u w (ns.take i) []) (ns.getD i (0,0,0,0))]:=by
 rw [JA h,A7f];rw [QJ,QM h];rfl

theorem B1t (x u w:Nat->Rat) (ns:List Nd) {i k:Nat} (hk:k<i) (hi:i<=ns.length):(evs x u w (ns.take i) []).getD k (Q4.cst 0)=(evs x u w ns []).getD k (Q4.cst 0):=by
 conv=>rhs;rw [<- KR i ns,A7f]
 exact (Yk x u w (ns.drop i) (evs x u w (ns.take i) []) k (by rw [A7e];simp;omega)).symm

theorem Fc {n L K:Nat} {x y:Rat} (hx:Sz x L) (hy:Sz y K) (hL:L+K<=1000000000) (hn:68719476736<=n):f104 n (rq x) (rq y)=some (rq (x+y)):=A3s (L:=L+K) (hx.mono (by omega)) (hy.mono (by omega)) (by omega) (by omega)

theorem C3 {n L K:Nat} {x y:Rat} (hx:Sz x L) (hy:Sz y K) (hL:L+K<=1000000000) (hn:68719476736<=n):f103 n (rq x) (rq y)=some (rq (x*y)):=Xo (L:=L+K) (hx.mono (by omega)) (hy.mono (by omega)) (by omega) (by omega)

theorem iOv {n L K:Nat} {x y:Rat} (hx:Sz x L) (hy:Sz y K) (h0:y ≠ 0) (hL:L+K<=1000000000) (hn:68719476736<=n):f75 n (rq x) (rq y)=some (rq (x / y)):=Ac9 (L:=L+K) (hx.mono (by omega)) (hy.mono (by omega)) h0 (by omega) (by omega)

theorem iNg {n L:Nat} {x:Rat} (hx:Sz x L) (hL:L<=1000000000):f77 n (rq x)=some (rq (-x)):=B64 hx (by omega)

theorem Kt {a:Int} (h:a.natAbs<=1000000000):Sz (a:Rat) 3:=by
 unfold Sz;rw [Rat.num_intCast,Rat.den_intCast]
 exact ⟨Df (by omega),Df (by omega)⟩

theorem iW {n:Nat} {a:Int} (h:a.natAbs<=1000000000) (hn:68719476736<=n):f92 n a=some (rq (a:Rat)):=by
 unfold f92;rw [QI,B2f];by_cases h0:a<0
 . rw [QK h0,Ab (by omega) (by omega),show (0-a:Int)=((a.natAbs:Nat):Int) by omega,Qh (by omega) (by omega),A1,show f161 n=some [1] from rfl,A1,ZA h0,Ii]
 . rw [QH h0]
   conv=>lhs;rw [show a=((a.natAbs:Nat):Int) by omega]
   rw [Qh (by omega) (by omega),A1,show f161 n=some [1] from rfl,A1,QU h0,Ii]

theorem iW0 {n:Nat} (hn:68719476736<=n):f92 n 0=some (rq 0):=iW (a:=0) (by omega) hn

theorem iW1 {n:Nat} (hn:68719476736<=n):f92 n 1=some (rq 1):=iW (a:=1) (by omega) hn

theorem iW2 {n:Nat} (hn:68719476736<=n):f92 n 2=some (rq 2):=iW (a:=2) (by omega) hn

theorem iWm {n:Nat} (hn:68719476736<=n):f92 n (-1)=some (rq (-1)):=iW (a:=-1) (by omega) hn

theorem Ayk (a:Int) (i:Nat):(!(decide (a ^ i<0)==decide (a<0)))=decide (a ^ (i+1)<0):=by
 rw [Int.pow_succ];by_cases h0:a=0
 . subst h0
   have:¬ (0:Int) ^ i<0:=by cases i with | zero=>decide | succ i=>rw [Int.pow_succ,JX];decide
   rw [JX,QU this];rfl
 . have hp:a ^ i ≠ 0:=Int.pow_ne_zero h0;generalize a ^ i=p at hp;rcases Int.lt_trichotomy p 0 with ha | ha | ha <;> rcases Int.lt_trichotomy a 0 with hb | hb | hb
   . have:=Int.mul_pos_of_neg_of_neg ha hb
     rw [ZA ha,ZA hb,QU (by omega)];rfl
   . exact absurd hb h0
   . have:=Int.mul_neg_of_neg_of_pos ha hb
     rw [ZA ha,QU (by omega),ZA this];rfl
   . exact absurd ha hp
   . exact absurd ha hp
   . exact absurd ha hp
   . have:=Int.mul_neg_of_pos_of_neg ha hb
     rw [QU (show ¬ p<0 by omega),ZA hb,ZA this];rfl
   . exact absurd hb h0
   . have:=Int.mul_pos ha hb
     rw [QU (show ¬ p<0 by omega),QU (show ¬ a<0 by omega),QU (by omega)];rfl

theorem Pw (a L:Nat) (h:(dg a).length<=L):∀ i,(dg (a ^ i)).length<=L*i+1
 | 0=>by rw [Nat.pow_zero];exact ZF (A65 (by decide)) (by omega)
 | i+1=>by
  have h1:=Bi (a ^ i) a;have h2:=Pw a L h i;rw [YV,Nat.mul_succ];omega

theorem Abp {α:Type} {n L k:Nat} {x:Rat} (hx:Sz x L) (hL:L<=10000000) (hk:k<=10) (hn:68719476736<=n) {k0:Bool->Bool->List Int->List Int->Option α}:∀ (m i:Nat),i<=k->k<i+m ->
  Q5 n m (k:Int) (i:Int) (rq x).1 (rq x).2.1 (rq x).2.2 false (decide (x.num ^ i<0)) (dg (x.num.natAbs ^ i)) (dg (x.den ^ i)) k0=k0 false (decide (x.num ^ k<0)) (dg (x.num.natAbs ^ k)) (dg (x.den ^ k))
 | 0,i,hi,hm=>by omega
 | m+1,i,hi,hm=>by
  rw [Aqc];unfold A0m;rw [QI];by_cases h:i<k
  . have l1:=Pw x.num.natAbs L hx.1 i;have l2:=Pw x.den L hx.2 i;have h1:=hx.1;have h2:=hx.2
    have h3:L*i<=L*10:=XF _ (by omega)
    rw [QK (by omega)]
    show ob (f143 n (dg (x.num.natAbs ^ i)) (dg x.num.natAbs)) _=_
    rw [Lp (by omega) (by omega),A1]
    show ob (f143 n (dg (x.den ^ i)) (dg x.den)) _=_
    rw [Lp (by omega) (by omega),A1,Ab (x:=(i:Int)+1) (by omega) (by omega),<- YV,<- YV]
    show Q5 n m (k:Int) ((i+1:Nat):Int) (rq x).1 (rq x).2.1 (rq x).2.2 false (!(decide (x.num ^ i<0)==decide (x.num<0))) _ _ k0=_;rw [Ayk]
    exact Abp hx hL hk hn m (i+1) (by omega) (by omega)
  . obtain rfl:i=k:=by omega
    rw [QH (by omega)]

theorem Pj {n L k:Nat} {x:Rat} (hx:Sz x L) (hL:L<=10000000) (hk:k<=10) (hn:68719476736<=n):f221 n (rq x) (k:Int)=some (rq (x ^ k)):=by
 unfold f221;rw [iW1 hn,A1]
 have h1:=Abp (n:=n) hx hL hk hn (k0:=λz_4 z_5 z_6 z_7=>(
   bif z_5 then
    ob (f74 n (z_5,z_6,z_7)) λr_8 =>
    ob (f74 n ((!r_8),z_6,z_7)) λr_9 =>
    bif r_9 then
     ob (f161 n) λr_10 =>
     some ((!r_8),z_6,r_10)
    else
     some ((!r_8),z_6,z_7)
   else
    ob (f74 n (false,z_6,z_7)) λr_11 =>
    bif r_11 then
     ob (f161 n) λr_12 =>
     some (false,z_6,r_12)
    else
     some (false,z_6,z_7))) n 0 (by omega) (by omega)
 rw [Int.pow_zero,Nat.pow_zero,Nat.pow_zero,show decide ((1:Int)<0)=false from rfl,show ((0:Nat):Int)=0 from rfl] at h1;rw [show rq 1=(false,dg 1,dg 1) from Any 1,h1]
 have hzero:∀ (s:Bool) (a d:Nat),f74 n (s,dg a,dg d)=some (decide (a=0)):=λs a d=>by
  unfold f74;dsimp only;rw [Af8]
 have key:rq (x ^ k)=(decide (x.num ^ k<0),dg (x.num.natAbs ^ k),dg (x.den ^ k)):=by
  unfold rq;rw [Rat.num_pow,Rat.den_pow,Int.natAbs_pow]
 have hz:x.num.natAbs ^ k=0->x.den ^ k=1:=λh=>by
  rcases YR k with h2 | h2
  . subst h2;rfl
  . have h3:x.num.natAbs=0:=(Nat.pow_eq_zero.1 h).1
    have:x=0:=JV.1 (by omega)
    rw [this];exact Nat.one_pow k
 have hs:x.num.natAbs ^ k=0->¬ x.num ^ k<0:=λh=>by rw [<- Int.natAbs_pow] at h;omega
 rw [key];by_cases h2:x.num ^ k<0
 . rw [ZA h2,ZS,hzero,A1,hzero,A1];have h3:¬ x.num.natAbs ^ k=0:=λh=>hs h h2;rw [QU h3];rfl
 . rw [QU h2,QV,hzero,A1];by_cases h3:x.num.natAbs ^ k=0
   . rw [ZA h3,ZS,show f161 n=some [1] from rfl,A1,hz h3,Ii]
   . rw [QU h3];rfl

abbrev Jn:=Rt × List Rt × Unit × Rt

abbrev Jc:=Rt × List Rt × List Rt × Rt

def jn (f v:Rat):Jn:=(rq f,[],(),rq v)

def jc (f v:Rat):Jc:=(rq f,[],[],rq v)

theorem Av5 {n:Nat} (hn:68719476736<=n):f51 n []=some ([],0):=by
 have:=Aca (n:=n) (x:=[]) (by simp) (by omega)
 exact this

theorem Kr {x:Rat} {L:Nat} (h:Sz x L) (k:Nat):Sz (x ^ k) (L*k+1):=by
 unfold Sz;rw [Rat.num_pow,Rat.den_pow,Int.natAbs_pow];exact ⟨Pw _ _ h.1 k,Pw _ _ h.2 k⟩

theorem Anh {x:Rat} {L k:Nat} (h:Sz x L) (hk:k<=8):Sz (Q4.d1 x k) (L*8+5):=by
 cases k with
 | zero=>exact Bx.mono (by omega)
 | succ k =>
  have h1:=Aj (Kr h k) (Kt (a:=((k+1:Nat):Int)) (by omega))
  have:L*k<=L*8:=XF _ (by omega)
  exact h1.mono (by omega)

theorem Aye {x:Rat} {L k:Nat} (h:Sz x L) (hk:k<=8):Sz (Q4.d2 x k) (L*8+5):=by
 match k with
 | 0=>exact Bx.mono (by omega)
 | 1=>exact Bx.mono (by omega)
 | k+2 =>
  have h2:(k+2)*(k+1)<=8*8:=ZK (by omega) (by omega)
  have h1:=Aj (Kr h k) (Kt (a:=(((k+2)*(k+1):Nat):Int)) (by rw [XI];omega))
  have:L*k<=L*8:=XF _ (by omega)
  exact h1.mono (by omega)

def Al (V:List Rat) (k:Nat):Rat:=V.getD k 0

theorem Ap2 {n L k:Nat} {f:Rat} {v:Rat} (hf:Sz f L) (hL:L<=1000) (hk:k<=8) (hn:68719476736<=n):f230 n (jn f v) (k:Int)=some (rq (Q4.d1 f k),rq (Q4.d2 f k)):=by
 unfold f230;rw [iW0 hn,A1,A1];dsimp only;rw [show (jn f v).1=rq f from rfl]
 match k with
 | 0=>rfl
 | 1 =>
  rw [show decide (((1:Nat):Int)>=1)=true from rfl,ZS,show W (((1:Nat):Int)-1)=((0:Nat):Int) from rfl,Pj hf (by omega) (by omega) hn,A1,iW (by omega) hn,A1,C3 (Kr hf 0) (Kt (a:=((1:Nat):Int)) (by omega)) (by omega) hn,A1]
  rfl
 | k+2 =>
  have h2:(k+2)*(k+1)<=8*8:=ZK (by omega) (by omega)
  have l1:L*(k+1)<=L*8:=XF _ (by omega)
  have l2:L*k<=L*8:=XF _ (by omega)
  rw [QI,QK (by omega),Ab (x:=((k+2:Nat):Int)-1) (by omega) (by omega),show ((k+2:Nat):Int)-1=((k+1:Nat):Int) by omega,Pj hf (by omega) (by omega) hn,A1,iW (by omega) hn,A1,
   C3 (Kr hf (k+1)) (Kt (a:=((k+2:Nat):Int)) (by omega)) (by omega) hn,A1,QI,QK (by omega),
   Ab (x:=((k+2:Nat):Int)-2) (by omega) (by omega),show ((k+2:Nat):Int)-2=((k:Nat):Int) by omega,Pj hf (by omega) (by omega) hn,A1,show ((k+2:Nat):Int)*((k+1:Nat):Int)=(((k+2)*(k+1):Nat):Int) by rw [XW],
   Ab (x:=(((k+2)*(k+1):Nat):Int)) (by omega) (by omega),iW (by rw [XI];omega) hn,A1,C3 (Kr hf k) (Kt (a:=(((k+2)*(k+1):Nat):Int)) (by rw [XI];omega)) (by omega) hn,A1]
  rfl

theorem Ap3 {n L k:Nat} {f:Rat} {v:Rat} (hf:Sz f L) (hL:L<=1000) (hk:k<=8) (hn:68719476736<=n):A47 n (jc f v) (k:Int)=some (rq (Q4.d1 f k),rq (Q4.d2 f k)):=by
 unfold A47;rw [iW0 hn,A1,A1];dsimp only;rw [show (jc f v).1=rq f from rfl]
 match k with
 | 0=>rfl
 | 1 =>
  rw [show decide (((1:Nat):Int)>=1)=true from rfl,ZS,show W (((1:Nat):Int)-1)=((0:Nat):Int) from rfl,Pj hf (by omega) (by omega) hn,A1,iW (by omega) hn,A1,C3 (Kr hf 0) (Kt (a:=((1:Nat):Int)) (by omega)) (by omega) hn,A1]
  rfl
 | k+2 =>
  have h2:(k+2)*(k+1)<=8*8:=ZK (by omega) (by omega)
  have l1:L*(k+1)<=L*8:=XF _ (by omega)
  have l2:L*k<=L*8:=XF _ (by omega)
  rw [QI,QK (by omega),Ab (x:=((k+2:Nat):Int)-1) (by omega) (by omega),show ((k+2:Nat):Int)-1=((k+1:Nat):Int) by omega,Pj hf (by omega) (by omega) hn,A1,iW (by omega) hn,A1,
   C3 (Kr hf (k+1)) (Kt (a:=((k+2:Nat):Int)) (by omega)) (by omega) hn,A1,QI,QK (by omega),
   Ab (x:=((k+2:Nat):Int)-2) (by omega) (by omega),show ((k+2:Nat):Int)-2=((k:Nat):Int) by omega,Pj hf (by omega) (by omega) hn,A1,show ((k+2:Nat):Int)*((k+1:Nat):Int)=(((k+2)*(k+1):Nat):Int) by rw [XW],
   Ab (x:=(((k+2)*(k+1):Nat):Int)) (by omega) (by omega),iW (by rw [XI];omega) hn,A1,C3 (Kr hf k) (Kt (a:=(((k+2)*(k+1):Nat):Int)) (by rw [XI];omega)) (by omega) hn,A1]
  rfl

structure Pb (q:Q4) (L:Nat):Prop where
 f:Sz q.f L
 a:Sz q.a L
 v:Sz q.v L
 c:Sz q.c L

theorem Pb.mono {q:Q4} {L K:Nat} (h:Pb q L) (hK:L<=K):Pb q K:=⟨h.f.mono hK,h.a.mono hK,h.v.mono hK,h.c.mono hK⟩

theorem B25 {r:Rat} {L:Nat} (h:Sz r L) (h1:1<=L):Pb (Q4.cst r) L:=⟨h,Bx.mono h1,Bx.mono h1,Bx.mono h1⟩

theorem Ak4 {p:Q4} {L:Nat} (hp:Pb p L):Pb (Q4.neg p) L:=⟨Eg hp.f,Eg hp.a,Eg hp.v,Eg hp.c⟩

theorem A5m {x:Rat} {L:Nat} (h:Sz x L) (h0:x ≠ 0):Sz (1 / x) (L+4):=(B24 (Qw (L:=1) (by omega)) h h0).mono (by omega)

theorem Ak5 {p:Q4} {L:Nat} (hp:Pb p L) (h0:p.f ≠ 0):Pb (Q4.inv p) (8*L+60):=by
 have r:=A5m hp.f h0;have r2:=Aj r r;have r3:=Aj r2 r
 have t3:=Aj (show Sz 2 1 from Ir (c:=2) (by omega)) r3
 refine ⟨r.mono (by omega),(Eg (Aj hp.a r2)).mono (by omega),(Eg (Aj hp.v r2)).mono (by omega),?_⟩
 show Sz (_-_) _;rw [Rat.sub_eq_add_neg]
 exact (Jt (Aj t3 (Aj hp.a hp.v)) (Eg (Aj hp.c r2))).mono (by omega)

def Pm (e:List Nod) (d:Int):Prop:=∀ k,k<e.length->Dd (e.getD k (0,0,0,0)) k/\((e.getD k (0,0,0,0)).1=2->(e.getD k (0,0,0,0)).2.2.2<d)

theorem A5b {e:List Nod} {i:Nat} (h:i<e.length):e.drop i=e.getD i (0,0,0,0)::e.drop (i+1):=by
 rw [XG h,QJ,QM h];rfl

theorem Anf {l:List Q4} {q:Q4} {k:Nat} (h:k<l.length):(l++[q]).getD k (Q4.cst 0)=l.getD k (Q4.cst 0):=by
 simp only [QJ,ZC h]

theorem Ang {l:List Q4} {q:Q4}:(l++[q]).getD l.length (Q4.cst 0)=q:=by
 rw [QJ,ZD (QZ _)];simp

theorem Ip {l:List Q4} {k:Nat} (h:l.length<=k):l.getD k (Q4.cst 0)=Q4.cst 0:=by
 rw [QJ,KH h];rfl

theorem Abl {x u w:Nat->Rat} {l:List Q4} {n:Nod} (h:n.1=8):(Av x u w l n).f=(l.getD n.2.1.toNat (Q4.cst 0)).f ^ n.2.2.2.toNat:=by
 unfold Av
 rw [QH (by omega),QH (by omega),QH (by omega),QH (by omega),QH (by omega),QH (by omega),QH (by omega),Q4.pow_eq]

theorem A9y {x:Nod} {i:Int} (h:Xg x i):Dd x i:=by
 obtain ⟨h1,h2⟩:=h;unfold Dd Kx Dg;grind

theorem A3b:∀ (r:List Nod) (bs ds:List Int) (p:List Int × List Int),Hu bs ds r=some p->∀ j,j<r.length->Dd (r.getD j (0,0,0,0)) ((bs.length+j:Nat):Int)
 | [],bs,ds,p,h,j,hj=>by simp at hj
 | x::r,bs,ds,p,h,j,hj=>by
  simp only [Hu] at h;split at h
  . rename_i hok
    cases j with
    | zero=>exact A9y hok.1
    | succ j =>
     have:=A3b r _ _ p h j (by simpa using hj)
     simp only [YQ,ZE,XZ] at this;simp only [JO]
     rw [show bs.length+(j+1)=bs.length+1+j by omega]
     exact this
  . cases h

theorem Ajw:∀ (l:List Nod) (s:Int),s<=Jp s l /\ ∀ x ∈ l,x.1=2->0<=x.2.2.2/\x.2.2.2<=3->x.2.2.2<Jp s l
 | [],s=>⟨KX _,λx h=>by simp at h⟩
 | y::l,s=>by
  obtain ⟨h1,h2⟩:=Ajw l (if y.1=2 then max s (W (y.2.2.2+1)) else s)
  have e:Jp s (y::l)=Jp (if y.1=2 then max s (W (y.2.2.2+1)) else s) l:=rfl
  rw [e];refine ⟨Int.le_trans ?_ h1,λx hx hx2 hx3=>?_⟩
  . split <;> omega
  . rcases QT.1 hx with rfl | hx
    . rw [QK hx2,Ab (by omega) (by omega)] at h1 ⊢
      omega
    . exact h2 x hx hx2 hx3

theorem B23 {e:List Nod} {d:Int} (h:Lv e) (hd:Jp 0 e<=d):Pm e d:=λk hk=>by
 obtain ⟨_,bs,ds,hr,_⟩:=h;have hp:=A3b e [] [] _ hr k hk;simp only [XZ,YK] at hp;refine ⟨hp,λh2=>?_⟩
 have hm:e.getD k (0,0,0,0) ∈ e:=by
  rw [QJ,QM hk];exact KM hk
 have:=(Ajw e 0).2 _ hm h2 (by have:=hp.2.1;unfold Kx at this;rw [QH (by omega),QK h2] at this;exact this)
 omega

def P0 (e:List Nod):Bool:=decide (1<=e.length/\e.length<=60)&&match Hu [] [] e with
 | none=>false
 | some (bs,ds)=>decide (bs.getD (e.length-1) 0=0)&&ds.all λx=>decide (x<=12)

theorem Wr {e:List Nod}:P0 e=true ↔ Lv e:=by
 unfold P0 Lv
 cases h:Hu [] [] e with
 | none=>simp
 | some p =>
  obtain ⟨bs,ds⟩:=p;simp only [QF,QP,QL]
  exact ⟨λ⟨h1,h2,h3⟩=>⟨h1,bs,ds,rfl,h2,h3⟩,λ⟨h1,b2,d2,hq,h2,h3⟩=>by
   obtain ⟨rfl,rfl⟩:=KN (QA hq)
   exact ⟨h1,h2,h3⟩⟩

def A2u (e:List Nod) (l:List Rt):Int:=if 4096<l.length then 2 else if P0 e=true/\Ml l=true then (if (l.length:Int)<Jp 0 e then 8 else 0) else 1

open Classical in
theorem Aic {n:Nat} {e:List Nod} {l:List Rt} (hN:e.length<=1048576) (hn:1048577<=n):f95 n e l=some (A2u e l):=by
 unfold f95 f164 A2u
 rw [Aia (by simp) hn,A1,B0l hN hn,A1,Hh,A1,A1,A7c hn,A1,Hh,A1,N3 (by simp) hn,A1]
 have hL:Ac3 [l]=decide (4096<l.length):=by simp [Ac3]
 rw [hL]
 have hB:∀ d:Decidable (Lv e),@decide (Lv e) d=P0 e:=λd=>by
  cases hb:P0 e with
  | true=>exact ZA (Wr.1 hb)
  | false=>exact QU λh=>by rw [Wr.2 h] at hb;cases hb
 rw [hB];by_cases h1:4096<l.length
 . simp only [h1,decide_true,if_true]
   rw [show L6 [2,if P0 e=true then 0 else 1,if Ml l=true then 0 else 1]=2 from rfl,show ((2:Int) != 0)=true from rfl,ZS,Hh,A1,N3 (by simp) hn];rfl
 . simp only [h1,decide_false,if_false,XS]
   cases h2:P0 e with
   | true =>
    cases h3:Ml l with
    | true =>
     simp only [if_true,and_self]
     rw [show L6 [0,0,0]=0 from rfl,show ((0:Int) != 0)=false from rfl,QV,B17 hN hn,A1,Hh,A1,N3 (by simp) hn,A1]
     by_cases h4:(l.length:Int)<Jp 0 e
     . rw [QK h4,QH (by simp;omega)];rfl
     . rw [QH h4,QK (by simp;omega)];rfl
    | false =>
     simp only [if_true,XS,if_false,and_false]
     rw [show L6 [0,0,1]=1 from rfl,show ((1:Int) != 0)=true from rfl,ZS,Hh,A1,N3 (by simp) hn];rfl
   | false =>
    simp only [if_false,XS,Qal]
    rw [show ∀ b:Int,L6 [0,1,b]=1 from λ_=>rfl,show ((1:Int) != 0)=true from rfl,ZS,Hh,A1,N3 (by simp) hn];rfl

def Ak9 (x v:List Rt):Int:=if Ml v=true then (if v.length=x.length then 0 else 8) else 1

def Aag (e:List Nod) (x v:List Rt):Int:=if 4096<x.length \/ 4096<v.length then 2 else if A2u e x ≠ 0 then A2u e x else Ak9 x v

theorem Azc {n:Nat} {x v:List Rt} (hn:1048577<=n):f99 n x v=some (Ak9 x v):=by
 unfold f99 Ak9
 rw [A7c hn,A1,Hh,A1,Hh,A1,N3 (by simp) hn,A1]
 cases h1:Ml v with
 | false=>rfl
 | true =>
  simp only [if_true];by_cases h2:v.length=x.length
  . rw [QK h2,QK (by simp [h2])];rfl
  . rw [QH h2,QH (by simp;omega)];rfl

theorem B7m {x v:List Rt}:Ac3 [x,v]=decide (4096<x.length \/ 4096<v.length):=by
 unfold Ac3;by_cases h1:4096<x.length <;> by_cases h2:4096<v.length <;> simp [h1,h2]

theorem A39 {n:Nat} {e:List Nod} {x v:List Rt} (hN:e.length<=1048576) (hn:1048577<=n) {α:Type} {k:Int->Option α} :
  (ob (f98 n [x,v]) λr_1=>ob (f95 n e x) λr_2=>ob (f99 n x v) λr_3=>ob (f68 n [r_1,r_2,r_3]) λr_4=>k r_4)=k (Aag e x v):=by
 rw [Aia (by simp) hn,A1,Aic hN hn,A1,Azc hn,A1,N3 (by simp) hn,A1,B7m]
 congr 1;unfold Aag L6 L6 L6;by_cases h1:4096<x.length \/ 4096<v.length
 . simp [h1]
 . simp only [h1,decide_false,if_false,XS,if_true];by_cases h2:A2u e x=0
   . simp only [h2,if_true,not_true_eq_false,ne_eq,if_false];unfold L6;split <;> simp_all
   . simp [h2]

theorem div_one {x y:Rat}:x / y=x*(1 / y):=by rw [Rat.div_def,Rat.div_def,Rat.one_mul]

def B7r (q:Q4):Bool:=Bn q.f

theorem B61 {f d:Nat->Rat} {n:Nod} (hf:∀ k,Sz (f k) 40) (h6:n.1=6->f n.2.2.1.toNat ≠ 0) (h8:n.1=8->n.2.2.2.toNat<=8):Sz (Kw f d n).a 330/\Sz (Kw f d n).b 330:=by
 have z:Sz 0 330:=Bx.mono (by omega)
 have o:Sz 1 330:=Qw (by omega)
 have m:Sz (-1) 330:=Eg o;unfold Kw;dsimp only;split
 . exact ⟨o,o⟩
 split
 . exact ⟨o,m⟩
 split
 . exact ⟨(hf _).mono (by omega),(hf _).mono (by omega)⟩
 split
 . rename_i h;have r:=A5m (hf n.2.2.1.toNat) (h6 h)
   exact ⟨r.mono (by omega),(Eg (Aj (hf n.2.1.toNat) (Aj r r))).mono (by omega)⟩
 split
 . exact ⟨m,z⟩
 split
 . rename_i h
   exact ⟨(Anh (hf n.2.1.toNat) (h8 h)).mono (by omega),z⟩
 . exact ⟨z,z⟩

def bigH:Nat:=10000 ^ 400

set_option exponentiation.threshold 100000 in
theorem Anj {x:Rat} {L:Nat} (h:Sz x L) (hL:L<=400):Hb x bigH:=by
 have e:10000 ^ L<=bigH:=KA (by omega) hL
 exact ⟨by have:=Hg h.1;omega,by have:=Hg h.2;omega⟩

set_option exponentiation.threshold 100000 in
theorem Ax1:1<=bigH:=JL (by omega)

def X8 (i:Nat):Nat:=10000 ^ (801*i)

set_option exponentiation.threshold 100000 in
theorem Afn (i:Nat):2*(bigH*bigH*X8 i)<=X8 (i+1):=by
 unfold bigH X8;rw [<- Nat.pow_add,<- Nat.pow_add,Nat.mul_succ]
 have:(10000:Nat) ^ (801*i+801)=10000 ^ (400+400+801*i)*10000:=by rw [<- YV];congr 1;omega
 rw [this,YP 2]
 exact XF _ (by omega)

set_option exponentiation.threshold 100000 in
theorem B5w {x:Rat} {i:Nat} (h:Hb x (X8 i)) (hi:i<=60):Sz x 48061:=by
 have e:X8 i<10000 ^ 48061:=by
  unfold X8
  exact Nat.pow_lt_pow_right (by omega) (by omega)
 exact ⟨Df (Nat.lt_of_le_of_lt h.1 e),Df (Nat.lt_of_le_of_lt h.2 e)⟩

structure Pa (X V:List Rat) (e:List Nod):Prop where
 all:Pm e X.length
 len:e.length<=60
 vx:V.length=X.length
 sX:Sv X 40
 sV:Sv V 40
 fit:∀ k,Sz ((evs (Al X) (λ_=>0) (Al V) e []).getD k (Q4.cst 0)).f 40
 ok:∀ i,i<e.length->¬ Oa (evs (Al X) (λ_=>0) (Al V) (e.take i) []) (e.getD i (0,0,0,0))

theorem Pa.of {X V:List Rat} {e:List Nod} {l:List Q4} (ha:Pm e X.length) (hl:e.length<=60) (hv:V.length=X.length) (sX:Sv X 40) (sV:Sv V 40) (h:evC B7r (Al X) (λ_=>0) (λ_=>0) e [] = .inl l):Pa X V e:=by
 obtain ⟨h1,h2⟩:=Aju e [] l (λk hk=>by simp at hk) h
 refine ⟨ha,hl,hv,sX,sV,λk=>?_,λi hi hb=>?_⟩
 . rw [Axi (Al X) (λ_=>0) (Al V) (λ_=>0) (λ_=>0) e k,<- h2];rcases ZZ k l.length with h3 | h3
   . exact J8.1 (h1 k h3)
   . rw [Ip h3];exact Bx.mono (by omega)
 . refine Ajt e [] l h i hi ⟨hb.1,?_⟩;rw [Axi (Al X) (λ_=>0) (λ_=>0) (λ_=>0) (Al V)];exact hb.2

theorem Pa.pre {X V:List Rat} {e:List Nod} (h:Pa X V e) {i:Nat} (hi:i<=e.length) (k:Nat):Sz ((evs (Al X) (λ_=>0) (Al V) (e.take i) []).getD k (Q4.cst 0)).f 40:=by
 rcases ZZ k i with h1 | h1
 . rw [B1t _ _ _ e h1 hi];exact h.fit k
 . rw [Ip (by rw [A7e];simp;omega)];exact Bx.mono (by omega)

theorem Pa.cd {X V:List Rat} {e:List Nod} (h:Pa X V e):∀ {i:Nat},i<=e.length->CD ((evs (Al X) (λ_=>0) (Al V) (e.take i) []).map Q4.v) (X8 i)
 | 0,_=>by simpa [evs,X8] using B5s
 | i+1,hi=>by
  have ih:=h.cd (i:=i) (by omega)
  have hi':i<e.length:=by omega
  obtain ⟨hp,hd⟩:=h.all i hi';have hbad:=h.ok i hi'
  have hf:=h.pre (i:=i) (by omega)
  rw [Awv _ _ _ _ hi',KQ];generalize hl:evs (Al X) (λ_=>0) (Al V) (e.take i) []=l at *;generalize hx:e.getD i (0,0,0,0)=x at *;by_cases h2:x.1=2
  . have hv:(Av (Al X) (λ_=>0) (Al V) l x).v=Al V x.2.2.2.toNat:=by unfold Av;rw [QH (by omega),QK h2]
    simp only [QS,XV,hv];have hN:=hp.2.1;unfold Kx at hN
    rw [QH (by omega),QK h2] at hN
    have:=hd h2
    have sv:Sz (Al V x.2.2.2.toNat) 40:=h.sV.get (by have:=h.vx;omega)
    exact (ih.one (Anj sv (by omega)) Ax1).mono (Afn i)
  . have hq:=(Ayr (Al X) (λ_=>0) (Al V) (λk=>l.getD k (Q4.cst 0)) x hp.1 h2).2.1;rw [<- Ayq] at hq;simp only [QS,XV]
    obtain ⟨sa,sb⟩:=B61 (f:=λk=>(l.getD k (Q4.cst 0)).f) (d:=λk=>(l.getD k (Q4.cst 0)).v) (n:=x) hf (λh6 h0=>hbad ⟨h6,h0⟩) (λh8=>by
     have hN:=hp.2.1;unfold Kx at hN
     rw [QH (by omega),QH (by omega),QK h8] at hN;omega)
    have mem:∀ k,(l.getD k (Q4.cst 0)).v ∈ l.map Q4.v \/ (l.getD k (Q4.cst 0)).v=0:=λk=>by
     rcases ZZ k l.length with h3 | h3
     . left;rw [QJ,QM h3];exact ZL.2 ⟨_,KM h3,rfl⟩
     . right;rw [Ip h3];rfl
    exact (ih.step (Anj sa (by omega)) (Anj sb (by omega)) (mem _) (mem _) hq).mono (Afn i)

theorem Pa.sv {X V:List Rat} {e:List Nod} (h:Pa X V e) {i:Nat} (hi:i<=e.length) (k:Nat):Sz ((evs (Al X) (λ_=>0) (Al V) (e.take i) []).getD k (Q4.cst 0)).v 48061:=by
 generalize hl:evs (Al X) (λ_=>0) (Al V) (e.take i) []=l;rcases ZZ k l.length with h3 | h3
 . have:=h.cd hi;rw [hl] at this
   have hm:(l.getD k (Q4.cst 0)).v ∈ l.map Q4.v:=by
    rw [QJ,QM h3];exact ZL.2 ⟨_,KM h3,rfl⟩
   exact B5w (this.hb hm) (by have:=h.len;omega)
 . rw [Ip h3];exact Bx.mono (by omega)

def rA (A:Nat) (g:Nat->Rat):List Rt:=(List.range A).map λi=>rq (g i)

theorem Ap (A:Nat) (g:Nat->Rat):(rA A g).length=A:=by simp [rA]

theorem B1 {A i:Nat} {g:Nat->Rat} (h:i<A):(rA A g).getD i (false,[],[])=rq (g i):=by
 simp [rA,QJ,h]

theorem E8 (i:Nat) (g:Nat->Rat):rA i g++[rq (g i)]=rA (i+1) g:=by simp [rA,Qax]

theorem Kb {A:Nat} {g:Nat->Rat} (h:0<A):(!(rA A g).isEmpty)=true:=by
 cases A with
 | zero=>omega
 | succ A=>simp [rA,Qax]

theorem Fj {A:Nat} {g h:Nat->Rat} (e:∀ i,i<A->g i=h i):rA A g=rA A h:=by
 unfold rA
 exact ZB λi hi=>by rw [e i (XJ.1 hi)]

theorem Ayp (A:Nat):rA A (λ_=>0)=vq (List.replicate A 0):=by
 unfold rA vq;rw [List.map_replicate];apply List.ext_getElem
 . simp
 . intro i h1 h2;simp

theorem Ao3 {A k:Nat} {g:Nat->Rat} {y:Rat}:(rA A g).set k (rq y)=rA A (λi=>if k=i then y else g i):=by
 apply List.ext_getElem
 . simp [rA]
 . intro i h1 h2;simp only [rA,List.length_set,ZX,KV] at h1;rw [List.getElem_set];simp only [rA,List.getElem_map,List.getElem_range];by_cases e:k=i
   . rw [QK e,QK e]
   . rw [QH e,QH e]

def gn (A:Nat) (f v:Rat) (a:Nat->Rat):Jn:=(rq f,rA A a,(),rq v)

def gc (A:Nat) (f v:Rat) (a c:Nat->Rat):Jc:=(rq f,rA A a,rA A c,rq v)

theorem Axu {n A:Nat} (hA:A<=100) (hn:68719476736<=n):f72 n (A:Int)=some (rA A λ_=>0):=by
 have loop:∀ {α:Type} {k0:List Rt->Option α} (m i:Nat),i<=A->A<i+m->A44 n m (A:Int) (i:Int) (rA i λ_=>0) k0=k0 (rA A λ_=>0):=by
  intro α k0 m
  induction m with
  | zero=>intro i h1 h2;omega
  | succ m ih =>
   intro i h1 h2;rw [Avl];unfold A6n;rw [QI];by_cases h:i<A
   . rw [QK (by omega),iW0 hn,A1,A3 (by rw [Ap];simp;omega),Ab (by omega) (by omega)]
     rw [show rA i (λ_=>0)++[rq 0]=rA (i+1) (λ_=>0) from E8 i _]
     exact ih (i+1) (by omega) (by omega)
   . obtain rfl:i=A:=by omega
     rw [QH (by omega)]
 unfold f72
 exact loop (k0:=λz_2=>some z_2) n 0 (by omega) (by omega)

theorem Ap7 {n A:Nat} (hA:A<=100) (hn:68719476736<=n):A0e n (A:Int)=some (rA A λ_=>0):=by
 rw [Av4 (by omega) (by omega),Ayp]

theorem Vc {α:Type} {n A L:Nat} {f v g w:Rat} {a b c d a2 c2:Nat->Rat} (sa:∀ i,Sz (a i) L) (sb:∀ i,Sz (b i) L) (sc:∀ i,Sz (c i) L) (sd:∀ i,Sz (d i) L) (hA:A<=100) (hL:L<=100000) (hn:68719476736<=n) (ha:∀ i,a2 i=a i+b i) (hc:∀ i,c2 i=c i+d i) {R S:Rt} {k0:Bool->Bool->Bool->List Int->List Int->Bool->List Int->List Int->List Rt->Option α}:∀ (m i:Nat),i<=A->A<i+m ->
  Y3 n m (rA A a) (A:Int) (i:Int) (rq f).1 (rq f).2.1 (rq f).2.2 (rA A a) (rq v).1 (rq v).2.1 (rq v).2.2 (rq g).1 (rq g).2.1 (rq g).2.2 (rA A b) (rq w).1 (rq w).2.1 (rq w).2.2 false false R.1 R.2.1 R.2.2 S.1 S.2.1 S.2.2 (rA i a2) k0=k0 false false R.1 R.2.1 R.2.2 S.1 S.2.1 S.2.2 (rA A a2)
 | 0,i,hi,hm=>by omega
 | m+1,i,hi,hm=>by
  rw [Aqm];unfold A0s;rw [QI];by_cases h:i<A
  . rw [QK (by omega),Ap,A3 (by simp;omega),QQ,B1 h]
    dsimp only
    rw [Ap,A3 (by simp;omega),B1 h,Fc (sa i) (sb i) (by omega) hn,A1,A3 (by rw [Ap];simp;omega),Ab (by omega) (by omega),<- ha i,E8]
    exact Vc (f:=f) (v:=v) (g:=g) (w:=w) (a:=a) (b:=b) (c:=c) (d:=d) (a2:=a2) (c2:=c2) sa sb sc sd hA hL hn ha hc m (i+1) (by omega) (by omega)
  . obtain rfl:i=A:=by omega
    rw [QH (by omega)]

theorem Az6 {n A L:Nat} {f v g w:Rat} {a b c d:Nat->Rat} (sf:Sz f L) (sg:Sz g L) (sv:Sz v L) (sw:Sz w L) (sa:∀ i,Sz (a i) L) (sb:∀ i,Sz (b i) L) (sc:∀ i,Sz (c i) L) (sd:∀ i,Sz (d i) L) (hA:A<=100) (hL:L<=100000) (hn:68719476736<=n) :
  f217 n (gn A f v a) (gn A g w b)=some (gn A (f+g) (v+w) (λi=>a i+b i)):=by
 unfold f217 gn;dsimp only
 rw [Fc sf sg (by omega) hn,A1,Fc sv sw (by omega) hn,A1,Ap,QI]
 by_cases h:0<A
 . rw [QK (by omega),A3 (by simp;omega),B1 h,Ap,A3 (by simp;omega),B1 h,Fc (sa 0) (sb 0) (by omega) hn,A1]
   have hl:=Vc (n:=n) (A:=A) (f:=f) (v:=v) (g:=g) (w:=w) sa sb sc sd hA hL hn (a2:=(λi=>a i+b i)) (c2:=(λi=>c i+d i)) (λ_=>rfl) (λ_=>rfl) (R:=rq (f+g)) (S:=rq (v+w))
    (k0:=λz_9 z_10 z_11 z_12 z_13 z_14 z_15 z_16 z_17=>(some (((z_11,z_12,z_13),z_17,(),z_14,z_15,z_16):Jn))) n 1 (by omega) (by omega)
   exact hl
 . obtain rfl:A=0:=by omega
   rw [QH (by omega)];rfl

theorem U4 {α:Type} {n A L:Nat} {f v g w:Rat} {a b c d a2 c2:Nat->Rat} (sf:Sz f L) (sg:Sz g L) (sv:Sz v L) (sw:Sz w L) (sa:∀ i,Sz (a i) L) (sb:∀ i,Sz (b i) L) (sc:∀ i,Sz (c i) L) (sd:∀ i,Sz (d i) L) (hA:A<=100) (hL:L<=100000) (hn:68719476736<=n) (ha:∀ i,a2 i=a i*g+f*b i) (hc:∀ i,c2 i=c i*g+a i*w+v*b i+f*d i) {R S:Rt} {k0:Bool->Bool->Bool->List Int->List Int->Bool->List Int->List Int->List Rt->Option α}:∀ (m i:Nat),i<=A->A<i+m ->
  Y2 n m (rA A a) (A:Int) (i:Int) (rq f).1 (rq f).2.1 (rq f).2.2 (rA A a) (rq v).1 (rq v).2.1 (rq v).2.2 (rq g).1 (rq g).2.1 (rq g).2.2 (rA A b) (rq w).1 (rq w).2.1 (rq w).2.2 false false R.1 R.2.1 R.2.2 S.1 S.2.1 S.2.2 (rA i a2) k0=k0 false false R.1 R.2.1 R.2.2 S.1 S.2.1 S.2.2 (rA A a2)
 | 0,i,hi,hm=>by omega
 | m+1,i,hi,hm=>by
  rw [Aqh];unfold A0p;rw [QI];by_cases h:i<A
  . rw [QK (by omega),Ap,A3 (by simp;omega),QQ,B1 h]
    dsimp only
    have tm:∀ {x y:Rat},Sz x L->Sz y L->f103 n ((rq x).1,(rq x).2.1,(rq x).2.2) (rq y)=some (rq (x*y)):=λhx hy=>C3 hx hy (by omega) hn
    have tm2:∀ {x y:Rat},Sz x L->Sz y L->f103 n (rq x) ((rq y).1,(rq y).2.1,(rq y).2.2)=some (rq (x*y)):=λhx hy=>C3 hx hy (by omega) hn
    have tm0:∀ {x y:Rat},Sz x L->Sz y L->f103 n (rq x) (rq y)=some (rq (x*y)):=λhx hy=>C3 hx hy (by omega) hn
    rw [Ap,A3 (by simp;omega),B1 h,tm2 (sa i) sg,A1,tm sf (sb i),A1,Fc (Aj (sa i) sg) (Aj sf (sb i)) (by omega) hn,A1,A3 (by rw [Ap];simp;omega),Ab (by omega) (by omega),<- ha i,E8]
    exact U4 (c:=c) (d:=d) (c2:=c2) sf sg sv sw sa sb sc sd hA hL hn ha hc m (i+1) (by omega) (by omega)
  . obtain rfl:i=A:=by omega
    rw [QH (by omega)]

theorem Av6 {n A L:Nat} {f v g w:Rat} {a b c d:Nat->Rat} (sf:Sz f L) (sg:Sz g L) (sv:Sz v L) (sw:Sz w L) (sa:∀ i,Sz (a i) L) (sb:∀ i,Sz (b i) L) (sc:∀ i,Sz (c i) L) (sd:∀ i,Sz (d i) L) (hA:A<=100) (hL:L<=100000) (hn:68719476736<=n) :
  f219 n (gn A f v a) (gn A g w b)=some (gn A (f*g) (v*g+f*w) (λi=>a i*g+f*b i)):=by
 have tm0:∀ {x y:Rat},Sz x L->Sz y L->f103 n (rq x) (rq y)=some (rq (x*y)):=λhx hy=>C3 hx hy (by omega) hn
 unfold f219 gn;dsimp only
 rw [tm0 sf sg,A1,tm0 sv sg,A1,tm0 sf sw,A1,Fc (Aj sv sg) (Aj sf sw) (by omega) hn,A1,Ap,QI]
 by_cases h:0<A
 . rw [QK (by omega),A3 (by simp;omega),B1 h,Ap,A3 (by simp;omega),B1 h,tm0 (sa 0) sg,A1,tm0 sf (sb 0),A1,Fc (Aj (sa 0) sg) (Aj sf (sb 0)) (by omega) hn,A1]
   have hl:=U4 (n:=n) (A:=A) sf sg sv sw sa sb sc sd hA hL hn (a2:=(λi=>a i*g+f*b i)) (c2:=(λi=>c i*g+a i*w+v*b i+f*d i)) (λ_=>rfl) (λ_=>rfl) (R:=rq (f*g)) (S:=rq (v*g+f*w))
    (k0:=λz_9 z_10 z_11 z_12 z_13 z_14 z_15 z_16 z_17=>(some (((z_11,z_12,z_13),z_17,(),z_14,z_15,z_16):Jn))) n 1 (by omega) (by omega)
   exact hl
 . obtain rfl:A=0:=by omega
   rw [QH (by omega)];rfl

theorem A3t {α:Type} {n A L:Nat} {f v k:Rat} {a c a2 c2:Nat->Rat} {s4:(Bool × List Int × List Int × List Rt × Unit × Bool × List Int × List Int) × Rt} (sk:Sz k L) (sa:∀ i,Sz (a i) L) (sc:∀ i,Sz (c i) L) (hA:A<=100) (hL:L<=100000) (hn:68719476736<=n) (ha:∀ i,a2 i=a i*k) (hc:∀ i,c2 i=c i*k) {R S:Rt} {k0:Bool->Bool->Bool->List Int->List Int->Bool->List Int->List Int->List Rt->Option α}:∀ (m i:Nat),i<=A->A<i+m ->
  Fe n m (rq k) s4 (rA A a) (A:Int) (i:Int) (rq f).1 (rq f).2.1 (rq f).2.2 (rA A a) (rq v).1 (rq v).2.1 (rq v).2.2 false false R.1 R.2.1 R.2.2 S.1 S.2.1 S.2.2 (rA i a2) k0=k0 false false R.1 R.2.1 R.2.2 S.1 S.2.1 S.2.2 (rA A a2)
 | 0,i,hi,hm=>by omega
 | m+1,i,hi,hm=>by
  rw [Yz];unfold Ha;rw [QI];by_cases h:i<A
  . rw [QK (by omega),Ap,A3 (by simp;omega),QQ,B1 h]
    dsimp only
    have e221:f227 n (rq (a i)) (rq k)=some (rq (a i*k)):=by unfold f227;rw [C3 (sa i) sk (by omega) hn,A1]
    rw [e221,A1,A3 (by rw [Ap];simp;omega),Ab (by omega) (by omega),<- ha i,E8]
    exact A3t (f:=f) (v:=v) (c:=c) (c2:=c2) sk sa sc hA hL hn ha hc m (i+1) (by omega) (by omega)
  . obtain rfl:i=A:=by omega
    rw [QH (by omega)]

theorem B68 {n A L:Nat} {f v k:Rat} {a c:Nat->Rat} (sf:Sz f L) (sv:Sz v L) (sk:Sz k L) (sa:∀ i,Sz (a i) L) (sc:∀ i,Sz (c i) L) (hA:A<=100) (hL:L<=100000) (hn:68719476736<=n) :
  f218 n (gn A f v a) (rq k)=some (gn A (f*k) (v*k) (λi=>a i*k)):=by
 have e221:f227 n (rq (a 0)) (rq k)=some (rq (a 0*k)):=by unfold f227;rw [C3 (sa 0) sk (by omega) hn,A1]
 unfold f218 gn;dsimp only
 rw [C3 sf sk (by omega) hn,A1,C3 sv sk (by omega) hn,A1]
 unfold Nf;dsimp only;rw [Ap,QI];by_cases h:0<A
 . rw [QK (by omega),A3 (by simp;omega),B1 h,e221,A1]
   have hl:=A3t (n:=n) (A:=A) (f:=f) (v:=v) (s4:=(((rq f).1,(rq f).2.1,(rq f).2.2,rA A a,(),(rq v).1,(rq v).2.1,(rq v).2.2),rq k)) sk sa sc hA hL hn (a2:=(λi=>a i*k)) (c2:=(λi=>c i*k)) (λ_=>rfl) (λ_=>rfl) (R:=rq (f*k)) (S:=rq (v*k))
    (k0:=λz_9 z_10 z_11 z_12 z_13 z_14 z_15 z_16 z_17=>(some (((z_11,z_12,z_13),z_17,(),z_14,z_15,z_16):Jn))) n 1 (by omega) (by omega)
   exact ZN (λz=>ob z λr_3=>some r_3) hl
 . obtain rfl:A=0:=by omega
   rw [QH (by omega),A1];rfl

theorem U5 {α:Type} {n A L:Nat} {f v d e:Rat} {a c a2 c2:Nat->Rat} {s4:Rt × (Bool × List Int × List Int × List Rt × Unit × Bool × List Int × List Int) × Rt} (sd:Sz d L) (se:Sz e L) (sv:Sz v L) (sa:∀ i,Sz (a i) L) (sc:∀ i,Sz (c i) L) (hA:A<=100) (hL:L<=100000) (hn:68719476736<=n) (ha:∀ i,a2 i=d*a i) (hc:∀ i,c2 i=e*a i*v+d*c i) {R S:Rt} {k0:Bool->Bool->Bool->List Int->List Int->Bool->List Int->List Int->List Rt->Option α}:∀ (m i:Nat),i<=A->A<i+m ->
  Fd n m (rq d) s4 (rA A a) (A:Int) (i:Int) (rq f).1 (rq f).2.1 (rq f).2.2 (rA A a) (rq v).1 (rq v).2.1 (rq v).2.2 false false R.1 R.2.1 R.2.2 S.1 S.2.1 S.2.2 (rA i a2) k0=k0 false false R.1 R.2.1 R.2.2 S.1 S.2.1 S.2.2 (rA A a2)
 | 0,i,hi,hm=>by omega
 | m+1,i,hi,hm=>by
  rw [Yw];unfold H7;rw [QI];by_cases h:i<A
  . rw [QK (by omega),Ap,A3 (by simp;omega),QQ,B1 h]
    dsimp only
    have e232:f233 n (rq (a i)) (rq d)=some (rq (d*a i)):=by unfold f233;rw [C3 sd (sa i) (by omega) hn,A1]
    rw [e232,A1,A3 (by rw [Ap];simp;omega),Ab (by omega) (by omega),<- ha i,E8]
    exact U5 (f:=f) (c:=c) (c2:=c2) sd se sv sa sc hA hL hn ha hc m (i+1) (by omega) (by omega)
  . obtain rfl:i=A:=by omega
    rw [QH (by omega)]

theorem Acc {n A L:Nat} {f v g d e:Rat} {a c:Nat->Rat} (sv:Sz v L) (sd:Sz d L) (se:Sz e L) (sa:∀ i,Sz (a i) L) (sc:∀ i,Sz (c i) L) (hA:A<=100) (hL:L<=100000) (hn:68719476736<=n) :
  f229 n (gn A f v a) (rq g) (rq d) (rq e)=some (gn A g (d*v) (λi=>d*a i)):=by
 have e232:f233 n (rq (a 0)) (rq d)=some (rq (d*a 0)):=by unfold f233;rw [C3 sd (sa 0) (by omega) hn,A1]
 unfold f229 gn;dsimp only
 rw [C3 sd sv (by omega) hn,A1]
 unfold N8;dsimp only;rw [Ap,QI];by_cases h:0<A
 . rw [QK (by omega),A3 (by simp;omega),B1 h,e232,A1]
   have hl:=U5 (n:=n) (A:=A) (f:=f) (s4:=(rq e,((rq f).1,(rq f).2.1,(rq f).2.2,rA A a,(),rq v),rq d)) sd se sv sa sc hA hL hn (a2:=(λi=>d*a i)) (c2:=(λi=>e*a i*v+d*c i)) (λ_=>rfl) (λ_=>rfl) (R:=rq g) (S:=rq (d*v))
    (k0:=λz_9 z_10 z_11 z_12 z_13 z_14 z_15 z_16 z_17=>(some (((z_11,z_12,z_13),z_17,(),z_14,z_15,z_16):Jn))) n 1 (by omega) (by omega)
   exact ZN (λz=>ob z λr_2=>some r_2) hl
 . obtain rfl:A=0:=by omega
   rw [QH (by omega),A1];rfl

theorem Vd {α:Type} {n A L:Nat} {f v g w:Rat} {a b c d a2 c2:Nat->Rat} (sa:∀ i,Sz (a i) L) (sb:∀ i,Sz (b i) L) (sc:∀ i,Sz (c i) L) (sd:∀ i,Sz (d i) L) (hA:A<=100) (hL:L<=100000) (hn:68719476736<=n) (ha:∀ i,a2 i=a i+b i) (hc:∀ i,c2 i=c i+d i) {R S:Rt} {k0:Bool->Bool->Bool->List Int->List Int->Bool->List Int->List Int->List Rt->List Rt->Option α}:∀ (m i:Nat),i<=A->A<i+m ->
  Rx n m (rA A a) (A:Int) (i:Int) (rq f).1 (rq f).2.1 (rq f).2.2 (rA A a) (rA A c) (rq v).1 (rq v).2.1 (rq v).2.2 (rq g).1 (rq g).2.1 (rq g).2.2 (rA A b) (rA A d) (rq w).1 (rq w).2.1 (rq w).2.2 false false R.1 R.2.1 R.2.2 S.1 S.2.1 S.2.2 (rA i a2) (rA i c2) k0=k0 false false R.1 R.2.1 R.2.2 S.1 S.2.1 S.2.2 (rA A a2) (rA A c2)
 | 0,i,hi,hm=>by omega
 | m+1,i,hi,hm=>by
  rw [Alk];unfold W0;rw [QI];by_cases h:i<A
  . rw [QK (by omega),Ap,A3 (by simp;omega),QQ,B1 h]
    dsimp only
    rw [Ap,A3 (by simp;omega),B1 h,Fc (sa i) (sb i) (by omega) hn,A1,A3 (by rw [Ap];simp;omega),Kb (by omega),F7,Ap,A3 (by simp;omega),B1 h,Ap,A3 (by simp;omega),B1 h,Fc (sc i) (sd i) (by omega) hn,A1,A3 (by rw [Ap];simp;omega),Ab (by omega) (by omega),<- ha i,<- hc i,E8,E8]
    exact Vd (f:=f) (v:=v) (g:=g) (w:=w) (a:=a) (b:=b) (c:=c) (d:=d) (a2:=a2) (c2:=c2) sa sb sc sd hA hL hn ha hc m (i+1) (by omega) (by omega)
  . obtain rfl:i=A:=by omega
    rw [QH (by omega)]

theorem Az8 {n A L:Nat} {f v g w:Rat} {a b c d:Nat->Rat} (sf:Sz f L) (sg:Sz g L) (sv:Sz v L) (sw:Sz w L) (sa:∀ i,Sz (a i) L) (sb:∀ i,Sz (b i) L) (sc:∀ i,Sz (c i) L) (sd:∀ i,Sz (d i) L) (hA:A<=100) (hL:L<=100000) (hn:68719476736<=n) :
  K2 n (gc A f v a c) (gc A g w b d)=some (gc A (f+g) (v+w) (λi=>a i+b i) (λi=>c i+d i)):=by
 unfold K2 gc;dsimp only
 rw [Fc sf sg (by omega) hn,A1,Fc sv sw (by omega) hn,A1,Ap,QI]
 by_cases h:0<A
 . rw [QK (by omega),A3 (by simp;omega),B1 h,Ap,A3 (by simp;omega),B1 h,Fc (sa 0) (sb 0) (by omega) hn,A1,Kb h,F7,Ap,A3 (by simp;omega),B1 h,Ap,A3 (by simp;omega),B1 h,Fc (sc 0) (sd 0) (by omega) hn,A1]
   have hl:=Vd (n:=n) (A:=A) (f:=f) (v:=v) (g:=g) (w:=w) sa sb sc sd hA hL hn (a2:=(λi=>a i+b i)) (c2:=(λi=>c i+d i)) (λ_=>rfl) (λ_=>rfl) (R:=rq (f+g)) (S:=rq (v+w))
    (k0:=λz_9 z_10 z_11 z_12 z_13 z_14 z_15 z_16 z_17 z_18=>(some (((z_11,z_12,z_13),z_17,z_18,z_14,z_15,z_16):Jc))) n 1 (by omega) (by omega)
   exact hl
 . obtain rfl:A=0:=by omega
   rw [QH (by omega)];rfl

theorem U6 {α:Type} {n A L:Nat} {f v g w:Rat} {a b c d a2 c2:Nat->Rat} (sf:Sz f L) (sg:Sz g L) (sv:Sz v L) (sw:Sz w L) (sa:∀ i,Sz (a i) L) (sb:∀ i,Sz (b i) L) (sc:∀ i,Sz (c i) L) (sd:∀ i,Sz (d i) L) (hA:A<=100) (hL:L<=100000) (hn:68719476736<=n) (ha:∀ i,a2 i=a i*g+f*b i) (hc:∀ i,c2 i=c i*g+a i*w+v*b i+f*d i) {R S:Rt} {k0:Bool->Bool->Bool->List Int->List Int->Bool->List Int->List Int->List Rt->List Rt->Option α}:∀ (m i:Nat),i<=A->A<i+m ->
  Ru n m (rA A a) (A:Int) (i:Int) (rq f).1 (rq f).2.1 (rq f).2.2 (rA A a) (rA A c) (rq v).1 (rq v).2.1 (rq v).2.2 (rq g).1 (rq g).2.1 (rq g).2.2 (rA A b) (rA A d) (rq w).1 (rq w).2.1 (rq w).2.2 false false R.1 R.2.1 R.2.2 S.1 S.2.1 S.2.2 (rA i a2) (rA i c2) k0=k0 false false R.1 R.2.1 R.2.2 S.1 S.2.1 S.2.2 (rA A a2) (rA A c2)
 | 0,i,hi,hm=>by omega
 | m+1,i,hi,hm=>by
  rw [Alf];unfold Vx;rw [QI];by_cases h:i<A
  . rw [QK (by omega),Ap,A3 (by simp;omega),QQ,B1 h]
    dsimp only
    have tm:∀ {x y:Rat},Sz x L->Sz y L->f103 n ((rq x).1,(rq x).2.1,(rq x).2.2) (rq y)=some (rq (x*y)):=λhx hy=>C3 hx hy (by omega) hn
    have tm2:∀ {x y:Rat},Sz x L->Sz y L->f103 n (rq x) ((rq y).1,(rq y).2.1,(rq y).2.2)=some (rq (x*y)):=λhx hy=>C3 hx hy (by omega) hn
    have tm0:∀ {x y:Rat},Sz x L->Sz y L->f103 n (rq x) (rq y)=some (rq (x*y)):=λhx hy=>C3 hx hy (by omega) hn
    rw [Ap,A3 (by simp;omega),B1 h,tm2 (sa i) sg,A1,tm sf (sb i),A1,Fc (Aj (sa i) sg) (Aj sf (sb i)) (by omega) hn,A1,A3 (by rw [Ap];simp;omega),Kb (by omega),F7,Ap,A3 (by simp;omega),B1 h,tm2 (sc i) sg,A1,tm2 (sa i) sw,A1,Fc (Aj (sc i) sg) (Aj (sa i) sw) (by omega) hn,A1,tm sv (sb i),A1,Fc (Jt (Aj (sc i) sg) (Aj (sa i) sw)) (Aj sv (sb i)) (by omega) hn,A1,Ap,A3 (by simp;omega),B1 h,tm sf (sd i),A1,Fc (Jt (Jt (Aj (sc i) sg) (Aj (sa i) sw)) (Aj sv (sb i))) (Aj sf (sd i)) (by omega) hn,A1,A3 (by rw [Ap];simp;omega),Ab (by omega) (by omega),<- ha i,<- hc i,E8,E8]
    exact U6 (c:=c) (d:=d) (c2:=c2) sf sg sv sw sa sb sc sd hA hL hn ha hc m (i+1) (by omega) (by omega)
  . obtain rfl:i=A:=by omega
    rw [QH (by omega)]

theorem Av7 {n A L:Nat} {f v g w:Rat} {a b c d:Nat->Rat} (sf:Sz f L) (sg:Sz g L) (sv:Sz v L) (sw:Sz w L) (sa:∀ i,Sz (a i) L) (sb:∀ i,Sz (b i) L) (sc:∀ i,Sz (c i) L) (sd:∀ i,Sz (d i) L) (hA:A<=100) (hL:L<=100000) (hn:68719476736<=n) :
  K0 n (gc A f v a c) (gc A g w b d)=some (gc A (f*g) (v*g+f*w) (λi=>a i*g+f*b i) (λi=>c i*g+a i*w+v*b i+f*d i)):=by
 have tm0:∀ {x y:Rat},Sz x L->Sz y L->f103 n (rq x) (rq y)=some (rq (x*y)):=λhx hy=>C3 hx hy (by omega) hn
 unfold K0 gc;dsimp only
 rw [tm0 sf sg,A1,tm0 sv sg,A1,tm0 sf sw,A1,Fc (Aj sv sg) (Aj sf sw) (by omega) hn,A1,Ap,QI]
 by_cases h:0<A
 . rw [QK (by omega),A3 (by simp;omega),B1 h,Ap,A3 (by simp;omega),B1 h,tm0 (sa 0) sg,A1,tm0 sf (sb 0),A1,Fc (Aj (sa 0) sg) (Aj sf (sb 0)) (by omega) hn,A1,Kb h,F7,Ap,A3 (by simp;omega),B1 h,tm0 (sc 0) sg,A1,tm0 (sa 0) sw,A1,Fc (Aj (sc 0) sg) (Aj (sa 0) sw) (by omega) hn,A1,tm0 sv (sb 0),A1,Fc (Jt (Aj (sc 0) sg) (Aj (sa 0) sw)) (Aj sv (sb 0)) (by omega) hn,A1,Ap,A3 (by simp;omega),B1 h,tm0 sf (sd 0),A1,Fc (Jt (Jt (Aj (sc 0) sg) (Aj (sa 0) sw)) (Aj sv (sb 0))) (Aj sf (sd 0)) (by omega) hn,A1]
   have hl:=U6 (n:=n) (A:=A) sf sg sv sw sa sb sc sd hA hL hn (a2:=(λi=>a i*g+f*b i)) (c2:=(λi=>c i*g+a i*w+v*b i+f*d i)) (λ_=>rfl) (λ_=>rfl) (R:=rq (f*g)) (S:=rq (v*g+f*w))
    (k0:=λz_9 z_10 z_11 z_12 z_13 z_14 z_15 z_16 z_17 z_18=>(some (((z_11,z_12,z_13),z_17,z_18,z_14,z_15,z_16):Jc))) n 1 (by omega) (by omega)
   exact hl
 . obtain rfl:A=0:=by omega
   rw [QH (by omega)];rfl

theorem A3u {α:Type} {n A L:Nat} {f v k:Rat} {a c a2 c2:Nat->Rat} {s4:(Bool × List Int × List Int × List Rt × List Rt × Bool × List Int × List Int) × Rt} (sk:Sz k L) (sa:∀ i,Sz (a i) L) (sc:∀ i,Sz (c i) L) (h4:s4.1.2.2.2.2.1=rA A c/\s4.2=rq k) (hA:A<=100) (hL:L<=100000) (hn:68719476736<=n) (ha:∀ i,a2 i=a i*k) (hc:∀ i,c2 i=c i*k) {R S:Rt} {k0:Bool->Bool->Bool->List Int->List Int->Bool->List Int->List Int->List Rt->List Rt->Option α}:∀ (m i:Nat),i<=A->A<i+m ->
  En n m (rq k) s4 (rA A a) (A:Int) (i:Int) (rq f).1 (rq f).2.1 (rq f).2.2 (rA A a) (rA A c) (rq v).1 (rq v).2.1 (rq v).2.2 false false R.1 R.2.1 R.2.2 S.1 S.2.1 S.2.2 (rA i a2) (rA i c2) k0=k0 false false R.1 R.2.1 R.2.2 S.1 S.2.1 S.2.2 (rA A a2) (rA A c2)
 | 0,i,hi,hm=>by omega
 | m+1,i,hi,hm=>by
  rw [Vr];unfold G6;rw [QI];by_cases h:i<A
  . rw [QK (by omega),Ap,A3 (by simp;omega),QQ,B1 h]
    dsimp only
    have e221:f227 n (rq (a i)) (rq k)=some (rq (a i*k)):=by unfold f227;rw [C3 (sa i) sk (by omega) hn,A1]
    have e222:f228 n (i:Int) s4.1 s4.2=some (rq (c i*k)):=by
     unfold f228;rw [h4.1,h4.2];dsimp only
     rw [Ap,A3 (by simp;omega),QQ,B1 h,C3 (sc i) sk (by omega) hn,A1]
    rw [e221,A1,A3 (by rw [Ap];simp;omega),Kb (by omega),F7,e222,A1,A3 (by rw [Ap];simp;omega),Ab (by omega) (by omega),<- ha i,<- hc i,E8,E8]
    exact A3u (f:=f) (v:=v) (c:=c) (c2:=c2) sk sa sc h4 hA hL hn ha hc m (i+1) (by omega) (by omega)
  . obtain rfl:i=A:=by omega
    rw [QH (by omega)]

theorem B69 {n A L:Nat} {f v k:Rat} {a c:Nat->Rat} (sf:Sz f L) (sv:Sz v L) (sk:Sz k L) (sa:∀ i,Sz (a i) L) (sc:∀ i,Sz (c i) L) (hA:A<=100) (hL:L<=100000) (hn:68719476736<=n) :
  K1 n (gc A f v a c) (rq k)=some (gc A (f*k) (v*k) (λi=>a i*k) (λi=>c i*k)):=by
 have e221:f227 n (rq (a 0)) (rq k)=some (rq (a 0*k)):=by unfold f227;rw [C3 (sa 0) sk (by omega) hn,A1]
 unfold K1 gc;dsimp only
 rw [C3 sf sk (by omega) hn,A1,C3 sv sk (by omega) hn,A1]
 unfold L8;dsimp only;rw [Ap,QI];by_cases h:0<A
 . have e222 : f228 n 0 ((rq f).1, (rq f).2.1, (rq f).2.2, rA A a, rA A c, (rq v).1, (rq v).2.1, (rq v).2.2) (rq k) = some (rq (c 0 * k)) := by
    unfold f228;dsimp only
    rw [Ap,A3 (by simp;omega),show Int.toNat 0=0 from rfl,B1 h,C3 (sc 0) sk (by omega) hn,A1]
   rw [QK (by omega),A3 (by simp;omega),B1 h,e221,A1,Kb h,F7,e222,A1]
   have hl:=A3u (n:=n) (A:=A) (f:=f) (v:=v) (s4:=(((rq f).1,(rq f).2.1,(rq f).2.2,rA A a,rA A c,(rq v).1,(rq v).2.1,(rq v).2.2),rq k)) sk sa sc ⟨rfl,rfl⟩ hA hL hn (a2:=(λi=>a i*k)) (c2:=(λi=>c i*k)) (λ_=>rfl) (λ_=>rfl) (R:=rq (f*k)) (S:=rq (v*k))
    (k0:=λz_9 z_10 z_11 z_12 z_13 z_14 z_15 z_16 z_17 z_18=>(some (((z_11,z_12,z_13),z_17,z_18,z_14,z_15,z_16):Jc))) n 1 (by omega) (by omega)
   exact ZN (λz=>ob z λr_3=>some r_3) hl
 . obtain rfl:A=0:=by omega
   rw [QH (by omega),A1];rfl

theorem U7 {α:Type} {n A L:Nat} {f v d e:Rat} {a c a2 c2:Nat->Rat} {s4:Rt × (Bool × List Int × List Int × List Rt × List Rt × Bool × List Int × List Int) × Rt} (sd:Sz d L) (se:Sz e L) (sv:Sz v L) (sa:∀ i,Sz (a i) L) (sc:∀ i,Sz (c i) L) (h4:s4.1=rq e/\s4.2.1.2.2.2.1=rA A a/\s4.2.1.2.2.2.2.1=rA A c/\s4.2.1.2.2.2.2.2=rq v/\s4.2.2=rq d) (hA:A<=100) (hL:L<=100000) (hn:68719476736<=n) (ha:∀ i,a2 i=d*a i) (hc:∀ i,c2 i=e*a i*v+d*c i) {R S:Rt} {k0:Bool->Bool->Bool->List Int->List Int->Bool->List Int->List Int->List Rt->List Rt->Option α}:∀ (m i:Nat),i<=A->A<i+m ->
  El n m (rq d) s4 (rA A a) (A:Int) (i:Int) (rq f).1 (rq f).2.1 (rq f).2.2 (rA A a) (rA A c) (rq v).1 (rq v).2.1 (rq v).2.2 false false R.1 R.2.1 R.2.2 S.1 S.2.1 S.2.2 (rA i a2) (rA i c2) k0=k0 false false R.1 R.2.1 R.2.2 S.1 S.2.1 S.2.2 (rA A a2) (rA A c2)
 | 0,i,hi,hm=>by omega
 | m+1,i,hi,hm=>by
  rw [Vn];unfold G3;rw [QI];by_cases h:i<A
  . rw [QK (by omega),Ap,A3 (by simp;omega),QQ,B1 h]
    dsimp only
    have e232:f233 n (rq (a i)) (rq d)=some (rq (d*a i)):=by unfold f233;rw [C3 sd (sa i) (by omega) hn,A1]
    have e233:f234 n (i:Int) s4.1 s4.2.1 s4.2.2=some (rq (e*a i*v+d*c i)):=by
     unfold f234;rw [h4.1,h4.2.1,h4.2.2.1,h4.2.2.2.1,h4.2.2.2.2];dsimp only
     rw [Ap,Ap,A3 (by simp;omega),QQ,B1 h,C3 se (sa i) (by omega) hn,A1,C3 (Aj se (sa i)) sv (by omega) hn,A1,A3 (by simp;omega),B1 h,C3 sd (sc i) (by omega) hn,A1,Fc (Aj (Aj se (sa i)) sv) (Aj sd (sc i)) (by omega) hn,A1]
    rw [e232,A1,A3 (by rw [Ap];simp;omega),Kb (by omega),F7,e233,A1,A3 (by rw [Ap];simp;omega),Ab (by omega) (by omega),<- ha i,<- hc i,E8,E8]
    exact U7 (f:=f) (c:=c) (c2:=c2) sd se sv sa sc h4 hA hL hn ha hc m (i+1) (by omega) (by omega)
  . obtain rfl:i=A:=by omega
    rw [QH (by omega)]

theorem Ace {n A L:Nat} {f v g d e:Rat} {a c:Nat->Rat} (sv:Sz v L) (sd:Sz d L) (se:Sz e L) (sa:∀ i,Sz (a i) L) (sc:∀ i,Sz (c i) L) (hA:A<=100) (hL:L<=100000) (hn:68719476736<=n) :
  Ro n (gc A f v a c) (rq g) (rq d) (rq e)=some (gc A g (d*v) (λi=>d*a i) (λi=>e*a i*v+d*c i)):=by
 have e232:f233 n (rq (a 0)) (rq d)=some (rq (d*a 0)):=by unfold f233;rw [C3 sd (sa 0) (by omega) hn,A1]
 unfold Ro gc;dsimp only
 rw [C3 sd sv (by omega) hn,A1]
 unfold L7;dsimp only;rw [Ap,QI];by_cases h:0<A
 . have e233 : f234 n 0 (rq e) ((rq f).1, (rq f).2.1, (rq f).2.2, rA A a, rA A c, rq v) (rq d) = some (rq (e * a 0 * v + d * c 0)) := by
    unfold f234;dsimp only
    rw [Ap,Ap,A3 (by simp;omega),show Int.toNat 0=0 from rfl,B1 h,C3 se (sa 0) (by omega) hn,A1,C3 (Aj se (sa 0)) sv (by omega) hn,A1,A3 (by simp;omega),B1 h,C3 sd (sc 0) (by omega) hn,A1,Fc (Aj (Aj se (sa 0)) sv) (Aj sd (sc 0)) (by omega) hn,A1]
   rw [QK (by omega),A3 (by simp;omega),B1 h,e232,A1,Kb h,F7,e233,A1]
   have hl:=U7 (n:=n) (A:=A) (f:=f) (s4:=(rq e,((rq f).1,(rq f).2.1,(rq f).2.2,rA A a,rA A c,rq v),rq d)) sd se sv sa sc ⟨rfl,rfl,rfl,rfl,rfl⟩ hA hL hn (a2:=(λi=>d*a i)) (c2:=(λi=>e*a i*v+d*c i)) (λ_=>rfl) (λ_=>rfl) (R:=rq g) (S:=rq (d*v))
    (k0:=λz_9 z_10 z_11 z_12 z_13 z_14 z_15 z_16 z_17 z_18=>(some (((z_11,z_12,z_13),z_17,z_18,z_14,z_15,z_16):Jc))) n 1 (by omega) (by omega)
   exact ZN (λz=>ob z λr_2=>some r_2) hl
 . obtain rfl:A=0:=by omega
   rw [QH (by omega),A1];rfl

def Ay (A i:Nat):Nat->Rat:=λk=>if k=i/\i<A then 1 else 0

structure Dv (R:Nat->Q4) (L:Nat):Prop where
 f:∀ i,(R i).f=(R 0).f
 v:∀ i,(R i).v=(R 0).v
 s:∀ i,Pb (R i) L

theorem Dv.mono {R:Nat->Q4} {L K:Nat} (h:Dv R L) (hK:L<=K):Dv R K:=⟨h.f,h.v,λi=>(h.s i).mono hK⟩

theorem Yv {r:Rat} {L:Nat} (h:Sz r L) (h1:1<=L):Dv (λ_=>Q4.cst r) L:=⟨λ_=>rfl,λ_=>rfl,λ_=>B25 h h1⟩

def La (A:Nat) (p:Nat->Bool):Bool:=(List.range A).all p

theorem B5o {A:Nat} {g:Nat->Rat}:((List.range A).map g).all Bn=La A λi=>Bn (g i):=by simp [La,YH,Function.comp_def]

theorem A68 {n A:Nat} {g:Nat->Rat} (hA:A<=100) (hn:68719476736<=n):∃ l,f51 n (rA A g)=some (l,if La A (λi=>Bn (g i))=true then 0 else 7):=by
 have e:rA A g=vq ((List.range A).map g):=by simp [rA,vq,Function.comp_def]
 rw [e,Aca (by simp;omega) (by omega),B5o]
 by_cases h:La A (λi=>Bn (g i))=true
 . rw [QK h,QK h];exact ⟨_,rfl⟩
 . rw [QH h,QH h];exact ⟨_,rfl⟩

theorem Abm {A:Nat} {x w:Nat->Rat} {ls:Nat->List Q4} (hf:∀ k i,((ls i).getD k (Q4.cst 0)).f=((ls 0).getD k (Q4.cst 0)).f/\((ls i).getD k (Q4.cst 0)).v=((ls 0).getD k (Q4.cst 0)).v) (n:Nod) (i:Nat) :
  (Av x (Ay A i) w (ls i) n).f=(Av x (Ay A 0) w (ls 0) n).f/\(Av x (Ay A i) w (ls i) n).v=(Av x (Ay A 0) w (ls 0) n).v:=by
 have h:F1 x (λb:Bool=>bif b then Ay A i else Ay A 0) (λ_=>w) (λp=>(p true).f=(p false).f/\(p true).v=(p false).v):=by
  refine ⟨λ_=>⟨rfl,rfl⟩,λ_=>⟨rfl,rfl⟩,λh1 h2=>?_,λh1=>?_,λh1 h2=>?_,λh1=>?_⟩ <;> simp only [Q4.add,Q4.neg,Q4.mul,Q4.inv,h1] <;> (try simp only [h2]) <;> (try simp only [and_self])
 exact h.of (l:=λb=>bif b then ls i else ls 0) (λk=>hf k i) n

def Ai (A:Nat) (R:Nat->Q4):Jn:=gn A (R 0).f (R 0).v (λi=>(R i).a)

theorem A3m {A:Nat} {f v:Rat} {a:Nat->Rat} {R:Nat->Q4} (hf:f=(R 0).f) (hv:v=(R 0).v) (ha:∀ i,a i=(R i).a):gn A f v a=Ai A R:=by
 unfold Ai gn;rw [hf,hv,Fj λi _=>ha i]

theorem Aox {n A:Nat} {f:Rat} (hA:A<=100) (hn:68719476736<=n):f215 n ((A:Int),()) (rq f)=some (Ai A λ_=>Q4.cst f):=by
 unfold f215;dsimp only;rw [Axu hA hn,A1,iW0 hn,A1];rfl

theorem Ac5 {n A L:Nat} {P Q:Nat->Q4} (hP:Dv P L) (hQ:Dv Q L) (hA:A<=100) (hL:L<=100000) (hn:68719476736<=n):f217 n (Ai A P) (Ai A Q)=some (Ai A λi=>Q4.add (P i) (Q i)) :=
 Az6 (hP.s 0).f (hQ.s 0).f (hP.s 0).v (hQ.s 0).v (λi=>(hP.s i).a) (λi=>(hQ.s i).a) (λi=>(hP.s i).c) (λi=>(hQ.s i).c) hA hL hn

theorem Ai3 {n A L:Nat} {P:Nat->Q4} (hP:Dv P L) (h2:2<=L) (hA:A<=100) (hL:L<=100000) (hn:68719476736<=n):f218 n (Ai A P) (rq (-1))=some (Ai A λi=>Q4.neg (P i)):=by
 have h:=B68 (n:=n) (A:=A) (hP.s 0).f (hP.s 0).v (k:=-1) (Eg (Qw (by omega))) (λi=>(hP.s i).a) (λi=>(hP.s i).c) hA hL hn
 refine Eq.trans h (ZN some ?_);refine A3m ?_ ?_ (λi=>?_) <;> simp only [Q4.neg] <;> grind

theorem A8b {n A L:Nat} {P Q:Nat->Q4} (hP:Dv P L) (hQ:Dv Q L) (hA:A<=100) (hL:L<=100000) (hn:68719476736<=n):f219 n (Ai A P) (Ai A Q)=some (Ai A λi=>Q4.mul (P i) (Q i)):=by
 have h:=Av6 (n:=n) (A:=A) (hP.s 0).f (hQ.s 0).f (hP.s 0).v (hQ.s 0).v (λi=>(hP.s i).a) (λi=>(hQ.s i).a) (λi=>(hP.s i).c) (λi=>(hQ.s i).c) hA hL hn;refine Eq.trans h (ZN some ?_);refine A3m ?_ ?_ (λi=>?_)
 . rfl
 . rfl
 . simp only [Q4.mul,hP.f i,hQ.f i]

theorem Ayy {n A L:Nat} {P:Nat->Q4} (hP:Dv P L) (h0:(P 0).f ≠ 0) (hA:A<=100) (hL:L<=10000) (hn:68719476736<=n):f220 n (Ai A P)=some (Ai A λi=>Q4.inv (P i)):=by
 have r:=A5m (hP.s 0).f h0;have r2:=Aj r r;have r3:=Aj r2 r
 have k2:Sz 2 1:=Ir (c:=2) (by omega)
 unfold f220
 rw [iW1 hn,A1,show (Ai A P).1=rq (P 0).f from rfl,iOv (Qw (L:=1) (by omega)) (hP.s 0).f h0 (by omega) hn,A1,C3 r r (by omega) hn,A1,iNg r2 (by omega),A1,C3 r2 r (by omega) hn,A1,iW2 hn,A1,C3 r3 k2 (by omega) hn,A1]
 have h:=Acc (n:=n) (A:=A) (L:=8*L+100) (f:=(P 0).f) (g:=1 / (P 0).f) (d:=-(1 / (P 0).f*(1 / (P 0).f))) (e:=1 / (P 0).f*(1 / (P 0).f)*(1 / (P 0).f)*2) ((hP.s 0).v.mono (by omega)) ((Eg r2).mono (by omega)) ((Aj r3 k2).mono (by omega)) (λi=>(hP.s i).a.mono (by omega)) (λi=>(hP.s i).c.mono (by omega)) hA (by omega) hn
 have h:f229 n (rq (P 0).f,(Ai A P).2.1,(),(Ai A P).2.2.2) (rq (1 / (P 0).f)) (rq (-(1 / (P 0).f*(1 / (P 0).f)))) (rq (1 / (P 0).f*(1 / (P 0).f)*(1 / (P 0).f)*2))=_:=h;rw [h,A1];refine ZN some (A3m ?_ ?_ (λi=>?_))
 . rfl
 . simp only [Q4.inv];grind
 . simp only [Q4.inv,hP.f i];grind

theorem Akr {n A L k:Nat} {P:Nat->Q4} (hP:Dv P L) (hL:L<=1000) (hk:k<=8) (hn:68719476736<=n):f230 n (Ai A P) (k:Int)=some (rq (Q4.d1 (P 0).f k),rq (Q4.d2 (P 0).f k)):=by
 have:=Ap2 (n:=n) (f:=(P 0).f) (v:=0) (hP.s 0).f hL hk hn;exact this

theorem Aov {n A L k:Nat} {P:Nat->Q4} (hP:Dv P L) (hA:A<=100) (hL:L<=1000) (hk:k<=8) (hn:68719476736<=n):f222 n (Ai A P) (k:Int)=some (Ai A λi=>Q4.pow (P i) k):=by
 unfold f222
 rw [Akr hP hL hk hn,A1,show (Ai A P).1=rq (P 0).f from rfl,Pj (hP.s 0).f (by omega) (by omega) hn,A1]
 have h:=Acc (n:=n) (A:=A) (L:=8*L+100) (f:=(P 0).f) (g:=(P 0).f ^ k) (d:=Q4.d1 (P 0).f k) (e:=Q4.d2 (P 0).f k) ((hP.s 0).v.mono (by omega)) ((Anh (hP.s 0).f hk).mono (by omega)) ((Aye (hP.s 0).f hk).mono (by omega)) (λi=>(hP.s i).a.mono (by omega)) (λi=>(hP.s i).c.mono (by omega)) hA (by omega) hn
 dsimp only;have h:f229 n (Ai A P) (rq ((P 0).f ^ k)) (rq (Q4.d1 (P 0).f k)) (rq (Q4.d2 (P 0).f k))=_:=h;rw [h,A1];refine ZN some (A3m ?_ ?_ (λi=>?_))
 . simp only [Q4.pow_eq]
 . simp only [Q4.pow_eq]
 . simp only [Q4.pow_eq,hP.f i]

def N0 (A:Nat) (R:Nat->Q4):Bool:=Bn (R 0).f&&(Bn (R 0).v&&(La A (λi=>Bn (R i).a)))

theorem Auw {n A:Nat} {R:Nat->Q4} (hA:A<=100) (hn:68719476736<=n):f200 n (Ai A R)=some (N0 A R):=by
 obtain ⟨l1,e1⟩:=A68 (n:=n) (A:=A) (g:=λi=>(R i).a) hA hn

 unfold f200 Ai gn;dsimp only;rw [e1,A1,Av5 hn,A1,Xp,A1,Xp];unfold N0
 cases Bn (R 0).f
 . rfl
 cases Bn (R 0).v
 . rfl
 cases La A (λi=>Bn (R i).a)
 . rfl
 rfl

theorem Ayx {n A:Nat} {f:Rat} {k:Int} {V:List Rat} (hk:0<=k/\k<V.length) (hA:A<=100) (hn:68719476736<=n):f216 n ((A:Int),()) (rq f) k=some (Ai A λi=>⟨f,Ay A i k.toNat,0,0⟩):=by
 unfold f216 Alq;dsimp only;rw [Ap7 hA hn,A1,iW0 hn,A1,A1,QI];dsimp only;by_cases h:k<(A:Int)
 . rw [QK h,iW1 hn,A1,Ap,A3 (by simp;omega),A3 (by simp;omega),Ao3]
   refine ZN some ?_;unfold Ai gn
   rw [Fj (h:=λi=>Ay A i k.toNat) (g:=λi=>if k.toNat=i then 1 else 0) λi hi=>by unfold Ay;by_cases e:k.toNat=i <;> simp [e,hi]]
   try rfl
 . rw [QH h];refine ZN some ?_;unfold Ai gn
   rw [Fj (h:=λi=>Ay A i k.toNat) (g:=λ_=>0) λi hi=>by unfold Ay;rw [QH (by omega)]]

theorem Ai4 {A N k:Nat} {ls:Nat->List Q4} (h:k<N):((List.range N).map λk=>Ai A λi=>(ls i).getD k (Q4.cst 0)).getD k ((false,[],[]),[],(),(false,[],[]))=Ai A λi=>(ls i).getD k (Q4.cst 0):=by
 simp [QJ,h]

theorem Aow {n A N:Nat} {X V:List Rat} {ls:Nat->List Q4} {x:Nod} (hl:∀ i,(ls i).length=N) (hx:Dd x N) (hd:x.1=2->x.2.2.2<X.length/\x.2.2.2<V.length) (hs:∀ k,Dv (λi=>(ls i).getD k (Q4.cst 0)) 40) (hA:A<=100) (hn:68719476736<=n) :
  Aar n ((A:Int),()) x (vq X) ((List.range N).map λk=>Ai A λi=>(ls i).getD k (Q4.cst 0))=some ((if x.1=6/\((ls 0).getD x.2.2.1.toNat (Q4.cst 0)).f=0 then (((false,[],[]),[],(),(false,[],[])),10) else if x.1=8/\Bn (((ls 0).getD x.2.1.toNat (Q4.cst 0)).f ^ x.2.2.2.toNat)=false then (((false,[],[]),[],(),(false,[],[])),7) else (Ai A (λi=>Av (Al X) (Ay A i) (λ_=>0) (ls i) x),0)),(List.range N).map λk=>Ai A λi=>(ls i).getD k (Q4.cst 0)):=by
 obtain ⟨op,a,b,m⟩:=x;obtain ⟨⟨o1,o2⟩,hN,ha,hb⟩:=hx
 have hll:((List.range N).map λk=>Ai A λi=>(ls i).getD k (Q4.cst 0)).length=N:=by simp
 unfold Aar;simp only [Y4,A1];unfold Kx at hN;unfold Dg at ha hb ⊢;dsimp only at *;generalize hJ:((List.range N).map λk=>Ai A λi=>(ls i).getD k (Q4.cst 0))=J at hll ⊢
 have get:∀ {k:Nat},k<N->J.getD k ((false,[],[]),[],(),(false,[],[]))=Ai A λi=>(ls i).getD k (Q4.cst 0):=λ{k} hk=>by rw [<- hJ];exact Ai4 hk
 obtain rfl | rfl | rfl | rfl | rfl | rfl | rfl | rfl:op=1 \/ op=2 \/ op=3 \/ op=4 \/ op=5 \/ op=6 \/ op=7 \/ op=8:=by omega
 . simp only [Av,Int.reduceEq,or_self,if_false,if_true,Int.reduceBEq,ZS,QV,Int.reduceLT,gt_iff_lt,decide_false,Qal] at *
   rw [iW (by omega) hn,A1,Aox  hA hn,A1]
 . simp only [Av,Int.reduceEq,or_self,if_false,if_true,Int.reduceBEq,ZS,QV,Int.reduceLT,gt_iff_lt,decide_false,Qal] at *;have hd:=hd trivial
   rw [Co,A3 (by simp;omega),G9 (by omega),Ayx (V:=V) ⟨hN.1,hd.2⟩ hA hn,A1];rfl
 all_goals simp only [Av,Int.reduceEq,or_self,or_true,true_or,if_false,if_true,Int.reduceBEq,ZS,QV,Int.reduceLT,gt_iff_lt,decide_true,Qal,true_and] at *
 all_goals (have lA:a.toNat<N:=by omega)
 all_goals (have lB:b.toNat<N:=by omega)
 all_goals (rw [hll,A3 (by simp;omega),A3 (by simp;omega),A3 (by simp;omega),A3 (by simp;omega),get lA])
 all_goals (try rw [get lB])
 all_goals (have a1:=hs a.toNat;have b1:=hs b.toNat)
 all_goals (generalize hP:(λi=>(ls i).getD a.toNat (Q4.cst 0))=P at a1 ⊢;generalize hQ:(λi=>(ls i).getD b.toNat (Q4.cst 0))=Q at b1 ⊢)
 all_goals (have eP:∀ i,(ls i).getD a.toNat (Q4.cst 0)=P i:=λi=>congrFun hP i)
 all_goals (have eQ:∀ i,(ls i).getD b.toNat (Q4.cst 0)=Q i:=λi=>congrFun hQ i)
 all_goals simp only [eP,eQ]
 . have e:f217 n (Ai A P) (Ai A Q)=_:=Ac5 a1 b1 hA (by omega) hn
   have e:f217 n (((Ai A P).1.1,(Ai A P).1.2.1,(Ai A P).1.2.2),(Ai A P).2.1,(),(Ai A P).2.2.2.1,(Ai A P).2.2.2.2.1,(Ai A P).2.2.2.2.2) (((Ai A Q).1.1,(Ai A Q).1.2.1,(Ai A Q).1.2.2),(Ai A Q).2.1,(),(Ai A Q).2.2.2.1,(Ai A Q).2.2.2.2.1,(Ai A Q).2.2.2.2.2)=some _:=e;rw [e,A1]
 . have e:f218 n (Ai A Q) (rq (-1))=_:=Ai3 b1 (by omega) hA (by omega) hn
   have e:f218 n (((Ai A Q).1.1,(Ai A Q).1.2.1,(Ai A Q).1.2.2),(Ai A Q).2.1,(),(Ai A Q).2.2.2.1,(Ai A Q).2.2.2.2.1,(Ai A Q).2.2.2.2.2) (rq (-1))=some _:=e
   have nF:Dv (λi=>Q4.neg (Q i)) 40:=⟨λi=>by simp only [Q4.neg,b1.f i],λi=>by simp only [Q4.neg,b1.v i],λi=>Ak4 (b1.s i)⟩
   have e2:f217 n (Ai A P) (Ai A λi=>Q4.neg (Q i))=_:=Ac5 a1 nF hA (by omega) hn
   have e2:f217 n (((Ai A P).1.1,(Ai A P).1.2.1,(Ai A P).1.2.2),(Ai A P).2.1,(),(Ai A P).2.2.2.1,(Ai A P).2.2.2.2.1,(Ai A P).2.2.2.2.2) (Ai A λi=>Q4.neg (Q i))=some _:=e2;rw [iWm hn,A1,e,A1,e2,A1]
 . have e:f219 n (Ai A P) (Ai A Q)=_:=A8b a1 b1 hA (by omega) hn
   have e:f219 n (((Ai A P).1.1,(Ai A P).1.2.1,(Ai A P).1.2.2),(Ai A P).2.1,(),(Ai A P).2.2.2.1,(Ai A P).2.2.2.2.1,(Ai A P).2.2.2.2.2) (((Ai A Q).1.1,(Ai A Q).1.2.1,(Ai A Q).1.2.2),(Ai A Q).2.1,(),(Ai A Q).2.2.2.1,(Ai A Q).2.2.2.2.1,(Ai A Q).2.2.2.2.2)=some _:=e;rw [e,A1]
 . have z:f74 n (rq (Q 0).f)=_:=Ap6;have z:f74 n ((Ai A Q).1.1,(Ai A Q).1.2.1,(Ai A Q).1.2.2)=_:=z;rw [z,A1,QI];by_cases h0:(Q 0).f=0
   . rw [QK h0,QK h0]
   . rw [QH h0,QH h0]
     have e:f220 n (Ai A Q)=_:=Ayy b1 h0 hA (by omega) hn
     have e:f220 n (((Ai A Q).1.1,(Ai A Q).1.2.1,(Ai A Q).1.2.2),(Ai A Q).2.1,(),(Ai A Q).2.2.2.1,(Ai A Q).2.2.2.2.1,(Ai A Q).2.2.2.2.2)=some _:=e
     have iF:Dv (λi=>Q4.inv (Q i)) 400:=⟨λi=>by simp only [Q4.inv,b1.f i],λi=>by simp only [Q4.inv,b1.f i,b1.v i],λi=>(Ak5 (b1.s i) (by rw [b1.f i];exact h0)).mono (by omega)⟩
     have e2:f219 n (Ai A P) (Ai A λi=>Q4.inv (Q i))=_:=A8b (a1.mono (by omega)) iF hA (by omega) hn
     have e2:f219 n (((Ai A P).1.1,(Ai A P).1.2.1,(Ai A P).1.2.2),(Ai A P).2.1,(),(Ai A P).2.2.2.1,(Ai A P).2.2.2.2.1,(Ai A P).2.2.2.2.2) (Ai A λi=>Q4.inv (Q i))=some _:=e2;rw [e,A1,e2,A1]
 . have e:f218 n (Ai A P) (rq (-1))=_:=Ai3 a1 (by omega) hA (by omega) hn
   have e:f218 n (((Ai A P).1.1,(Ai A P).1.2.1,(Ai A P).1.2.2),(Ai A P).2.1,(),(Ai A P).2.2.2.1,(Ai A P).2.2.2.2.1,(Ai A P).2.2.2.2.2) (rq (-1))=some _:=e;rw [iWm hn,A1,e,A1]
 . obtain ⟨N',rfl⟩:∃ N':Nat,m=(N':Int):=⟨m.toNat,by omega⟩
   have e0:f221 n (rq (P 0).f) (N':Int)=_:=Pj (a1.s 0).f (by omega) (by omega) hn
   have e0:f221 n ((Ai A P).1.1,(Ai A P).1.2.1,(Ai A P).1.2.2) (N':Int)=some _:=e0
   have e:f222 n (Ai A P) (N':Int)=_:=Aov a1 hA (by omega) (by omega) hn
   have e:f222 n (((Ai A P).1.1,(Ai A P).1.2.1,(Ai A P).1.2.2),(Ai A P).2.1,(),(Ai A P).2.2.2.1,(Ai A P).2.2.2.2.1,(Ai A P).2.2.2.2.2) (N':Int)=some _:=e;rw [e0,A1,Xp,A1,QQ]
   cases hfit:Bn ((P 0).f ^ N') with
   | false=>simp only [ZV,ZS,if_true]
   | true =>
    simp only [XM,QV,Bool.true_eq_false,if_false];rw [e,A1]

def Qo (A:Nat) (x w:Nat->Rat):List Nod->(Nat->List Q4)->(Nat->List Q4) ⊕ Int
 | [],ls=>.inl ls
 | n::r,ls=>if Oa (ls 0) n then .inr 10 else if N0 A (λi=>Av x (Ay A i) w (ls i) n)=true then Qo A x w r (λi=>ls i++[Av x (Ay A i) w (ls i) n]) else .inr 7

def Ag (A:Nat) (R:Nat->Q4):Jc:=gc A (R 0).f (R 0).v (λi=>(R i).a) (λi=>(R i).c)

theorem A3n {A:Nat} {f v:Rat} {a c:Nat->Rat} {R:Nat->Q4} (hf:f=(R 0).f) (hv:v=(R 0).v) (ha:∀ i,a i=(R i).a) (hc:∀ i,c i=(R i).c):gc A f v a c=Ag A R:=by
 unfold Ag gc;rw [hf,hv,Fj λi _=>ha i,Fj λi _=>hc i]

theorem Ap0 {n A:Nat} {f:Rat} {V:List Rat} (hV:0<V.length) (hA:A<=100) (hn:68719476736<=n):Aap n ((A:Int),vq V) (rq f)=some (Ag A λ_=>Q4.cst f):=by
 unfold Aap;dsimp only
 rw [Axu hA hn,A1,iW0 hn,A1,A3 (by simp [vq];intro e;rw [e] at hV;simp at hV),A1];rfl

theorem Ac7 {n A L:Nat} {P Q:Nat->Q4} (hP:Dv P L) (hQ:Dv Q L) (hA:A<=100) (hL:L<=100000) (hn:68719476736<=n):K2 n (Ag A P) (Ag A Q)=some (Ag A λi=>Q4.add (P i) (Q i)) :=
 Az8 (hP.s 0).f (hQ.s 0).f (hP.s 0).v (hQ.s 0).v (λi=>(hP.s i).a) (λi=>(hQ.s i).a) (λi=>(hP.s i).c) (λi=>(hQ.s i).c) hA hL hn

theorem Ai5 {n A L:Nat} {P:Nat->Q4} (hP:Dv P L) (h2:2<=L) (hA:A<=100) (hL:L<=100000) (hn:68719476736<=n):K1 n (Ag A P) (rq (-1))=some (Ag A λi=>Q4.neg (P i)):=by
 have h:=B69 (n:=n) (A:=A) (hP.s 0).f (hP.s 0).v (k:=-1) (Eg (Qw (by omega))) (λi=>(hP.s i).a) (λi=>(hP.s i).c) hA hL hn
 refine Eq.trans h (ZN some ?_);refine A3n ?_ ?_ (λi=>?_) (λi=>?_) <;> simp only [Q4.neg] <;> grind

theorem A8c {n A L:Nat} {P Q:Nat->Q4} (hP:Dv P L) (hQ:Dv Q L) (hA:A<=100) (hL:L<=100000) (hn:68719476736<=n):K0 n (Ag A P) (Ag A Q)=some (Ag A λi=>Q4.mul (P i) (Q i)):=by
 have h:=Av7 (n:=n) (A:=A) (hP.s 0).f (hQ.s 0).f (hP.s 0).v (hQ.s 0).v (λi=>(hP.s i).a) (λi=>(hQ.s i).a) (λi=>(hP.s i).c) (λi=>(hQ.s i).c) hA hL hn;refine Eq.trans h (ZN some ?_);refine A3n ?_ ?_ (λi=>?_) (λi=>?_)
 . rfl
 . rfl
 . simp only [Q4.mul,hP.f i,hQ.f i]
 . simp only [Q4.mul,hP.f i,hQ.f i,hP.v i,hQ.v i];grind

theorem Az0 {n A L:Nat} {P:Nat->Q4} (hP:Dv P L) (h0:(P 0).f ≠ 0) (hA:A<=100) (hL:L<=10000) (hn:68719476736<=n):Y1 n (Ag A P)=some (Ag A λi=>Q4.inv (P i)):=by
 have r:=A5m (hP.s 0).f h0;have r2:=Aj r r;have r3:=Aj r2 r
 have k2:Sz 2 1:=Ir (c:=2) (by omega)
 unfold Y1
 rw [iW1 hn,A1,show (Ag A P).1=rq (P 0).f from rfl,iOv (Qw (L:=1) (by omega)) (hP.s 0).f h0 (by omega) hn,A1,C3 r r (by omega) hn,A1,iNg r2 (by omega),A1,C3 r2 r (by omega) hn,A1,iW2 hn,A1,C3 r3 k2 (by omega) hn,A1]
 have h:=Ace (n:=n) (A:=A) (L:=8*L+100) (f:=(P 0).f) (g:=1 / (P 0).f) (d:=-(1 / (P 0).f*(1 / (P 0).f))) (e:=1 / (P 0).f*(1 / (P 0).f)*(1 / (P 0).f)*2) ((hP.s 0).v.mono (by omega)) ((Eg r2).mono (by omega)) ((Aj r3 k2).mono (by omega)) (λi=>(hP.s i).a.mono (by omega)) (λi=>(hP.s i).c.mono (by omega)) hA (by omega) hn
 have h:Ro n (Ag A P) (rq (1 / (P 0).f)) (rq (-(1 / (P 0).f*(1 / (P 0).f)))) (rq (1 / (P 0).f*(1 / (P 0).f)*(1 / (P 0).f)*2))=_:=h;rw [h,A1];refine ZN some (A3n ?_ ?_ (λi=>?_) (λi=>?_))
 . rfl
 . simp only [Q4.inv];grind
 . simp only [Q4.inv,hP.f i];grind
 . simp only [Q4.inv,hP.f i,hP.v i];grind

theorem Aks {n A L k:Nat} {P:Nat->Q4} (hP:Dv P L) (hL:L<=1000) (hk:k<=8) (hn:68719476736<=n):A47 n (Ag A P) (k:Int)=some (rq (Q4.d1 (P 0).f k),rq (Q4.d2 (P 0).f k)):=by
 have:=Ap3 (n:=n) (f:=(P 0).f) (v:=0) (hP.s 0).f hL hk hn;exact this

theorem Aoy {n A L k:Nat} {P:Nat->Q4} (hP:Dv P L) (hA:A<=100) (hL:L<=1000) (hk:k<=8) (hn:68719476736<=n):Y0 n (Ag A P) (k:Int)=some (Ag A λi=>Q4.pow (P i) k):=by
 unfold Y0
 rw [Aks hP hL hk hn,A1,show (Ag A P).1=rq (P 0).f from rfl,Pj (hP.s 0).f (by omega) (by omega) hn,A1]
 have h:=Ace (n:=n) (A:=A) (L:=8*L+100) (f:=(P 0).f) (g:=(P 0).f ^ k) (d:=Q4.d1 (P 0).f k) (e:=Q4.d2 (P 0).f k) ((hP.s 0).v.mono (by omega)) ((Anh (hP.s 0).f hk).mono (by omega)) ((Aye (hP.s 0).f hk).mono (by omega)) (λi=>(hP.s i).a.mono (by omega)) (λi=>(hP.s i).c.mono (by omega)) hA (by omega) hn
 dsimp only;have h:Ro n (Ag A P) (rq ((P 0).f ^ k)) (rq (Q4.d1 (P 0).f k)) (rq (Q4.d2 (P 0).f k))=_:=h;rw [h,A1];refine ZN some (A3n ?_ ?_ (λi=>?_) (λi=>?_))
 . simp only [Q4.pow_eq]
 . simp only [Q4.pow_eq]
 . simp only [Q4.pow_eq,hP.f i]
 . simp only [Q4.pow_eq,hP.f i,hP.v i]

def N1 (A:Nat) (R:Nat->Q4):Bool:=Bn (R 0).f&&(Bn (R 0).v&&(La A (λi=>Bn (R i).a)&&La A (λi=>Bn (R i).c)))

theorem Auy {n A:Nat} {R:Nat->Q4} (hA:A<=100) (hn:68719476736<=n):A4s n (Ag A R)=some (N1 A R):=by
 obtain ⟨l1,e1⟩:=A68 (n:=n) (A:=A) (g:=λi=>(R i).a) hA hn;obtain ⟨l2,e2⟩:=A68 (n:=n) (A:=A) (g:=λi=>(R i).c) hA hn;unfold A4s Ag gc;dsimp only;rw [e1,A1,e2,A1,Xp,A1,Xp];unfold N1
 cases Bn (R 0).f
 . rfl
 cases Bn (R 0).v
 . rfl
 cases La A (λi=>Bn (R i).a)
 . rfl
 cases La A (λi=>Bn (R i).c) <;> rfl

theorem Ayz {n A:Nat} {f:Rat} {k:Int} {V:List Rat} (hk:0<=k/\k<V.length) (hA:A<=100) (hn:68719476736<=n):Aao n ((A:Int),vq V) (rq f) k=some (Ag A λi=>⟨f,Ay A i k.toNat,(V.getD k.toNat 0),0⟩):=by
 unfold Aao Ae0;dsimp only
 rw [Ap7 hA hn,A1,iW0 hn,A1,A3 (by simp [vq];intro e;rw [e] at hk;simp at hk;omega),A1,A1,QI]
 dsimp only
 have g1:(!(vq V).isEmpty)=true:=by simp [vq];intro e;rw [e] at hk;simp at hk;omega
 have g2:(decide (0<=k)&&decide (k<((vq V).length:Int)))=true:=by simp;omega
 by_cases h:k<(A:Int)
 . rw [QK h,iW1 hn,A1,Ap,A3 (by simp;omega),A3 (by simp;omega),Ao3,g1,F7,A3 g2,G9 (by omega)]
   refine ZN some ?_;unfold Ag gc
   rw [Fj (h:=λi=>Ay A i k.toNat) (g:=λi=>if k.toNat=i then 1 else 0) λi hi=>by unfold Ay;by_cases e:k.toNat=i <;> simp [e,hi]]
   try rfl
 . rw [QH h,g1,F7,A3 g2,G9 (by omega)]
   refine ZN some ?_;unfold Ag gc
   rw [Fj (h:=λi=>Ay A i k.toNat) (g:=λ_=>0) λi hi=>by unfold Ay;rw [QH (by omega)]]

theorem Ai6 {A N k:Nat} {ls:Nat->List Q4} (h:k<N):((List.range N).map λk=>Ag A λi=>(ls i).getD k (Q4.cst 0)).getD k ((false,[],[]),[],[],(false,[],[]))=Ag A λi=>(ls i).getD k (Q4.cst 0):=by
 simp [QJ,h]

theorem Aoz {n A N:Nat} {X V:List Rat} {ls:Nat->List Q4} {x:Nod} (hl:∀ i,(ls i).length=N) (hx:Dd x N) (hd:x.1=2->x.2.2.2<X.length/\x.2.2.2<V.length) (hV:0<V.length) (hs:∀ k,Dv (λi=>(ls i).getD k (Q4.cst 0)) 40) (hA:A<=100) (hn:68719476736<=n) :
  A4t n ((A:Int),vq V) x (vq X) ((List.range N).map λk=>Ag A λi=>(ls i).getD k (Q4.cst 0))=some ((if x.1=6/\((ls 0).getD x.2.2.1.toNat (Q4.cst 0)).f=0 then (((false,[],[]),[],[],(false,[],[])),10) else if x.1=8/\Bn (((ls 0).getD x.2.1.toNat (Q4.cst 0)).f ^ x.2.2.2.toNat)=false then (((false,[],[]),[],[],(false,[],[])),7) else (Ag A (λi=>Av (Al X) (Ay A i) (Al V) (ls i) x),0)),(List.range N).map λk=>Ag A λi=>(ls i).getD k (Q4.cst 0)):=by
 obtain ⟨op,a,b,m⟩:=x;obtain ⟨⟨o1,o2⟩,hN,ha,hb⟩:=hx
 have hll:((List.range N).map λk=>Ag A λi=>(ls i).getD k (Q4.cst 0)).length=N:=by simp
 unfold A4t;simp only [Y4,A1];unfold Kx at hN;unfold Dg at ha hb ⊢;dsimp only at *;generalize hJ:((List.range N).map λk=>Ag A λi=>(ls i).getD k (Q4.cst 0))=J at hll ⊢
 have get:∀ {k:Nat},k<N->J.getD k ((false,[],[]),[],[],(false,[],[]))=Ag A λi=>(ls i).getD k (Q4.cst 0):=λ{k} hk=>by rw [<- hJ];exact Ai6 hk
 obtain rfl | rfl | rfl | rfl | rfl | rfl | rfl | rfl:op=1 \/ op=2 \/ op=3 \/ op=4 \/ op=5 \/ op=6 \/ op=7 \/ op=8:=by omega
 . simp only [Av,Int.reduceEq,or_self,if_false,if_true,Int.reduceBEq,ZS,QV,Int.reduceLT,gt_iff_lt,decide_false,Qal] at *
   rw [iW (by omega) hn,A1,Ap0 hV hA hn,A1]
 . simp only [Av,Int.reduceEq,or_self,if_false,if_true,Int.reduceBEq,ZS,QV,Int.reduceLT,gt_iff_lt,decide_false,Qal] at *;have hd:=hd trivial
   rw [Co,A3 (by simp;omega),G9 (by omega),Ayz (V:=V) ⟨hN.1,hd.2⟩ hA hn,A1];rfl
 all_goals simp only [Av,Int.reduceEq,or_self,or_true,true_or,if_false,if_true,Int.reduceBEq,ZS,QV,Int.reduceLT,gt_iff_lt,decide_true,Qal,true_and] at *
 all_goals (have lA:a.toNat<N:=by omega)
 all_goals (have lB:b.toNat<N:=by omega)
 all_goals (rw [hll,A3 (by simp;omega),A3 (by simp;omega),A3 (by simp;omega),A3 (by simp;omega),get lA])
 all_goals (try rw [get lB])
 all_goals (have a1:=hs a.toNat;have b1:=hs b.toNat)
 all_goals (generalize hP:(λi=>(ls i).getD a.toNat (Q4.cst 0))=P at a1 ⊢;generalize hQ:(λi=>(ls i).getD b.toNat (Q4.cst 0))=Q at b1 ⊢)
 all_goals (have eP:∀ i,(ls i).getD a.toNat (Q4.cst 0)=P i:=λi=>congrFun hP i)
 all_goals (have eQ:∀ i,(ls i).getD b.toNat (Q4.cst 0)=Q i:=λi=>congrFun hQ i)
 all_goals simp only [eP,eQ]
 . have e:K2 n (Ag A P) (Ag A Q)=_:=Ac7 a1 b1 hA (by omega) hn
   have e:K2 n (((Ag A P).1.1,(Ag A P).1.2.1,(Ag A P).1.2.2),(Ag A P).2.1,(Ag A P).2.2.1,(Ag A P).2.2.2.1,(Ag A P).2.2.2.2.1,(Ag A P).2.2.2.2.2) (((Ag A Q).1.1,(Ag A Q).1.2.1,(Ag A Q).1.2.2),(Ag A Q).2.1,(Ag A Q).2.2.1,(Ag A Q).2.2.2.1,(Ag A Q).2.2.2.2.1,(Ag A Q).2.2.2.2.2)=some _:=e;rw [e,A1]
 . have e:K1 n (Ag A Q) (rq (-1))=_:=Ai5 b1 (by omega) hA (by omega) hn
   have e:K1 n (((Ag A Q).1.1,(Ag A Q).1.2.1,(Ag A Q).1.2.2),(Ag A Q).2.1,(Ag A Q).2.2.1,(Ag A Q).2.2.2.1,(Ag A Q).2.2.2.2.1,(Ag A Q).2.2.2.2.2) (rq (-1))=some _:=e
   have nF:Dv (λi=>Q4.neg (Q i)) 40:=⟨λi=>by simp only [Q4.neg,b1.f i],λi=>by simp only [Q4.neg,b1.v i],λi=>Ak4 (b1.s i)⟩
   have e2:K2 n (Ag A P) (Ag A λi=>Q4.neg (Q i))=_:=Ac7 a1 nF hA (by omega) hn
   have e2:K2 n (((Ag A P).1.1,(Ag A P).1.2.1,(Ag A P).1.2.2),(Ag A P).2.1,(Ag A P).2.2.1,(Ag A P).2.2.2.1,(Ag A P).2.2.2.2.1,(Ag A P).2.2.2.2.2) (Ag A λi=>Q4.neg (Q i))=some _:=e2;rw [iWm hn,A1,e,A1,e2,A1]
 . have e:K0 n (Ag A P) (Ag A Q)=_:=A8c a1 b1 hA (by omega) hn
   have e:K0 n (((Ag A P).1.1,(Ag A P).1.2.1,(Ag A P).1.2.2),(Ag A P).2.1,(Ag A P).2.2.1,(Ag A P).2.2.2.1,(Ag A P).2.2.2.2.1,(Ag A P).2.2.2.2.2) (((Ag A Q).1.1,(Ag A Q).1.2.1,(Ag A Q).1.2.2),(Ag A Q).2.1,(Ag A Q).2.2.1,(Ag A Q).2.2.2.1,(Ag A Q).2.2.2.2.1,(Ag A Q).2.2.2.2.2)=some _:=e;rw [e,A1]
 . have z:f74 n (rq (Q 0).f)=_:=Ap6;have z:f74 n ((Ag A Q).1.1,(Ag A Q).1.2.1,(Ag A Q).1.2.2)=_:=z;rw [z,A1,QI];by_cases h0:(Q 0).f=0
   . rw [QK h0,QK h0]
   . rw [QH h0,QH h0]
     have e:Y1 n (Ag A Q)=_:=Az0 b1 h0 hA (by omega) hn
     have e:Y1 n (((Ag A Q).1.1,(Ag A Q).1.2.1,(Ag A Q).1.2.2),(Ag A Q).2.1,(Ag A Q).2.2.1,(Ag A Q).2.2.2.1,(Ag A Q).2.2.2.2.1,(Ag A Q).2.2.2.2.2)=some _:=e
     have iF:Dv (λi=>Q4.inv (Q i)) 400:=⟨λi=>by simp only [Q4.inv,b1.f i],λi=>by simp only [Q4.inv,b1.f i,b1.v i],λi=>(Ak5 (b1.s i) (by rw [b1.f i];exact h0)).mono (by omega)⟩
     have e2:K0 n (Ag A P) (Ag A λi=>Q4.inv (Q i))=_:=A8c (a1.mono (by omega)) iF hA (by omega) hn
     have e2:K0 n (((Ag A P).1.1,(Ag A P).1.2.1,(Ag A P).1.2.2),(Ag A P).2.1,(Ag A P).2.2.1,(Ag A P).2.2.2.1,(Ag A P).2.2.2.2.1,(Ag A P).2.2.2.2.2) (Ag A λi=>Q4.inv (Q i))=some _:=e2;rw [e,A1,e2,A1]
 . have e:K1 n (Ag A P) (rq (-1))=_:=Ai5 a1 (by omega) hA (by omega) hn
   have e:K1 n (((Ag A P).1.1,(Ag A P).1.2.1,(Ag A P).1.2.2),(Ag A P).2.1,(Ag A P).2.2.1,(Ag A P).2.2.2.1,(Ag A P).2.2.2.2.1,(Ag A P).2.2.2.2.2) (rq (-1))=some _:=e;rw [iWm hn,A1,e,A1]
 . obtain ⟨N',rfl⟩:∃ N':Nat,m=(N':Int):=⟨m.toNat,by omega⟩
   have e0:f221 n (rq (P 0).f) (N':Int)=_:=Pj (a1.s 0).f (by omega) (by omega) hn
   have e0:f221 n ((Ag A P).1.1,(Ag A P).1.2.1,(Ag A P).1.2.2) (N':Int)=some _:=e0
   have e:Y0 n (Ag A P) (N':Int)=_:=Aoy a1 hA (by omega) (by omega) hn
   have e:Y0 n (((Ag A P).1.1,(Ag A P).1.2.1,(Ag A P).1.2.2),(Ag A P).2.1,(Ag A P).2.2.1,(Ag A P).2.2.2.1,(Ag A P).2.2.2.2.1,(Ag A P).2.2.2.2.2) (N':Int)=some _:=e;rw [e0,A1,Xp,A1,QQ]
   cases hfit:Bn ((P 0).f ^ N') with
   | false=>simp only [ZV,ZS,if_true]
   | true =>
    simp only [XM,QV,Bool.true_eq_false,if_false];rw [e,A1]

def Qn (A:Nat) (x w:Nat->Rat):List Nod->(Nat->List Q4)->(Nat->List Q4) ⊕ Int
 | [],ls=>.inl ls
 | n::r,ls=>if Oa (ls 0) n then .inr 10 else if N1 A (λi=>Av x (Ay A i) w (ls i) n)=true then Qn A x w r (λi=>ls i++[Av x (Ay A i) w (ls i) n]) else .inr 7

theorem Cy {l:List Q4} {q:Q4} {k:Nat}:(l++[q]).getD k (Q4.cst 0)=if k<l.length then l.getD k (Q4.cst 0) else if k=l.length then q else Q4.cst 0:=by
 by_cases h:k<l.length
 . rw [QK h,Anf h]
 . by_cases h2:k=l.length
   . rw [QH h,QK h2,h2,Ang]
   . rw [QH h,QH h2,Ip (by simp;omega)]

theorem Ao1 (x w:Nat->Rat):F1 x (λ_:Unit=>λ_=>0) (λ_=>w) (λp=>(p ()).a=0/\(p ()).c=0):=by
 refine ⟨λ_=>⟨rfl,rfl⟩,λ_=>⟨rfl,rfl⟩,λh1 h2=>?_,λh1=>?_,λh1 h2=>?_,λh1=>?_⟩ <;> simp only [Q4.add,Q4.neg,Q4.mul,Q4.inv,h1] <;> (try simp only [h2]) <;> grind

theorem B2j (x u:Nat->Rat):F1 x (λ_:Unit=>u) (λ_=>λ_=>0) (λp=>(p ()).v=0/\(p ()).c=0):=by
 refine ⟨λ_=>⟨rfl,rfl⟩,λ_=>⟨rfl,rfl⟩,λh1 h2=>?_,λh1=>?_,λh1 h2=>?_,λh1=>?_⟩ <;> simp only [Q4.add,Q4.neg,Q4.mul,Q4.inv,h1] <;> (try simp only [h2]) <;> grind

theorem Atb {A i:Nat} (h:A<=i):Ay A i=λ_=>0:=by funext k;unfold Ay;rw [QH (by omega)]

theorem Tt {A:Nat} {p:Nat->Bool}:La A p=true ↔ ∀ i,i<A->p i=true:=by
 unfold La;rw [QL];exact ⟨λh i hi=>h i (XJ.2 hi),λh i hi=>h i (XJ.1 hi)⟩

structure OkN (A N:Nat) (ls:Nat->List Q4):Prop where
 n:∀ i,(ls i).length=N
 s:∀ k,Dv (λi=>(ls i).getD k (Q4.cst 0)) 40
 z:∀ i,A<=i->∀ k,((ls i).getD k (Q4.cst 0)).a=0/\((ls i).getD k (Q4.cst 0)).c=0
 w:∀ i k,((ls i).getD k (Q4.cst 0)).v=0/\((ls i).getD k (Q4.cst 0)).c=0

theorem B26 (A:Nat):OkN A 0 (λ_=>[]):=⟨λ_=>rfl,λk=>Yv (Bx.mono (by omega)) (by omega),λi _ k=>⟨rfl,rfl⟩,λi k=>⟨rfl,rfl⟩⟩

theorem Ax8 {A N:Nat} {x:Nat->Rat} {ls:Nat->List Q4} {nd:Nod} (h:OkN A N ls) (hf:N0 A (λi=>Av x (Ay A i) (λ_=>0) (ls i) nd)=true):OkN A (N+1) (λi=>ls i++[Av x (Ay A i) (λ_=>0) (ls i) nd]):=by
 unfold N0 at hf;simp only [QF,Tt,J8] at hf;have fam:=Abm (A:=A) (x:=x) (w:=(λ_=>0)) (ls:=ls) (λk i=>⟨(h.s k).f i,(h.s k).v i⟩) nd
 have zu:∀ i,A<=i->(Av x (Ay A i) (λ_=>0) (ls i) nd).a=0/\(Av x (Ay A i) (λ_=>0) (ls i) nd).c=0:=λi hi=>by
  have:=(Ao1 x (λ_=>0)).of (l:=λ_=>ls i) (λk=>h.z i hi k) nd;rw [Atb hi];exact this
 have zw:∀ i,(Av x (Ay A i) (λ_=>0) (ls i) nd).v=0/\(Av x (Ay A i) (λ_=>0) (ls i) nd).c=0:=λi=>(B2j x (Ay A i)).of (l:=λ_=>ls i) (λk=>h.w i k) nd
 refine ⟨λi=>by simp [h.n i],λk=>?_,λi hi k=>?_,λi k=>?_⟩
 . have e : (fun i => (ls i ++ [Av x (Ay A i) (fun _ => 0) (ls i) nd]).getD k (Q4.cst 0)) = fun i => if k < N then (ls i).getD k (Q4.cst 0) else if k = N then Av x (Ay A i) (fun _ => 0) (ls i) nd else Q4.cst 0 := by
    funext i;rw [Cy,h.n i]
   rw [e];by_cases h1:k<N
   . simp only [QK h1];exact h.s k
   . by_cases h2:k=N
     . simp only [QH h1,QK h2];refine ⟨λi=>(fam i).1,λi=>(fam i).2,λi=>⟨?_,?_,?_,?_⟩⟩
       . rw [(fam i).1];exact hf.1
       . by_cases hi:i<A
         . exact hf.2.2 i hi
         . rw [(zu i (by omega)).1];exact Bx.mono (by omega)
       . rw [(fam i).2];exact hf.2.1
       . rw [(zw i).2];exact Bx.mono (by omega)
     . simp only [QH h1,QH h2];exact Yv (Bx.mono (by omega)) (by omega)
 . rw [Cy,h.n i];split
   . exact h.z i hi k
   . split
     . exact zu i hi
     . exact ⟨rfl,rfl⟩
 . rw [Cy,h.n i];split
   . exact h.w i k
   . split
     . exact zw i
     . exact ⟨rfl,rfl⟩

theorem Af3 {A:Nat} {x:Nat->Rat}:∀ (ns:List Nod) (ls:Nat->List Q4) (c:Int),Qo A x (λ_=>0) ns ls = .inr c->c=7 \/ c=10
 | [],ls,c,e=>by simp [Qo] at e
 | nd::r,ls,c,e=>by
  rw [Qo] at e;split at e
  . exact .inr (by simpa using e.symm)
  . split at e
    . exact Af3 r _ c e
    . exact .inl (by simpa using e.symm)

theorem Ac6 {α:Type} {n A:Nat} {X V:List Rat} {e:List Nod} (hp:Pm e X.length) (he:e.length<=60) (hVX:V.length=X.length) (hA:A<=100) (hn:68719476736<=n)
  {k0:Int->Option α} {k1:List Jn->Option α}:∀ (m N:Nat) (ls:Nat->List Q4),OkN A N ls->N<=e.length->e.length<N+m ->
  Yg n m (vq X) e (e.length:Int) (N:Int) (A:Int) ((List.range N).map λk=>Ai A λi=>(ls i).getD k (Q4.cst 0)) k0 k1=match Qo A (Al X) (λ_=>0) (e.drop N) ls with
   | .inl l'=>k1 ((List.range e.length).map λk=>Ai A λi=>(l' i).getD k (Q4.cst 0))
   | .inr c=>k0 c
 | 0,N,ls,hs,hl,hm=>by omega
 | m+1,N,ls,hs,hl,hm=>by
  rw [Asg];unfold A26;rw [QI];by_cases h:N<e.length
  . obtain ⟨h1,h2⟩:=hp _ h
    rw [QK (by omega),A3 (by simp;omega),QQ,A5b h,Qo]
    generalize hx:e.getD N (0,0,0,0)=x at h1 h2
    have hg:=Aow (n:=n) (X:=X) (V:=V) (ls:=ls) hs.n h1 (λh=>⟨h2 h,by rw [hVX];exact h2 h⟩) hs.s hA hn
    dsimp only
    rw [hg,A1,A3 (by simp)]
    by_cases hb:Oa (ls 0) x
    . have hb':x.1=6/\((ls 0).getD x.2.2.1.toNat (Q4.cst 0)).f=0:=hb;rw [QK hb,QK hb'];rfl
    . have hb':¬ (x.1=6/\((ls 0).getD x.2.2.1.toNat (Q4.cst 0)).f=0):=hb;rw [QH hb,QH hb'];by_cases h8:x.1=8/\Bn (((ls 0).getD x.2.1.toNat (Q4.cst 0)).f ^ x.2.2.2.toNat)=false
      . rw [QK h8]
        have:N0 A (λi=>Av (Al X) (Ay A i) (λ_=>0) (ls i) x)=false:=by
         unfold N0;rw [Abl h8.1,h8.2];rfl
        rw [this,QH (by simp)];rfl
      . rw [QH h8];show (ob (f200 n (Ai A λi=>Av (Al X) (Ay A i) (λ_=>0) (ls i) x)) λr_3=>_)=_;rw [Auw hA hn,A1]
        show (bif (!N0 A (λi=>Av (Al X) (Ay A i) (λ_=>0) (ls i) x)) then k0 7 else _)=_
        cases hf:N0 A (λi=>Av (Al X) (Ay A i) (λ_=>0) (ls i) x) with
        | false=>rfl
        | true =>
         rw [XM,QV,A3 (by simp;omega),Ab (by omega) (by omega)]
         simp only [if_true]
         have:=Ac6 hp he hVX hA hn (k0:=k0) (k1:=k1) m (N+1) _ (Ax8 hs hf) (by omega) (by omega)
         rw [<- this,Qax,KQ]
         have e1:((List.range N).map λk=>Ai A λi=>(ls i++[Av (Al X) (Ay A i) (λ_=>0) (ls i) x]).getD k (Q4.cst 0))=(List.range N).map λk=>Ai A λi=>(ls i).getD k (Q4.cst 0) :=
          ZB λk hk=>by
           congr 1;funext i
           rw [Cy,QK (by rw [hs.n i];exact XJ.1 hk)]
         have e2:(λi=>(ls i++[Av (Al X) (Ay A i) (λ_=>0) (ls i) x]).getD N (Q4.cst 0))=λi=>Av (Al X) (Ay A i) (λ_=>0) (ls i) x:=by
          funext i
          rw [Cy,QH (by rw [hs.n i];omega),QK (hs.n i).symm]
         rw [e1,QS,XV,e2];rfl
  . obtain rfl:N=e.length:=by omega
    rw [QH (by omega),QX (by omega)]
    rfl

theorem Auv {n A:Nat} {X V:List Rat} {e:List Nod} (hp:Pm e X.length) (he:e.length<=60) (hVX:V.length=X.length) (hA:A<=100) (hn:68719476736<=n) :
  f166 n ((A:Int),()) e (vq X)=some (match Qo A (Al X) (λ_=>0) e (λ_=>[]) with
   | .inl l=>((List.range e.length).map λk=>Ai A λi=>(l i).getD k (Q4.cst 0),0)
   | .inr c=>([],c)):=by
 unfold f166
 have:=Ac6 (n:=n) hp he hVX hA hn (k0:=λz_4=>(some (([],z_4):List Jn × Int))) (k1:=λz_5=>some (z_5,0)) n 0 (λ_=>[]) (B26 A) (by omega) (by omega)
 refine Eq.trans this ?_;rw [ZP]
 cases Qo A (Al X) (λ_=>0) e (λ_=>[]) <;> rfl

theorem B2q {n A:Nat} {X V:List Rat} {e:List Nod} (hp:Pm e X.length) (h1:1<=e.length) (he:e.length<=60) (hVX:V.length=X.length) (hA:A<=100) (hn:68719476736<=n) :
  f96 n ((A:Int),()) e (vq X)=some (match Qo A (Al X) (λ_=>0) e (λ_=>[]) with
   | .inl l=>(Ai A λi=>(l i).getD (e.length-1) (Q4.cst 0),0)
   | .inr c=>(((false,[],[]),[],(),(false,[],[])),c)):=by
 unfold f96;rw [Auv hp he hVX hA hn,A1]
 cases hev:Qo A (Al X) (λ_=>0) e (λ_=>[]) with
 | inr c =>
  have hc:(c != 0)=true:=by rcases Af3 _ _ _ hev with rfl | rfl <;> rfl
  dsimp only;rw [hc];rfl
 | inl l =>
  simp only [ZX,KV]
  rw [Ab (by omega) (by omega),show ((0:Int) != 0)=false from rfl,QV,A3 (by simp;omega),show ((e.length:Int)-1).toNat=e.length-1 by omega,Ai4 (by omega)]

structure OkC (A N:Nat) (ls:Nat->List Q4):Prop where
 n:∀ i,(ls i).length=N
 s:∀ k,Dv (λi=>(ls i).getD k (Q4.cst 0)) 40
 z:∀ i,A<=i->∀ k,((ls i).getD k (Q4.cst 0)).a=0/\((ls i).getD k (Q4.cst 0)).c=0

theorem B27 (A:Nat):OkC A 0 (λ_=>[]):=⟨λ_=>rfl,λk=>Yv (Bx.mono (by omega)) (by omega),λi _ k=>⟨rfl,rfl⟩⟩

theorem Ax9 {A N:Nat} {x:Nat->Rat} {w:Nat->Rat} {ls:Nat->List Q4} {nd:Nod} (h:OkC A N ls) (hf:N1 A (λi=>Av x (Ay A i) w (ls i) nd)=true):OkC A (N+1) (λi=>ls i++[Av x (Ay A i) w (ls i) nd]):=by
 unfold N1 at hf;simp only [QF,Tt,J8] at hf;have fam:=Abm (A:=A) (x:=x) (w:=w) (ls:=ls) (λk i=>⟨(h.s k).f i,(h.s k).v i⟩) nd
 have zu:∀ i,A<=i->(Av x (Ay A i) w (ls i) nd).a=0/\(Av x (Ay A i) w (ls i) nd).c=0:=λi hi=>by
  have:=(Ao1 x w).of (l:=λ_=>ls i) (λk=>h.z i hi k) nd;rw [Atb hi];exact this
 refine ⟨λi=>by simp [h.n i],λk=>?_,λi hi k=>?_⟩
 . have e : (fun i => (ls i ++ [Av x (Ay A i) w (ls i) nd]).getD k (Q4.cst 0)) = fun i => if k < N then (ls i).getD k (Q4.cst 0) else if k = N then Av x (Ay A i) w (ls i) nd else Q4.cst 0 := by
    funext i;rw [Cy,h.n i]
   rw [e];by_cases h1:k<N
   . simp only [QK h1];exact h.s k
   . by_cases h2:k=N
     . simp only [QH h1,QK h2];refine ⟨λi=>(fam i).1,λi=>(fam i).2,λi=>⟨?_,?_,?_,?_⟩⟩
       . rw [(fam i).1];exact hf.1
       . by_cases hi:i<A
         . exact hf.2.2.1 i hi
         . rw [(zu i (by omega)).1];exact Bx.mono (by omega)
       . rw [(fam i).2];exact hf.2.1
       . by_cases hi:i<A
         . exact hf.2.2.2 i hi
         . rw [(zu i (by omega)).2];exact Bx.mono (by omega)
     . simp only [QH h1,QH h2];exact Yv (Bx.mono (by omega)) (by omega)
 . rw [Cy,h.n i];split
   . exact h.z i hi k
   . split
     . exact zu i hi
     . exact ⟨rfl,rfl⟩

theorem Af2 {A:Nat} {x:Nat->Rat} {w:Nat->Rat}:∀ (ns:List Nod) (ls:Nat->List Q4) (c:Int),Qn A x w ns ls = .inr c->c=7 \/ c=10
 | [],ls,c,e=>by simp [Qn] at e
 | nd::r,ls,c,e=>by
  rw [Qn] at e;split at e
  . exact .inr (by simpa using e.symm)
  . split at e
    . exact Af2 r _ c e
    . exact .inl (by simpa using e.symm)

theorem Ac8 {α:Type} {n A:Nat} {X V:List Rat} {e:List Nod} (hp:Pm e X.length) (he:e.length<=60) (hVX:V.length=X.length) (hV:0<V.length) (hA:A<=100) (hn:68719476736<=n)
  {k0:Int->Option α} {k1:List Jc->Option α}:∀ (m N:Nat) (ls:Nat->List Q4),OkC A N ls->N<=e.length->e.length<N+m ->
  Sx n m (vq X) e (e.length:Int) (N:Int) (A:Int) (vq V) ((List.range N).map λk=>Ag A λi=>(ls i).getD k (Q4.cst 0)) k0 k1=match Qn A (Al X) (Al V) (e.drop N) ls with
   | .inl l'=>k1 ((List.range e.length).map λk=>Ag A λi=>(l' i).getD k (Q4.cst 0))
   | .inr c=>k0 c
 | 0,N,ls,hs,hl,hm=>by omega
 | m+1,N,ls,hs,hl,hm=>by
  rw [Amm];unfold Wo;rw [QI];by_cases h:N<e.length
  . obtain ⟨h1,h2⟩:=hp _ h
    rw [QK (by omega),A3 (by simp;omega),QQ,A5b h,Qn]
    generalize hx:e.getD N (0,0,0,0)=x at h1 h2
    have hg:=Aoz (n:=n) (X:=X) (V:=V) (ls:=ls) hs.n h1 (λh=>⟨h2 h,by rw [hVX];exact h2 h⟩) hV hs.s hA hn
    dsimp only
    rw [hg,A1,A3 (by simp)]
    by_cases hb:Oa (ls 0) x
    . have hb':x.1=6/\((ls 0).getD x.2.2.1.toNat (Q4.cst 0)).f=0:=hb;rw [QK hb,QK hb'];rfl
    . have hb':¬ (x.1=6/\((ls 0).getD x.2.2.1.toNat (Q4.cst 0)).f=0):=hb;rw [QH hb,QH hb'];by_cases h8:x.1=8/\Bn (((ls 0).getD x.2.1.toNat (Q4.cst 0)).f ^ x.2.2.2.toNat)=false
      . rw [QK h8]
        have:N1 A (λi=>Av (Al X) (Ay A i) (Al V) (ls i) x)=false:=by
         unfold N1;rw [Abl h8.1,h8.2];rfl
        rw [this,QH (by simp)];rfl
      . rw [QH h8];show (ob (A4s n (Ag A λi=>Av (Al X) (Ay A i) (Al V) (ls i) x)) λr_3=>_)=_;rw [Auy hA hn,A1]
        show (bif (!N1 A (λi=>Av (Al X) (Ay A i) (Al V) (ls i) x)) then k0 7 else _)=_
        cases hf:N1 A (λi=>Av (Al X) (Ay A i) (Al V) (ls i) x) with
        | false=>rfl
        | true =>
         rw [XM,QV,A3 (by simp;omega),Ab (by omega) (by omega)]
         simp only [if_true]
         have:=Ac8 hp he hVX hV hA hn (k0:=k0) (k1:=k1) m (N+1) _ (Ax9 hs hf) (by omega) (by omega)
         rw [<- this,Qax,KQ]
         have e1:((List.range N).map λk=>Ag A λi=>(ls i++[Av (Al X) (Ay A i) (Al V) (ls i) x]).getD k (Q4.cst 0))=(List.range N).map λk=>Ag A λi=>(ls i).getD k (Q4.cst 0) :=
          ZB λk hk=>by
           congr 1;funext i
           rw [Cy,QK (by rw [hs.n i];exact XJ.1 hk)]
         have e2:(λi=>(ls i++[Av (Al X) (Ay A i) (Al V) (ls i) x]).getD N (Q4.cst 0))=λi=>Av (Al X) (Ay A i) (Al V) (ls i) x:=by
          funext i
          rw [Cy,QH (by rw [hs.n i];omega),QK (hs.n i).symm]
         rw [e1,QS,XV,e2];rfl
  . obtain rfl:N=e.length:=by omega
    rw [QH (by omega),QX (by omega)]
    rfl

theorem Aux {n A:Nat} {X V:List Rat} {e:List Nod} (hp:Pm e X.length) (he:e.length<=60) (hVX:V.length=X.length) (hV:0<V.length) (hA:A<=100) (hn:68719476736<=n) :
  Aas n ((A:Int),vq V) e (vq X)=some (match Qn A (Al X) (Al V) e (λ_=>[]) with
   | .inl l=>((List.range e.length).map λk=>Ag A λi=>(l i).getD k (Q4.cst 0),0)
   | .inr c=>([],c)):=by
 unfold Aas
 have:=Ac8 (n:=n) hp he hVX hV hA hn (k0:=λz_4=>(some (([],z_4):List Jc × Int))) (k1:=λz_5=>some (z_5,0)) n 0 (λ_=>[]) (B27 A) (by omega) (by omega)
 refine Eq.trans this ?_;rw [ZP]
 cases Qn A (Al X) (Al V) e (λ_=>[]) <;> rfl

theorem Ap1 {n A:Nat} {X V:List Rat} {e:List Nod} (hp:Pm e X.length) (h1:1<=e.length) (he:e.length<=60) (hVX:V.length=X.length) (hV:0<V.length) (hA:A<=100) (hn:68719476736<=n) :
  Vh n ((A:Int),vq V) e (vq X)=some (match Qn A (Al X) (Al V) e (λ_=>[]) with
   | .inl l=>(Ag A λi=>(l i).getD (e.length-1) (Q4.cst 0),0)
   | .inr c=>(((false,[],[]),[],[],(false,[],[])),c)):=by
 unfold Vh;rw [Aux hp he hVX hV hA hn,A1]
 cases hev:Qn A (Al X) (Al V) e (λ_=>[]) with
 | inr c =>
  have hc:(c != 0)=true:=by rcases Af2 _ _ _ hev with rfl | rfl <;> rfl
  dsimp only;rw [hc];rfl
 | inl l =>
  simp only [ZX,KV]
  rw [Ab (by omega) (by omega),show ((0:Int) != 0)=false from rfl,QV,A3 (by simp;omega),show ((e.length:Int)-1).toNat=e.length-1 by omega,Ai6 (by omega)]

theorem Ajr {A:Nat} {x w:Nat->Rat}:∀ (ns:List Nod) (N:Nat) (ls:Nat->List Q4),(∀ i,(ls i).length=N)->(∀ nd ∈ ns,nd.1 ≠ 6)->(∀ i k,Pb ((evs x (Ay A i) w ns (ls i)).getD k (Q4.cst 0)) 40)->Qn A x w ns ls = .inl λi=>evs x (Ay A i) w ns (ls i)
 | [],N,ls,hl,h6,hs=>rfl
 | nd::r,N,ls,hl,h6,hs=>by
  have q:∀ i,Pb (Av x (Ay A i) w (ls i) nd) 40:=λi=>by
   have:=hs i N
   rw [evs,Yk _ _ _ _ _ _ (by simp [hl i]),Cy,QH (by rw [hl i];omega),QK (hl i).symm] at this
   exact this
  have hf:N1 A (λi=>Av x (Ay A i) w (ls i) nd)=true:=by
   unfold N1;simp only [QF,Tt,J8];exact ⟨(q 0).f,(q 0).v,λi _=>(q i).a,λi _=>(q i).c⟩
  rw [Qn,QH (λh=>h6 nd (XY ..) h.1),QK hf]
  exact Ajr r (N+1) _ (λi=>by simp [hl i]) (λm hm=>h6 m (ZM _ hm)) (λi k=>by have:=hs i k;rw [evs] at this;exact this)

theorem Ajs {A:Nat} {x:Nat->Rat}:∀ (ns:List Nod) (N:Nat) (ls:Nat->List Q4),(∀ i,(ls i).length=N)->(∀ nd ∈ ns,nd.1 ≠ 6)->(∀ i k,Pb ((evs x (Ay A i) (λ_=>0) ns (ls i)).getD k (Q4.cst 0)) 40)->Qo A x (λ_=>0) ns ls = .inl λi=>evs x (Ay A i) (λ_=>0) ns (ls i)
 | [],N,ls,hl,h6,hs=>rfl
 | nd::r,N,ls,hl,h6,hs=>by
  have q:∀ i,Pb (Av x (Ay A i) (λ_=>0) (ls i) nd) 40:=λi=>by
   have:=hs i N
   rw [evs,Yk _ _ _ _ _ _ (by simp [hl i]),Cy,QH (by rw [hl i];omega),QK (hl i).symm] at this
   exact this
  have hf:N0 A (λi=>Av x (Ay A i) (λ_=>0) (ls i) nd)=true:=by
   unfold N0;simp only [QF,Tt,J8];exact ⟨(q 0).f,(q 0).v,λi _=>(q i).a⟩
  rw [Qo,QH (λh=>h6 nd (XY ..) h.1),QK hf]
  exact Ajs r (N+1) _ (λi=>by simp [hl i]) (λm hm=>h6 m (ZM _ hm)) (λi k=>by have:=hs i k;rw [evs] at this;exact this)

def B4 (c0 d0 c1 d1:Int):List Nod:=[(1,0,0,c0),(2,0,0,0),(1,0,0,d0),(4,1,2,0),(8,3,0,2),(5,0,4,0),(1,0,0,c1),(2,0,0,1),(1,0,0,d1),(4,7,8,0),(8,9,0,2),(5,6,10,0),(3,5,11,0)]

def Zl (p:Q4) (d:Int):Q4:=Q4.add p (Q4.neg (Q4.cst (d:Rat)))

def sqd (p:Q4) (c d:Int):Q4:=Q4.mul (Q4.cst (c:Rat)) (Q4.pow (Zl p d) 2)

def jx (x u w:Nat->Rat) (k:Nat):Q4:=⟨x k,u k,w k,0⟩

theorem Tn (x u w:Nat->Rat) (c0 d0 c1 d1:Int):evs x u w (B4 c0 d0 c1 d1) []=[Q4.cst c0,jx x u w 0,Q4.cst d0,Zl (jx x u w 0) d0,Q4.pow (Zl (jx x u w 0) d0) 2,sqd (jx x u w 0) c0 d0,
  Q4.cst c1,jx x u w 1,Q4.cst d1,Zl (jx x u w 1) d1,Q4.pow (Zl (jx x u w 1) d1) 2,sqd (jx x u w 1) c1 d1,Q4.add (sqd (jx x u w 0) c0 d0) (sqd (jx x u w 1) c1 d1)]:=by
 simp [evs,Av,B4,Zl,sqd,jx]

structure Fh (c0 d0 c1 d1:Int):Prop where
 c0:1<=c0/\c0<=3
 d0:0<=d0/\d0<=4
 c1:1<=c1/\c1<=3
 d1:0<=d1/\d1<=4

theorem Pz {p:Q4} {d:Int} (hp:Bt p 3159) (hd:0<=d/\d<=4):Bt (Zl p d) 25272:=(hp.add ((Bt.cst d).neg.mono (show max d.natAbs 1<=4 by omega))).mono (by omega)

theorem Ai9 {p:Q4} {c d:Int} (hp:Bt p 3159) (hd:0<=d/\d<=4) (hc:1<=c/\c<=3):Bt (sqd p c d) 1916021952:=(((Bt.cst c).mono (show max c.natAbs 1<=3 by omega)).mul ((Pz hp hd).pow 2)).mono (by decide)

theorem Rd {x u w:Nat->Rat} {c0 d0 c1 d1:Int} (hb:Fh c0 d0 c1 d1) (hx:∀ k,Bt (jx x u w k) 3159) (k:Nat):Bt ((evs x u w (B4 c0 d0 c1 d1) []).getD k (Q4.cst 0)) 7342280241115644608:=by
 rw [Tn];have s0:=Ai9 (hx 0) hb.d0 hb.c0;have s1:=Ai9 (hx 1) hb.d1 hb.c1;have b0:=hb.c0;have b1:=hb.d0;have b2:=hb.c1;have b3:=hb.d1
 match k with
 | 0=>exact (Bt.cst c0).mono (by omega)
 | 1=>exact (hx 0).mono (by omega)
 | 2=>exact (Bt.cst d0).mono (by omega)
 | 3=>exact (Pz (hx 0) hb.d0).mono (by omega)
 | 4=>exact ((Pz (hx 0) hb.d0).pow 2).mono (by decide)
 | 5=>exact s0.mono (by omega)
 | 6=>exact (Bt.cst c1).mono (by omega)
 | 7=>exact (hx 1).mono (by omega)
 | 8=>exact (Bt.cst d1).mono (by omega)
 | 9=>exact (Pz (hx 1) hb.d1).mono (by omega)
 | 10=>exact ((Pz (hx 1) hb.d1).pow 2).mono (by decide)
 | 11=>exact s1.mono (by omega)
 | 12=>exact (s0.add s1).mono (by decide)
 | k+13=>exact (Bt.cst 0).mono (by decide)

theorem Ak6 {q:Q4} (h:Bt q 7342280241115644608):Pb q 40:=by
 obtain ⟨h1,h2,h3,h4⟩:=h.sizes
 have s:∀ {x:Rat},Hb x (6*(7342280241115644608*7342280241115644608*7342280241115644608))->Sz x 40:=λ{x} hx=>Bq.sz (N:=6*(7342280241115644608*7342280241115644608*7342280241115644608)) (D:=6*(7342280241115644608*7342280241115644608*7342280241115644608)) hx (by decide) (by decide)
 exact ⟨s h1,s h2,s h3,s h4⟩

theorem A3v {x w:Nat->Rat} {A i:Nat} (hx:∀ k,Bq (x k) 180 81) (hw:∀ k,Bq (w k) 10 9) (k:Nat):Bt (jx x (Ay A i) w k) 3159:=by
 have:=Bt.var (x:=x k) (w:=w k) (δ:=if k=i/\i<A then 1 else 0) (hx k).1 (hx k).2 (hw k).1 (hw k).2 (by split <;> decide)
 unfold jx Ay;by_cases h:k=i/\i<A
 . rw [QK h] at this ⊢;exact this
 . rw [QH h] at this ⊢;exact this

theorem Afj {c0 d0 c1 d1:Int}:∀ nd ∈ B4 c0 d0 c1 d1,nd.1 ≠ 6:=by
 intro nd h;simp only [B4,QT,XQ,or_false] at h;rcases h with rfl | rfl | rfl | rfl | rfl | rfl | rfl | rfl | rfl | rfl | rfl | rfl | rfl <;> simp

theorem Ayd {x w:Nat->Rat} {A:Nat} {c0 d0 c1 d1:Int} (hb:Fh c0 d0 c1 d1) (hx:∀ k,Bq (x k) 180 81) (hw:∀ k,Bq (w k) 10 9):Qn A x w (B4 c0 d0 c1 d1) (λ_=>[]) = .inl λi=>evs x (Ay A i) w (B4 c0 d0 c1 d1) [] :=
 Ajr _ 0 _ (λ_=>rfl) Afj λi k=>Ak6 (Rd hb (A3v hx hw) k)

theorem B7a {x:Nat->Rat} {A:Nat} {c0 d0 c1 d1:Int} (hb:Fh c0 d0 c1 d1) (hx:∀ k,Bq (x k) 180 81):Qo A x (λ_=>0) (B4 c0 d0 c1 d1) (λ_=>[]) = .inl λi=>evs x (Ay A i) (λ_=>0) (B4 c0 d0 c1 d1) [] :=
 Ajs _ 0 _ (λ_=>rfl) Afj λi k=>Ak6 (Rd hb (A3v hx λ_=>⟨by simp,by decide⟩) k)

theorem A9s {c0 d0 c1 d1:Int} (hb:Fh c0 d0 c1 d1):P0 (B4 c0 d0 c1 d1)=true:=by
 obtain ⟨⟨a1,a2⟩,⟨a3,a4⟩,⟨a5,a6⟩,a7,a8⟩:=hb
 obtain rfl | rfl | rfl:c0=1 \/ c0=2 \/ c0=3:=by omega
 all_goals (obtain rfl | rfl | rfl:c1=1 \/ c1=2 \/ c1=3:=by omega)
 all_goals (obtain rfl | rfl | rfl | rfl | rfl:d0=0 \/ d0=1 \/ d0=2 \/ d0=3 \/ d0=4:=by omega)
 all_goals (obtain rfl | rfl | rfl | rfl | rfl:d1=0 \/ d1=1 \/ d1=2 \/ d1=3 \/ d1=4:=by omega)
 all_goals decide +kernel

theorem Afl {c0 d0 c1 d1:Int}:Jp 0 (B4 c0 d0 c1 d1)=2:=by
 simp [Jp,B4,W];decide

theorem B3q {n:Nat} {l:List Int} (h:∀ x ∈ l,0<=x/\x<=255) (hl:l.length<=1048576) (hn:1048577<=n):∃ c0 d0 c1 d1,f36 n l 2=some (B4 c0 d0 c1 d1)/\Fh c0 d0 c1 d1:=by
 obtain ⟨a0,s1,e1,r1,o1⟩:=Mh (n:=n) (k:=3) (B2c h hl) (by omega) (by omega) (by omega)
 obtain ⟨b0,s2,e2,r2,o2⟩:=Mh (n:=n) (k:=5) o1 (by omega) (by omega) (by omega)
 obtain ⟨a1,s3,e3,r3,o3⟩:=Mh (n:=n) (k:=3) o2 (by omega) (by omega) (by omega)
 obtain ⟨b1,s4,e4,r4,o4⟩:=Mh (n:=n) (k:=5) o3 (by omega) (by omega) (by omega)
 refine ⟨1+a0,b0,1+a1,b1,?_,⟨by omega,by omega⟩,by omega,⟨by omega,by omega⟩,by omega⟩
 unfold f36 A6r;rw [A1];unfold Avi
 obtain ⟨m,hm⟩:∃ m,n=m+3:=⟨n-3,by omega⟩
 have key:∀ {α:Type} {k0:List Nod->List Int->Int->Int->Option α},J9 n (m+3) 2 (-1) 0 [] l 0 (Int.tmod (l.length:Int) 1000) k0=k0 (B4 (1+a0) b0 (1+a1) b1) s4.1 s4.2.1 s4.2.2:=by
  intro α k0;rw [Vk];unfold N2
  rw [show decide ((0:Int)<2)=true from rfl,ZS,e1,A1,e2,A1,A3 (by simp),A3 (by simp),Ab (x:=1+a0) (by omega) (by omega)]
  show J9 n (m+2) 2 5 1 [(1,0,0,1+a0),(2,0,0,0),(1,0,0,b0),(4,1,2,0),(8,3,0,2),(5,0,4,0)] s2.1 s2.2.1 s2.2.2 k0=_;rw [Vk];unfold N2;have e3:K3 n (s2.1,s2.2.1,s2.2.2) 3=_:=e3
  rw [show decide ((1:Int)<2)=true from rfl,ZS,e3,A1,e4,A1,A3 (by simp),A3 (by simp),Ab (x:=1+a1) (by omega) (by omega)]
  dsimp only
  rw [show decide ((5:Int)>=0)=true from rfl,ZS,A3 (by simp)]
  show J9 n (m+1) 2 12 2 (B4 (1+a0) b0 (1+a1) b1) s4.1 s4.2.1 s4.2.2 k0=_;rw [Vk];unfold N2;rw [show decide ((2:Int)<2)=false from rfl,QV]
 have:J9 n n 2 (-1) 0 [] l 0 (Int.tmod (l.length:Int) 1000) (λz_4 z_5 z_6 z_7=>some (z_4,(z_5,z_6,z_7)))=some (B4 (1+a0) b0 (1+a1) b1,(s4.1,s4.2.1,s4.2.2)):=by
  have q:=key (k0:=λz_4 z_5 z_6 z_7=>some (z_4,(z_5,z_6,z_7)));rw [<- hm] at q;exact q
 dsimp only;rw [this,A1]

theorem Avv {n:Nat} (hn:1048577<=n):f37 n 1 2=some (rq (1 / 2),0):=by
 unfold f37
 have e1:=Vj (n:=n) (c:=1) (by omega) hn
 have e1:f92 n 1=some (rq ((1:Nat):Rat)):=e1
 have e2:=Vj (n:=n) (c:=2) (by omega) hn
 have e2:f92 n 2=some (rq ((2:Nat):Rat)):=e2
 rw [show decide ((1:Int) < -1000000000)=false from rfl,show decide ((1:Int)>1000000000)=false from rfl,show decide ((2:Int) < -1000000000)=false from rfl,show decide ((2:Int)>1000000000)=false from rfl,QV,QV,QV,QV,show ((2:Int)==0)=false from rfl,QV,e1,A1,e2,A1,Ac9 (L:=1) (Ir (by omega)) (Ir (by omega)) (by decide) (by omega) (by omega),A1]
 rfl

theorem Ue {α:Type} {n:Nat} {x:List Rat} (hx:Sv x 1000000) (hl:x.length<=4096) {k0:List Rt->Option α}:∀ (m i:Nat) (o:List Rt),o=vq (x.take i)->i<=x.length->x.length<i+m->Gn n m (vq x) (x.length:Int) (i:Int) o k0=k0 (vq x)
 | 0,i,o,h1,h2,h3=>by omega
 | m+1,i,o,h1,h2,h3=>by
  rw [Aa9];unfold O2;rw [QI];by_cases h:i<x.length
  . rw [QK (by omega)]
    unfold f168
    rw [Co,A3 (by simp;omega),G9 (by omega)]
    dsimp only
    rw [A1,QQ,Azd (hx.get h),A1,A3 (by rw [h1,Co,YX];simp;omega),Ab (by omega) (by omega)]
    exact Ue hx hl m (i+1) _ (by
     rw [h1,List.take_add_one,QJ,QM h]
     simp only [vq,KQ,Option.toList,QS,XV,YG]) (by omega) (by omega)
  . obtain rfl:i=x.length:=by omega
    rw [QH (by omega),h1,YC]

theorem B1s {n:Nat} {x:List Rat} (hx:Sv x 1000000) (hl:x.length<=4096) (hn:1048577<=n):f100 n (vq x)=some (vq x):=by
 unfold f100 A2j;rw [Co]
 have:=Ue (n:=n) hx hl (k0:=λz=>some z) n 0 [] (by simp [vq]) (by omega) (by omega)
 have this:Gn n n (vq x) (x.length:Int) 0 [] (λz_3=>some z_3)=_:=this;rw [this,A1]

def bv (c0 d0 c1 d1:Int) (x y:Rat):Rat:=c0*((x-d0)*(x-d0))+c1*((y-d1)*(y-d1))

theorem Afk {x u w:Nat->Rat} {c0 d0 c1 d1:Int}:((evs x u w (B4 c0 d0 c1 d1) []).getD 12 (Q4.cst 0)).f=bv c0 d0 c1 d1 (x 0) (x 1):=by
 rw [Tn];show (Q4.add _ _).f=_;simp only [Q4.add,sqd,Zl,jx,Q4.mul,Q4.pow,Q4.cst,Q4.neg,bv];grind

theorem Ats {x u w:Nat->Rat} {c0 d0 c1 d1:Int}:((evs x u w (B4 c0 d0 c1 d1) []).getD 12 (Q4.cst 0)).v=2*c0*(x 0-d0)*w 0+2*c1*(x 1-d1)*w 1:=by
 rw [Tn];show (Q4.add _ _).v=_;simp only [Q4.add,sqd,Zl,jx,Q4.mul,Q4.pow,Q4.cst,Q4.neg];grind

theorem B5l {x u w:Nat->Rat} {c0 d0 c1 d1:Int}:((evs x u w (B4 c0 d0 c1 d1) []).getD 12 (Q4.cst 0)).c=2*c0*(u 0*w 0)+2*c1*(u 1*w 1):=by
 rw [Tn];show (Q4.add _ _).c=_;simp only [Q4.add,sqd,Zl,jx,Q4.mul,Q4.pow,Q4.cst,Q4.neg];grind

def Is (P:Int) (s:Pc):Prop:=(∀ x ∈ s.1,0<=x/\x<=255)/\s.1.length<=1048577/\(0<=s.2.1/\s.2.1<=P)/\0<=s.2.2/\s.2.2<2147483648

theorem A1q {n:Nat} {P:Int} {s:Pc} (h:Is P s) (hP:P<=1099511627776):∃ b s',Lu n s=some (b,s')/\(0<=b/\b<=255)/\Is (P+1) s':=by
 obtain ⟨l,p,d⟩:=s;obtain ⟨h1,h2,⟨h3,h4⟩,h5,h6⟩:=h;dsimp only at h1 h2 h3 h4 h5 h6;unfold Lu;dsimp only
 rw [Ab (x:=p+1) (by omega) (by omega),Ab (x:=p+1-1) (by omega) (by omega),QI]
 have hb:=Afi h1 (p+1-1).toNat;by_cases hc:p+1<=(l.length:Int)
 . rw [QK hc,A3 (by simp;omega),A3 (by simp;omega)]
   generalize l.getD (p+1-1).toNat 0=b at *
   rw [Ab (x:=b) (by omega) (by omega),Ab (x:=d*31) (by omega) (by omega),Ab (x:=d*31+b) (by omega) (by omega),Ab (x:=d*31+b+7) (by omega) (by omega),Fa (by omega)]
   exact ⟨_,_,rfl,by omega,h1,h2,by dsimp only;omega,by dsimp only;omega,by dsimp only;omega⟩
 . rw [QH hc,QI];by_cases hc2:p+1>3000
   . rw [QK hc2]
     exact ⟨_,_,rfl,by omega,h1,h2,by dsimp only;omega,h5,h6⟩
   . rw [QH hc2,Ab (x:=d*1103515245) (by omega) (by omega),Ab (x:=d*1103515245+12345) (by omega) (by omega),Fa (x:=d*1103515245+12345) (by omega)]
     generalize hz:(d*1103515245+12345) % 2147483648=z
     have hz2:0<=z/\z<2147483648:=by omega
     rw [YJ (a:=z) (by omega),Ab (x:=z / 65536) (by omega) (by omega),Fa (x:=z / 65536) (by omega)]
     exact ⟨_,_,rfl,by omega,h1,h2,by dsimp only;omega,by dsimp only;omega,by dsimp only;omega⟩

theorem Aey {n:Nat} {P k:Int} {s:Pc} (h:Is P s) (hP:P<=1099511627000) (hk:1<k) (hk':k<=1048576):∃ v s',K3 n s k=some (v,s')/\(0<=v/\v<k)/\Is (P+3) s':=by
 unfold K3
 rw [QI,QH (by omega),QI]
 obtain ⟨b1,s1,e1,r1,o1⟩:=A1q (n:=n) h (by omega)
 rw [e1];by_cases hc:k<=256
 . rw [QK hc,A1,A3 (by simp;omega),Fa r1.1]
   have:=Qav b1 (show k ≠ 0 by omega)
   have:=JZ b1 (show 0<k by omega)
   exact ⟨_,_,rfl,by omega,o1.1,o1.2.1,⟨o1.2.2.1.1,by have:=o1.2.2.1.2;show s1.2.1<=P+3;omega⟩,o1.2.2.2⟩
 . rw [QH hc,A1]
   obtain ⟨b2,s2,e2,r2,o2⟩:=A1q (n:=n) o1 (by omega)
   rw [e2,A1]
   obtain ⟨b3,s3,e3,r3,o3⟩:=A1q (n:=n) o2 (by omega)
   rw [e3,A1];dsimp only
   rw [A3 (by simp;omega),Ab (x:=b1*65536) (by omega) (by omega),Ab (x:=b2*256) (by omega) (by omega),Ab (x:=b1*65536+b2*256) (by omega) (by omega),Ab (x:=b1*65536+b2*256+b3) (by omega) (by omega),Fa (by omega)]
   have:=Qav (b1*65536+b2*256+b3) (show k ≠ 0 by omega)
   have:=JZ (b1*65536+b2*256+b3) (show 0<k by omega)
   exact ⟨_,_,rfl,by omega,o3.1,o3.2.1,⟨o3.2.2.1.1,by have:=o3.2.2.1.2;show s3.2.1<=P+3;omega⟩,o3.2.2.2⟩

theorem Awt {n:Nat} {P:Int} {s:Pc} (h:Is P s) (hP:P<=1099511620000) (hn:1048577<=n):∃ (x:Rat) (s':Pc),Oz n s=some (rq x,s')/\Bq x 10 9/\Is (P+6) s':=by
 unfold Oz
 obtain ⟨a,s1,e1,r1,o1⟩:=Aey (n:=n) (k:=21) h (by omega) (by omega) (by omega)
 rw [e1,A1]
 obtain ⟨b,s2,e2,r2,o2⟩:=Aey (n:=n) (k:=6) o1 (by omega) (by omega) (by omega)
 rw [e2,A1];dsimp only
 rw [Ab (x:=a-10) (by omega) (by omega),Ab (x:=1+b) (by omega) (by omega)]
 obtain ⟨x,e3,z⟩:=Aji (n:=n) (a:=a-10) (b:=1+b) (by omega) (by omega) hn
 rw [e3,A1]
 exact ⟨x,s2,rfl,z,o2.1,o2.2.1,⟨o2.2.2.1.1,by have:=o2.2.2.1.2;show s2.2.1<=P+6;omega⟩,o2.2.2.2⟩

theorem B5x {l:List Int} (h:∀ x ∈ l,0<=x/\x<=255) (hl:l.length<=1048577):Is 0 (l,0,Int.tmod (l.length:Int) 1000) :=
 ⟨h,hl,⟨Int.le_refl _,Int.le_refl _⟩,by rw [Fa (by omega)];dsimp only;omega,by rw [Fa (by omega)];dsimp only;omega⟩

theorem A8l {α:Type} {n k:Nat} (hk:k<=1000) (hn:1048577<=n) {k0:List Rt->List Int->Int->Int->Option α}:∀ (m i:Nat) (P:Int) (o:List Rat) (s:Pc),Is P s->P+6*(k-i:Nat)<=1099511620000->o.length=i->i<=k->k<i+m->Bv o 10 9 ->
  ∃ (x:List Rat) (s':Pc),x.length=k/\Bv x 10 9/\Is (P+6*(k-i:Nat)) s'/\Ja n m (k:Int) (i:Int) (vq o) s.1 s.2.1 s.2.2 k0=k0 (vq x) s'.1 s'.2.1 s'.2.2
 | 0,i,P,o,s,h1,h2,h3,h4,h5,h6=>by omega
 | m+1,i,P,o,s,h1,h2,h3,h4,h5,h6=>by
  rw [A8n];unfold Rn;rw [QI];by_cases h:i<k
  . rw [QK (by omega)]
    obtain ⟨a,s1,e1,r1,o1⟩:=Awt (n:=n) h1 (by omega) hn
    have e1:Oz n (s.1,s.2.1,s.2.2)=_:=e1
    rw [e1,A1,A3 (by simp;omega),Ab (x:=(i:Int)+1) (by omega) (by omega)]
    dsimp only
    obtain ⟨x,s',q1,q2,q3,q4⟩:=A8l hk hn (k0:=k0) m (i+1) (P+6) (o++[a]) s1 o1 (by omega) (by simp;omega) (by omega) (by omega) (λc hc=>by
     rcases QD.1 hc with hc | hc
     . exact h6 c hc
     . rw [QO.1 hc];exact r1)
    refine ⟨x,s',q1,q2,?_,?_⟩
    . rw [show P+6*((k-i:Nat):Int)=P+6+6*((k-(i+1):Nat):Int) by omega];exact q3
    . rw [<- q4];simp [vq]
  . rw [QH (by omega)]
    exact ⟨o,s,by omega,h6,by rw [show ((k-i:Nat):Int)=0 by omega];simpa using h1,rfl⟩

theorem B1k {n k:Nat} {l:List Int} (h:∀ x ∈ l,0<=x/\x<=255) (hl:l.length<=1048577) (hk:k<=1000) (hn:1048577<=n):∃ x:List Rat,f12 n l (k:Int)=some (vq x)/\x.length=k/\Bv x 10 9:=by
 unfold f12 A6r;rw [A1];unfold Al7
 obtain ⟨x,s',q1,q2,_,q4⟩:=A8l (k:=k) hk hn (k0:=λz_2 z_3 z_4 z_5=>some (z_2,(z_3,z_4,z_5))) n 0 0 [] _ (B5x h hl) (by omega) rfl (by omega) (by omega) (λc hc=>by simp at hc)
 have q4:Ja n n (k:Int) 0 [] _ _ _ _=_:=q4;rw [q4,A1];exact ⟨x,rfl,q1,q2⟩

theorem Ak0 {c0 d0 c1 d1:Int} (hb:Fh c0 d0 c1 d1) {X:List Rat} (hX:Sv X 40) (h2:X.length=2):A2u (B4 c0 d0 c1 d1) (vq X)=0:=by
 unfold A2u
 rw [QH (by rw [Co];omega),QK ⟨A9s hb,A32 hX (by omega) (by omega)⟩,Afl,QH (by rw [Co];omega)]

theorem Abb {c0 d0 c1 d1:Int} (hb:Fh c0 d0 c1 d1) {X V:List Rat} (hX:Sv X 40) (h2:X.length=2) (hV:Sv V 40) (g2:V.length=2):Aag (B4 c0 d0 c1 d1) (vq X) (vq V)=0:=by
 unfold Aag
 rw [QH (by rw [Co,Co];omega),Ak0 hb hX h2,QH (by simp)]
 unfold Ak9
 rw [QK (A32 hV (by omega) (by omega)),QK (by rw [Co,Co];omega)]

theorem A7q {c0 d0 c1 d1:Int} (hb:Fh c0 d0 c1 d1) {X:List Rat} (h2:X.length=2):Pm (B4 c0 d0 c1 d1) X.length :=
 B23 (Wr.1 (A9s hb)) (by rw [Afl];omega)

theorem Mm {X:List Rat} {N D:Nat} (h:Bv X N D) (hD:1<=D) (k:Nat):Bq (Al X k) N D:=by
 unfold Al;rcases ZZ k X.length with h1 | h1
 . exact h.get h1
 . rw [QJ,KH h1]
   exact ⟨by simp,hD⟩

theorem Ana {c0 d0 c1 d1:Int} (hb:Fh c0 d0 c1 d1) {x:Nat->Rat} (hx:∀ k,Bq (x k) 180 81):Bq (bv c0 d0 c1 d1 (x 0) (x 1)) (6*(7342280241115644608*7342280241115644608*7342280241115644608)) (6*(7342280241115644608*7342280241115644608*7342280241115644608)):=by
 have:=(Rd (x:=x) (u:=Ay 0 0) (w:=λ_=>0) hb (A3v hx λ_=>⟨by simp,by decide⟩) 12).sizes.1
 rw [Afk] at this;exact this

def slv (c0 d0 c1 d1:Int) (x y p q:Rat):Rat:=2*c0*(x-d0)*p+2*c1*(y-d1)*q

theorem Anw {c0 d0 c1 d1:Int} (hb:Fh c0 d0 c1 d1) {x w:Nat->Rat} (hx:∀ k,Bq (x k) 180 81) (hw:∀ k,Bq (w k) 10 9):Bq (slv c0 d0 c1 d1 (x 0) (x 1) (w 0) (w 1)) (6*(7342280241115644608*7342280241115644608*7342280241115644608)) (6*(7342280241115644608*7342280241115644608*7342280241115644608)):=by
 have:=(Rd (x:=x) (u:=Ay 0 0) (w:=w) hb (A3v hx hw) 12).sizes.2.2.1;rw [Ats] at this;exact this

theorem Avt {n:Nat} {c0 d0 c1 d1:Int} (hb:Fh c0 d0 c1 d1) {X:List Rat} (h2:X.length=2) (hX:Bv X 180 81) (hn:68719476736<=n):f39 n (B4 c0 d0 c1 d1) (vq X)=some (rq (bv c0 d0 c1 d1 (Al X 0) (Al X 1)),0):=by
 have sX:Sv X 40:=hX.sz (by decide) (by decide)
 have hx:=Mm hX (by decide)
 have hj:=B2q (n:=n) (A:=0) (X:=X) (V:=X) (e:=B4 c0 d0 c1 d1) (A7q hb h2) (by simp [B4]) (by simp [B4]) rfl (by omega) hn
 rw [B7a hb hx] at hj;have hj:f96 n (0,()) (B4 c0 d0 c1 d1) (vq X)=some (Ai 0 (λi=>(evs (Al X) (Ay 0 i) (λ_=>0) (B4 c0 d0 c1 d1) []).getD 12 (Q4.cst 0)),0):=hj
 have hs:=(Ana hb hx).sz (L:=40) (by decide) (by decide)
 unfold f39
 rw [Aic (by simp [B4]) (by omega),A1,Ak0 hb sX h2,show ((0:Int) != 0)=false from rfl,QV,hj,A1]
 dsimp only;rw [show ((0:Int) != 0)=false from rfl,QV];show (ob (f97 n (rq ((evs (Al X) (Ay 0 0) (λ_=>0) (B4 c0 d0 c1 d1) []).getD 12 (Q4.cst 0)).f)) λr_3=>some (r_3,0))=_
 rw [Afk,A69 hs (by omega),A1]

theorem Avs {n:Nat} {c0 d0 c1 d1:Int} (hb:Fh c0 d0 c1 d1) {X V:List Rat} (h2:X.length=2) (hX:Bv X 180 81) (g2:V.length=2) (hV:Bv V 10 9) (hn:68719476736<=n):f40 n (B4 c0 d0 c1 d1) (vq X) (vq V)=some (rq (bv c0 d0 c1 d1 (Al X 0) (Al X 1)),rq (slv c0 d0 c1 d1 (Al X 0) (Al X 1) (Al V 0) (Al V 1)),0):=by
 have sX:Sv X 40:=hX.sz (by decide) (by decide)
 have sV:Sv V 40:=hV.sz (by decide) (by decide)
 have hx:=Mm hX (by decide)
 have hv:=Mm hV (by decide)
 have hj:=Ap1 (n:=n) (A:=0) (X:=X) (V:=V) (e:=B4 c0 d0 c1 d1) (A7q hb h2) (by simp [B4]) (by simp [B4]) (by omega) (by omega) (by omega) hn
 rw [Ayd hb hx hv] at hj;have hj:Vh n (0,vq V) (B4 c0 d0 c1 d1) (vq X)=some (Ag 0 (λi=>(evs (Al X) (Ay 0 i) (Al V) (B4 c0 d0 c1 d1) []).getD 12 (Q4.cst 0)),0):=hj
 have hs:=(Ana hb hx).sz (L:=40) (by decide) (by decide)
 have ht:=(Anw hb hx hv).sz (L:=40) (by decide) (by decide)
 unfold f40
 rw [A39 (by simp [B4]) (by omega),Abb hb sX h2 sV g2,show ((0:Int) != 0)=false from rfl,QV,hj,A1]
 dsimp only;rw [show ((0:Int) != 0)=false from rfl,QV];show (ob (f97 n (rq ((evs (Al X) (Ay 0 0) (Al V) (B4 c0 d0 c1 d1) []).getD 12 (Q4.cst 0)).f)) λr_6=>ob (f97 n (rq ((evs (Al X) (Ay 0 0) (Al V) (B4 c0 d0 c1 d1) []).getD 12 (Q4.cst 0)).v)) λr_7=>some (r_6,r_7,0))=_
 rw [Afk,Ats,A69 hs (by omega),A1]
 show (ob (f97 n (rq (slv c0 d0 c1 d1 (Al X 0) (Al X 1) (Al V 0) (Al V 1)))) λr_7=>some (_,r_7,0))=_
 rw [A69 ht (by omega),A1]

def crv (c0 c1:Int) (p q:Rat):List Rat:=[2*c0*p,2*c1*q]

theorem Atf {c0 d0 c1 d1:Int} (hb:Fh c0 d0 c1 d1) {p q:Rat} (hp:Bq p 10 9) (hq:Bq q 10 9):Bv (crv c0 c1 p q) 60 9:=by
 have b0:=hb.c0;have b1:=hb.c1
 have two:Bq 2 2 1:=⟨by decide,by decide⟩
 have k:∀ {c:Int},1<=c/\c<=3->∀ {p:Rat},Bq p 10 9->Bq (2*c*p) 60 9:=λ{c} hc {p} hp=>Xb (Xb two (B5t (N:=3) (by omega))) hp
 intro a ha;simp only [crv,QT,XQ,or_false] at ha;rcases ha with rfl | rfl
 . exact k b0 hp
 . exact k b1 hq

theorem Avq {n:Nat} {c0 d0 c1 d1:Int} (hb:Fh c0 d0 c1 d1) {X V:List Rat} (h2:X.length=2) (hX:Bv X 180 81) (g2:V.length=2) (hV:Bv V 10 9) (hn:68719476736<=n):f41 n (B4 c0 d0 c1 d1) (vq X) (vq V)=some (vq (crv c0 c1 (Al V 0) (Al V 1)),0):=by
 have sX:Sv X 40:=hX.sz (by decide) (by decide)
 have sV:Sv V 40:=hV.sz (by decide) (by decide)
 have hx:=Mm hX (by decide)
 have hv:=Mm hV (by decide)
 have hj:=Ap1 (n:=n) (A:=2) (X:=X) (V:=V) (e:=B4 c0 d0 c1 d1) (A7q hb h2) (by simp [B4]) (by simp [B4]) (by omega) (by omega) (by omega) hn
 rw [Ayd hb hx hv] at hj;have hj:Vh n (2,vq V) (B4 c0 d0 c1 d1) (vq X)=some (Ag 2 (λi=>(evs (Al X) (Ay 2 i) (Al V) (B4 c0 d0 c1 d1) []).getD 12 (Q4.cst 0)),0):=hj
 have hr:rA 2 (λi=>((evs (Al X) (Ay 2 i) (Al V) (B4 c0 d0 c1 d1) []).getD 12 (Q4.cst 0)).c)=vq (crv c0 c1 (Al V 0) (Al V 1)):=by
  rw [Fj (h:=λi=>2*c0*(Ay 2 i 0*Al V 0)+2*c1*(Ay 2 i 1*Al V 1)) λi _=>B5l]
  have e0:(2*(c0:Rat)*(Ay 2 0 0*Al V 0)+2*c1*(Ay 2 0 1*Al V 1))=2*c0*Al V 0:=by
   rw [show Ay 2 0 0=1 from rfl,show Ay 2 0 1=0 from rfl];grind
  have e1:(2*(c0:Rat)*(Ay 2 1 0*Al V 0)+2*c1*(Ay 2 1 1*Al V 1))=2*c1*Al V 1:=by
   rw [show Ay 2 1 0=0 from rfl,show Ay 2 1 1=1 from rfl];grind
  show [rq _,rq _]=[rq _,rq _];dsimp only;rw [e0,e1]
 unfold f41
 rw [A39 (by simp [B4]) (by omega),Abb hb sX h2 sV g2,show ((0:Int) != 0)=false from rfl,QV,Co,h2]
 have hj:Vh n (((2:Nat):Int),vq V) (B4 c0 d0 c1 d1) (vq X)=_:=hj;rw [hj,A1];dsimp only;rw [show ((0:Int) != 0)=false from rfl,QV];show (ob (f100 n (rA 2 λi=>((evs (Al X) (Ay 2 i) (Al V) (B4 c0 d0 c1 d1) []).getD 12 (Q4.cst 0)).c)) λr_6=>some (r_6,0))=_
 rw [hr,B1s (((Atf hb (hv 0) (hv 1)).sz (L:=40) (by decide) (by decide)).mono (by omega)) (by simp [crv]) (by omega),A1]

theorem B6c {n:Nat} {a b:List Int} (ha:∀ x ∈ a,0<=x/\x<=255) (hb:∀ x ∈ b,0<=x/\x<=255) (hn:68719476736<=n):f9 n a b=some true:=by
 unfold f9;rw [QI];by_cases la:a.length<=1048576
 . rw [QH (by omega),QI]
   by_cases lb:b.length<=1048576
   . rw [QH (by omega)]
     obtain ⟨c0,d0,c1,d1,e1,hB⟩:=B3q (n:=n) ha la (by omega)
     obtain ⟨X,e2,h2,hX⟩:=B58 (n:=n) (k:=2) hb lb (by omega) (by omega)
     have hb5:∀ x ∈ [5]++b,(0:Int)<=x/\x<=255:=λx hx=>by
      rcases QD.1 hx with h | h
      . rw [QO.1 h];omega
      . exact hb x h
     obtain ⟨V,e3,g2,hV⟩:=B1k (n:=n) (k:=2) hb5 (by simp;omega) (by omega) (by omega)
     have e2:f12 n b 2=_:=e2;have e3:f12 n ([5]++b) 2=_:=e3
     have e4:f37 n 1 1=_:=B3o (n:=n) (c:=1) (by omega) (by omega)
     have hX2:Bv X 180 81:=λy hy=>(hX y hy).mono (by omega) (by omega)
     have one:Bq ((1:Nat):Rat) 1 1:=⟨by decide,by decide⟩
     have hM:Bv (Lh ((1:Nat):Rat) V X) 180 81:=by
      have:=Au7 one hV hX
      exact λy hy=>(this y hy).mono (by omega) (by omega)
     have sX:Sv X 40:=hX.sz (by decide) (by decide)
     have sV:Sv V 40:=hV.sz (by decide) (by decide)
     have lM:(Lh ((1:Nat):Rat) V X).length=2:=by rw [B20 (by omega)];exact g2
     have e6:=B3m (n:=n) (Ir (c:=1) (by omega) |>.mono (by omega)) sV sX (by omega) (by omega) (by omega) (hM.sz (by decide) (by decide)) (by omega)
     have e7:=Avt (n:=n) hB lM hM hn;have e8:=Avs (n:=n) hB h2 hX2 g2 hV hn;have e9:=Avq (n:=n) hB h2 hX2 g2 hV hn
     have bx:=Mm hX2 (by decide)
     have bv':=Mm hV (by decide)
     have hC:=Atf hB (bv' 0) (bv' 1)
     have sC:Sv (crv c0 c1 (Al V 0) (Al V 1)) 40:=hC.sz (by decide) (by decide)
     have hD:=B28 hV hC (by decide) (by omega)
     have e10:=B1q (n:=n) sV sC (by omega) (by omega) (by rw [g2];rfl) (hD.sz (by decide) (by decide)) (by omega)
     have half:Bq (1 / 2) 1 2:=⟨by decide +kernel,by decide +kernel⟩
     have hE:=Xb half hD
     have e11:=B3e (n:=n) (half.sz (by decide) (by decide)) (hD.sz (by decide) (by decide)) (hE.sz (by decide) (by decide)) (by omega)
     have hF:=Ana hB bx;have hG:=Anw hB bx bv';have hH:=A5s hF hG
     have e12:=Apz (n:=n) (hF.sz (by decide) (by decide)) (hG.sz (by decide) (by decide)) (hH.sz (by decide) (by decide)) (by omega)
     have hI:=A5s hH hE
     have e13:=Apz (n:=n) (hH.sz (by decide) (by decide)) (hE.sz (by decide) (by decide)) (hI.sz (by decide) (by decide)) (by omega)
     have e14:=B3c (n:=n) (x:=bv c0 d0 c1 d1 (Al X 0) (Al X 1)+slv c0 d0 c1 d1 (Al X 0) (Al X 1) (Al V 0) (Al V 1)+1 / 2*Bg 0 V (crv c0 c1 (Al V 0) (Al V 1))) (y:=bv c0 d0 c1 d1 (Al (Lh ((1:Nat):Rat) V X) 0) (Al (Lh ((1:Nat):Rat) V X) 1)) ((hI.sz (L:=40) (by decide) (by decide)).mono (by omega)) (by omega)
     rw [e1,A1,e2,A1,A3 (by simp;omega),e3,A1,e4,A1,Avv (by omega),A1]
     dsimp only;rw [e6,A1,e7,A1,e8,A1,e9,A1];dsimp only;unfold f42;rw [e10,A1,A1];dsimp only;rw [e11,A1,e12,A1];dsimp only;rw [e13,A1];dsimp only;rw [show ((0:Int)==0)=true from rfl];simp only [ZS];rw [e14,A1,ZA ?_]
     match X,V,h2,g2 with
     | [x,y],[p,q],_,_ =>
      show bv c0 d0 c1 d1 x y+slv c0 d0 c1 d1 x y p q+1 / 2*(0+p*(2*c0*p)+q*(2*c1*q))=bv c0 d0 c1 d1 (((1:Nat):Rat)*p+x) (((1:Nat):Rat)*q+y);rw [show ((1:Nat):Rat)=1 from rfl];unfold bv slv;grind
   . rw [QK (by omega)]
 . rw [QK (by omega)]

end Go.Ev
