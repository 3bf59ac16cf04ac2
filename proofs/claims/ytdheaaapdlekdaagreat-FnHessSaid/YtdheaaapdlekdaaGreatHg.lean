/- DERIVED. The plain laws: what the models compute. -/
import Derived.Test.YtdheaaapdlekdaaGreatHd

set_option linter.all false
set_option linter.unusedVariables false
set_option linter.unusedSimpArgs false

namespace Go.Ev
open Go

theorem B2f (x:Nat->Rat) (u:Nat->Rat) (w0 w1 w2 w:Nat->Rat) (a b d:Rat) (hw:∀ n,w n=a*w0 n+b*w1 n+d*w2 n) (ns:List Nd) (k:Nat) :
  ((evs x u w ns []).getD k (Q4.cst 0)).v=a*((evs x u w0 ns []).getD k (Q4.cst 0)).v+b*((evs x u w1 ns []).getD k (Q4.cst 0)).v+d*((evs x u w2 ns []).getD k (Q4.cst 0)).v /\
  ((evs x u w ns []).getD k (Q4.cst 0)).c=a*((evs x u w0 ns []).getD k (Q4.cst 0)).c+b*((evs x u w1 ns []).getD k (Q4.cst 0)).c+d*((evs x u w2 ns []).getD k (Q4.cst 0)).c:=by
 have h:Ep x (λ_:Nat=>u) (λi:Nat=>if i=0 then w0 else if i=1 then w1 else if i=2 then w2 else w)
   (λp=>((p 0).f=(p 3).f/\(p 1).f=(p 3).f/\(p 2).f=(p 3).f)/\((p 0).a=(p 3).a/\(p 1).a=(p 3).a/\(p 2).a=(p 3).a)/\(p 3).v=a*(p 0).v+b*(p 1).v+d*(p 2).v/\(p 3).c=a*(p 0).c+b*(p 1).c+d*(p 2).c):=by
  refine ⟨λ_=>⟨⟨rfl,rfl,rfl⟩,⟨rfl,rfl,rfl⟩,?_,?_⟩,λn=>⟨⟨rfl,rfl,rfl⟩,⟨rfl,rfl,rfl⟩,?_,?_⟩,?_,?_,?_,?_⟩
  . simp only [Q4.cst];grind
  . simp only [Q4.cst];grind
  . simpa using hw n
  . grind
  . rintro p q ⟨⟨h1,h2,h3⟩,⟨h4,h5,h6⟩,h7,h8⟩ ⟨⟨g1,g2,g3⟩,⟨g4,g5,g6⟩,g7,g8⟩
    simp only [Q4.add,h1,h2,h3,h4,h5,h6,h7,h8,g1,g2,g3,g4,g5,g6,g7,g8,JE,JS]
    exact ⟨by grind,by grind⟩
  . rintro p ⟨⟨h1,h2,h3⟩,⟨h4,h5,h6⟩,h7,h8⟩
    simp only [Q4.neg,h1,h2,h3,h4,h5,h6,h7,h8,JE,JS]
    exact ⟨by grind,by grind⟩
  . rintro p q ⟨⟨h1,h2,h3⟩,⟨h4,h5,h6⟩,h7,h8⟩ ⟨⟨g1,g2,g3⟩,⟨g4,g5,g6⟩,g7,g8⟩
    simp only [Q4.mul,h1,h2,h3,h4,h5,h6,h7,h8,g1,g2,g3,g4,g5,g6,g7,g8,JE,JS]
    exact ⟨by grind,by grind⟩
  . rintro p ⟨⟨h1,h2,h3⟩,⟨h4,h5,h6⟩,h7,h8⟩
    simp only [Q4.inv,h1,h2,h3,h4,h5,h6,h7,h8,JE,JS];generalize 1 / (p 3).f=r
    exact ⟨by grind,by grind⟩
 have:=h.run ns k;exact this.2.2

def Eo (l:List Q4) (n:Nd):Prop:=n.1=6/\(l.getD n.2.2.1.toNat (Q4.cst 0)).f=0

instance (l:List Q4) (n:Nd):Decidable (Eo l n):=by unfold Eo;infer_instance

def Vu (fit:Q4->Bool) (x u w:Nat->Rat):List Nd->List Q4->List Q4 ⊕ Int
 | [],l=>.inl l
 | n::r,l=>if Eo l n then .inr 10 else if fit (Ay x u w l n)=true then Vu fit x u w r (l++[Ay x u w l n]) else .inr 7

theorem Aa6 {fit:Q4->Bool} {x u w:Nat->Rat}:∀ (ns:List Nd) (l l':List Q4),(∀ k,k<l.length->fit (l.getD k (Q4.cst 0))=true)->Vu fit x u w ns l = .inl l'->(∀ k,k<l'.length->fit (l'.getD k (Q4.cst 0))=true)/\l'=evs x u w ns l
 | [],l,l',h,e=>by obtain rfl:=Sum.inl.inj e;exact ⟨h,rfl⟩
 | n::r,l,l',h,e=>by
  simp only [Vu] at e;by_cases hb:Eo l n
  . rw [QJ hb] at e;cases e
  . rw [QH hb] at e;by_cases hf:fit (Ay x u w l n)=true
    . rw [QJ hf] at e;refine Aa6 r _ l' (λk hk=>?_) e;simp only [ZI,ZF,XI] at hk;rcases ZV k l.length with h1 | h1
      . rw [QL,ZB h1,<- QL];exact h k h1
      . obtain rfl:k=l.length:=by omega
        rw [QL,ZC (QZ _)];simpa using hf
    . rw [QH hf] at e;cases e

structure Pt where
 a:Rat
 b:Rat
 da:Rat
 db:Rat

def Lr (f d:Nat->Rat) (n:Nd):Pt :=
 let A:=n.2.1.toNat;let B:=n.2.2.1.toNat
 if n.1=3 then ⟨1,1,0,0⟩
 else if n.1=4 then ⟨1,-1,0,0⟩
 else if n.1=5 then ⟨f B,f A,d B,d A⟩
 else if n.1=6 then ⟨1 / f B,-(f A*(1 / f B*(1 / f B))),-(d B*(1 / f B*(1 / f B))),-(d A*(1 / f B*(1 / f B)))+2*(f A*d B*(1 / f B*(1 / f B)*(1 / f B)))⟩
 else if n.1=7 then ⟨-1,0,0,0⟩
 else if n.1=8 then ⟨Q4.d1 (f A) n.2.2.2.toNat,0,Q4.d2 (f A) n.2.2.2.toNat*d A,0⟩
 else ⟨0,0,0,0⟩

def B6b (n:Nd):Bool:=decide (n.1=3) || decide (n.1=4) || decide (n.1=5) || decide (n.1=6)

def Bcu (n:Nd):Bool:=decide (n.1=7) || decide (n.1=8)

def Bdh (n:Nd) (k:Nat):Prop:=(1<=n.1/\n.1<=8)/\(B6b n=true \/ Bcu n=true->n.2.1.toNat<k)/\(B6b n=true->n.2.2.1.toNat<k)

def Aes (x u w:Nat->Rat) (Q:Nat->Q4) (n:Nd):Q4 :=
 if n.1=1 then Q4.cst (n.2.2.2:Rat)
 else if n.1=2 then ⟨x n.2.2.2.toNat,u n.2.2.2.toNat,w n.2.2.2.toNat,0⟩
 else if n.1=3 then Q4.add (Q n.2.1.toNat) (Q n.2.2.1.toNat)
 else if n.1=4 then Q4.add (Q n.2.1.toNat) (Q4.neg (Q n.2.2.1.toNat))
 else if n.1=5 then Q4.mul (Q n.2.1.toNat) (Q n.2.2.1.toNat)
 else if n.1=6 then Q4.mul (Q n.2.1.toNat) (Q4.inv (Q n.2.2.1.toNat))
 else if n.1=7 then Q4.neg (Q n.2.1.toNat)
 else Q4.pow (Q n.2.1.toNat) n.2.2.2.toNat

theorem B2k (x u w:Nat->Rat) (l:List Q4) (n:Nd):Ay x u w l n=Aes x u w (λk=>l.getD k (Q4.cst 0)) n:=rfl

theorem B2l (x u w:Nat->Rat) (Q:Nat->Q4) (n:Nd) (hn:1<=n.1/\n.1<=8) (h2:n.1 ≠ 2) :
  (Aes x u w Q n).a=(Lr (λk=>(Q k).f) (λk=>(Q k).v) n).a*(Q n.2.1.toNat).a+(Lr (λk=>(Q k).f) (λk=>(Q k).v) n).b*(Q n.2.2.1.toNat).a /\
  (Aes x u w Q n).v=(Lr (λk=>(Q k).f) (λk=>(Q k).v) n).a*(Q n.2.1.toNat).v+(Lr (λk=>(Q k).f) (λk=>(Q k).v) n).b*(Q n.2.2.1.toNat).v /\
  (Aes x u w Q n).c=((Lr (λk=>(Q k).f) (λk=>(Q k).v) n).a*(Q n.2.1.toNat).c+(Lr (λk=>(Q k).f) (λk=>(Q k).v) n).da*(Q n.2.1.toNat).a)+((Lr (λk=>(Q k).f) (λk=>(Q k).v) n).b*(Q n.2.2.1.toNat).c+(Lr (λk=>(Q k).f) (λk=>(Q k).v) n).db*(Q n.2.2.1.toNat).a):=by
 unfold Lr Aes;dsimp only;generalize Q n.2.1.toNat=P;generalize Q n.2.2.1.toNat=Q
 obtain h | h | h | h | h | h | h:n.1=1 \/ n.1=3 \/ n.1=4 \/ n.1=5 \/ n.1=6 \/ n.1=7 \/ n.1=8:=by omega
 all_goals simp only [h,if_true]
 . simp only [show ¬ ((1:Int)=3) by decide,show ¬ ((1:Int)=4) by decide,show ¬ ((1:Int)=5) by decide,show ¬ ((1:Int)=6) by decide,show ¬ ((1:Int)=7) by decide,show ¬ ((1:Int)=8) by decide,if_false,Q4.cst]
   refine ⟨?_,?_,?_⟩ <;> grind
 . simp only [show ¬ ((3:Int)=1) by decide,show ¬ ((3:Int)=2) by decide,if_false,Q4.add]
   refine ⟨?_,?_,?_⟩ <;> grind
 . simp only [show ¬ ((4:Int)=1) by decide,show ¬ ((4:Int)=2) by decide,show ¬ ((4:Int)=3) by decide,if_false,Q4.add,Q4.neg]
   refine ⟨?_,?_,?_⟩ <;> grind
 . simp only [show ¬ ((5:Int)=1) by decide,show ¬ ((5:Int)=2) by decide,show ¬ ((5:Int)=3) by decide,show ¬ ((5:Int)=4) by decide,if_false,Q4.mul]
   refine ⟨?_,?_,?_⟩ <;> grind
 . simp only [show ¬ ((6:Int)=1) by decide,show ¬ ((6:Int)=2) by decide,show ¬ ((6:Int)=3) by decide,show ¬ ((6:Int)=4) by decide,show ¬ ((6:Int)=5) by decide,if_false,Q4.mul,Q4.inv]
   generalize 1 / Q.f=r;refine ⟨?_,?_,?_⟩ <;> grind
 . simp only [show ¬ ((7:Int)=1) by decide,show ¬ ((7:Int)=2) by decide,show ¬ ((7:Int)=3) by decide,show ¬ ((7:Int)=4) by decide,show ¬ ((7:Int)=5) by decide,show ¬ ((7:Int)=6) by decide,if_false,Q4.neg]
   refine ⟨?_,?_,?_⟩ <;> grind
 . simp only [show ¬ ((8:Int)=1) by decide,show ¬ ((8:Int)=2) by decide,show ¬ ((8:Int)=3) by decide,show ¬ ((8:Int)=4) by decide,show ¬ ((8:Int)=5) by decide,show ¬ ((8:Int)=6) by decide,show ¬ ((8:Int)=7) by decide,if_false,Q4.pow_eq]
   refine ⟨?_,?_,?_⟩ <;> grind

def CD (l:List Rat) (M:Nat):Prop:=∃ D:Nat,0<D/\D<=M /\ ∀ x ∈ l,∃ z:Int,x*(D:Rat)=(z:Rat)/\z.natAbs<=M

theorem CD.mono {l:List Rat} {M N:Nat} (h:CD l M) (hN:M<=N):CD l N:=by
 obtain ⟨D,h1,h2,h3⟩:=h
 exact ⟨D,h1,ZK h2 hN,λx hx=>by obtain ⟨z,q1,q2⟩:=h3 x hx;exact ⟨z,q1,ZK q2 hN⟩⟩

theorem Bau:CD [] 1:=⟨1,by decide,QZ _,λx hx=>by cases hx⟩

theorem Wc (x:Rat):x*(x.den:Rat)=(x.num:Rat):=by
 have:=Sb x
 rwa [KI] at this

theorem CD.step {l:List Rat} {M H:Nat} (h:CD l M) {p q a b x:Rat} (hp:Hb p H) (hq:Hb q H) (ha:a ∈ l \/ a=0) (hb:b ∈ l \/ b=0) (hx:x=p*a+q*b):CD (l++[x]) (2*(H*H*M)):=by
 obtain ⟨D,h1,h2,h3⟩:=h;have pd:=p.den_pos;have qd:=q.den_pos;have hdd:p.den*q.den<=H*H:=ZZ hp.2 hq.2;have e1:p.den*q.den*D<=H*H*M:=ZZ hdd h2
 refine ⟨p.den*q.den*D,YZ (YZ pd qd) h1,by omega,λy hy=>?_⟩
 rcases QD.1 hy with hy | hy
 . obtain ⟨z,q1,q2⟩:=h3 y hy;refine ⟨(p.den*q.den:Nat)*z,?_,?_⟩
   . simp only [Qbi,Qal,KI,<- q1];grind
   . rw [XX,YA];have:=ZZ hdd q2;omega
 . obtain rfl:y=x:=by simpa using hy
   have za:∃ z:Int,a*(D:Rat)=(z:Rat)/\z.natAbs<=M:=by
    rcases ha with ha | rfl
    . exact h3 a ha
    . exact ⟨0,by simp,by simp⟩
   have zb:∃ z:Int,b*(D:Rat)=(z:Rat)/\z.natAbs<=M:=by
    rcases hb with hb | rfl
    . exact h3 b hb
    . exact ⟨0,by simp,by simp⟩
   obtain ⟨u,u1,u2⟩:=za;obtain ⟨v,v1,v2⟩:=zb;refine ⟨p.num*q.den*u+q.num*p.den*v,?_,?_⟩
   . have s1:=Wc p;have s2:=Wc q;simp only [Qbi,Rat.intCast_add,Qal,KI,<- s1,<- s2,<- u1,<- v1,hx];grind
   . have t0:=YJ (p.num*q.den*u) (q.num*p.den*v);have t1:p.num.natAbs*q.den<=H*H:=ZZ hp.1 hq.2;have t2:q.num.natAbs*p.den<=H*H:=ZZ hq.1 hp.2;have t3:=ZZ t1 u2;have t4:=ZZ t2 v2;simp only [XX,YA] at t0;omega

theorem CD.one {l:List Rat} {M H:Nat} (h:CD l M) {x:Rat} (hx:Hb x H) (h1:1<=H):CD (l++[x]) (2*(H*H*M)):=by
 obtain ⟨D,d1,d2,d3⟩:=h;have xd:=x.den_pos;have e0:x.den*D<=H*M:=ZZ hx.2 d2;have e2:H*M*1<=H*M*H:=YB _ h1
 have e3:H*M*H=H*H*M:=by rw [Nat.mul_assoc,KD M H,<- Nat.mul_assoc]
 refine ⟨x.den*D,YZ xd d1,by omega,λy hy=>?_⟩
 rcases QD.1 hy with hy | hy
 . obtain ⟨z,q1,q2⟩:=d3 y hy;refine ⟨(x.den:Nat)*z,?_,?_⟩
   . simp only [Qbi,Qal,KI,<- q1];grind
   . rw [XX,YA];have:=ZZ hx.2 q2;omega
 . obtain rfl:y=x:=by simpa using hy
   refine ⟨y.num*D,?_,?_⟩
   . have s1:=Wc y;simp only [Qbi,Qal,KI,<- s1];grind
   . rw [XX,YA];have:=ZZ hx.1 d2;omega

theorem CD.hb {l:List Rat} {M:Nat} (h:CD l M) {x:Rat} (hx:x ∈ l):Hb x M:=by
 obtain ⟨D,h1,h2,h3⟩:=h;obtain ⟨z,q1,q2⟩:=h3 x hx
 exact S5 (d:=(D:Int)) (z:=z) (by rw [KI];exact q1) (by omega) q2 (by simpa using h2)

theorem Amw {fit:Q4->Bool} {x u w:Nat->Rat}:∀ (ns:List Nd) (l l':List Q4),Vu fit x u w ns l = .inl l'->∀ i,i<ns.length->¬ Eo (evs x u w (ns.take i) l) (ns.getD i (0,0,0,0))
 | [],l,l',e,i,hi=>by simp at hi
 | n::r,l,l',e,i,hi=>by
  simp only [Vu] at e;by_cases hb:Eo l n
  . rw [QJ hb] at e;cases e
  . rw [QH hb] at e;by_cases hf:fit (Ay x u w l n)=true
    . rw [QJ hf] at e
      cases i with
      | zero=>simpa [evs] using hb
      | succ i =>
       have:=Amw r _ l' e i (by simpa using hi)
       simpa [evs] using this
    . rw [QH hf] at e;cases e

theorem Ai7 (x u w:Nat->Rat) (ns:List Nd) {i:Nat} (h:i<ns.length):evs x u w (ns.take (i+1)) []=evs x u w (ns.take i) []++[Ay x u w (evs x u w (ns.take i) []) (ns.getD i (0,0,0,0))]:=by
 rw [JG h,N2];rw [QL,QM h];rfl

theorem Amt (x u w:Nat->Rat) (ns:List Nd) {i k:Nat} (hk:k<i) (hi:i<=ns.length):(evs x u w (ns.take i) []).getD k (Q4.cst 0)=(evs x u w ns []).getD k (Q4.cst 0):=by
 conv=>rhs;rw [<- KX i ns,N2]
 exact (Aa5 x u w (ns.drop i) (evs x u w (ns.take i) []) k (by rw [Gj];simp;omega)).symm

theorem Awv (x u w:Nat->Rat) (ns:List Nd) {i:Nat} (h:i<ns.length):(evs x u w ns []).getD i (Q4.cst 0)=Ay x u w (evs x u w (ns.take i) []) (ns.getD i (0,0,0,0)):=by
 rw [<- Amt x u w ns (Nat.lt_succ_self i) (by omega),Ai7 x u w ns h]
 have hl:(evs x u w (ns.take i) []).length=i:=by rw [Gj];simp;omega
 rw [QL,ZC (by omega),hl];simp

theorem L3 {n L K:Nat} {x y:Rat} (hx:Sz x L) (hy:Sz y K) (hL:L+K<=1000000000) (hn:68719476736<=n):f99 n (rq x) (rq y)=some (rq (x+y)):=Asq (L:=L+K) (hx.mono (by omega)) (hy.mono (by omega)) (by omega) (by omega)

theorem Fb {n L K:Nat} {x y:Rat} (hx:Sz x L) (hy:Sz y K) (hL:L+K<=1000000000) (hn:68719476736<=n):f162 n (rq x) (rq y)=some (rq (x*y)):=Alk (L:=L+K) (hx.mono (by omega)) (hy.mono (by omega)) (by omega) (by omega)

theorem iOv {n L K:Nat} {x y:Rat} (hx:Sz x L) (hy:Sz y K) (h0:y ≠ 0) (hL:L+K<=1000000000) (hn:68719476736<=n):f206 n (rq x) (rq y)=some (rq (x / y)):=B73 (L:=L+K) (hx.mono (by omega)) (hy.mono (by omega)) h0 (by omega) (by omega)

theorem iNg {n L:Nat} {x:Rat} (hx:Sz x L) (hL:L<=1000000000):f158 n (rq x)=some (rq (-x)):=Bb8 hx (by omega)

theorem sPl {n L K:Nat} {x y:Rat} (hx:Sz x L) (hy:Sz y K) (hL:L+K<=1000000000) (hn:68719476736<=n):f138 n (rq x) (rq y)=some (rq (x+y)):=Arl (L:=L+K) (hx.mono (by omega)) (hy.mono (by omega)) (by omega) (by omega)

theorem Kx {n L K:Nat} {x y:Rat} (hx:Sz x L) (hy:Sz y K) (hL:L+K<=1000000000) (hn:68719476736<=n):f140 n (rq x) (rq y)=some (rq (x*y)):=B2a (L:=L+K) (hx.mono (by omega)) (hy.mono (by omega)) (by omega) (by omega)

theorem sOv {n L K:Nat} {x y:Rat} (hx:Sz x L) (hy:Sz y K) (h0:y ≠ 0) (hL:L+K<=1000000000) (hn:68719476736<=n):f142 n (rq x) (rq y)=some (rq (x / y)):=B6g (L:=L+K) (hx.mono (by omega)) (hy.mono (by omega)) h0 (by omega) (by omega)

theorem sLs {n L K:Nat} {x y:Rat} (hx:Sz x L) (hy:Sz y K) (hL:L+K<=1000000000) (hn:68719476736<=n):f139 n (rq x) (rq y)=some (rq (x-y)):=B6h (L:=L+K) (hx.mono (by omega)) (hy.mono (by omega)) (by omega) (by omega)

theorem Z5 {a:Int} (h:a.natAbs<=1000000000):Sz (a:Rat) 3:=by
 unfold Sz;rw [Rat.num_intCast,Rat.den_intCast]
 exact ⟨Cx (by omega),Cx (by omega)⟩

theorem iW {n:Nat} {a:Int} (h:a.natAbs<=1000000000) (hn:68719476736<=n):f97 n a=some (rq (a:Rat)):=by
 unfold f97;rw [QK,Arq];by_cases h0:a<0
 . rw [QJ h0,A8 (by omega) (by omega),show (0-a:Int)=((a.natAbs:Nat):Int) by omega,Rd (by omega) (by omega),A0,show f151 n=some [1] from rfl,A0,QX h0,G3]
 . rw [QH h0]
   conv=>lhs;rw [show a=((a.natAbs:Nat):Int) by omega]
   rw [Rd (by omega) (by omega),A0,show f151 n=some [1] from rfl,A0,QR h0,G3]

theorem iW0 {n:Nat} (hn:68719476736<=n):f97 n 0=some (rq 0):=iW (a:=0) (by omega) hn

theorem iW1 {n:Nat} (hn:68719476736<=n):f97 n 1=some (rq 1):=iW (a:=1) (by omega) hn

theorem iW2 {n:Nat} (hn:68719476736<=n):f97 n 2=some (rq 2):=iW (a:=2) (by omega) hn

theorem iWm {n:Nat} (hn:68719476736<=n):f97 n (-1)=some (rq (-1)):=iW (a:=-1) (by omega) hn

theorem B29 (a:Int) (i:Nat):(!(decide (a ^ i<0)==decide (a<0)))=decide (a ^ (i+1)<0):=by
 rw [Qam];by_cases h0:a=0
 . subst h0
   have:¬ (0:Int) ^ i<0:=by cases i with | zero=>decide | succ i=>rw [Qam,Qao];decide
   rw [Qao,QR this];rfl
 . have hp:a ^ i ≠ 0:=Int.pow_ne_zero h0;generalize a ^ i=p at hp;rcases Int.lt_trichotomy p 0 with ha | ha | ha <;> rcases Int.lt_trichotomy a 0 with hb | hb | hb
   . have:=Int.mul_pos_of_neg_of_neg ha hb
     rw [QX ha,QX hb,QR (by omega)];rfl
   . exact absurd hb h0
   . have:=Int.mul_neg_of_neg_of_pos ha hb
     rw [QX ha,QR (by omega),QX this];rfl
   . exact absurd ha hp
   . exact absurd ha hp
   . exact absurd ha hp
   . have:=Int.mul_neg_of_pos_of_neg ha hb
     rw [QR (show ¬ p<0 by omega),QX hb,QX this];rfl
   . exact absurd hb h0
   . have:=Int.mul_pos ha hb
     rw [QR (show ¬ p<0 by omega),QR (show ¬ a<0 by omega),QR (by omega)];rfl

theorem Qq (a L:Nat) (h:(dg a).length<=L):∀ i,(dg (a ^ i)).length<=L*i+1
 | 0=>by rw [Nat.pow_zero];exact ZK (A8g (by decide)) (by omega)
 | i+1=>by
  have h1:=B0 (a ^ i) a;have h2:=Qq a L h i;rw [YE,Nat.mul_succ];omega

theorem Aeu {α:Type} {n L k:Nat} {x:Rat} (hx:Sz x L) (hL:L<=10000000) (hk:k<=10) (hn:68719476736<=n) {k0:Bool->Bool->List Int->List Int->Option α}:∀ (m i:Nat),i<=k->k<i+m ->
  R5 n m (k:Int) (i:Int) (rq x).1 (rq x).2.1 (rq x).2.2 false (decide (x.num ^ i<0)) (dg (x.num.natAbs ^ i)) (dg (x.den ^ i)) k0=k0 false (decide (x.num ^ k<0)) (dg (x.num.natAbs ^ k)) (dg (x.den ^ k))
 | 0,i,hi,hm=>by omega
 | m+1,i,hi,hm=>by
  rw [Av5];unfold A3m;rw [QK];by_cases h:i<k
  . have l1:=Qq x.num.natAbs L hx.1 i;have l2:=Qq x.den L hx.2 i;have h1:=hx.1;have h2:=hx.2
    have h3:L*i<=L*10:=YB _ (by omega)
    rw [QJ (by omega)]
    show ob (f152 n (dg (x.num.natAbs ^ i)) (dg x.num.natAbs)) _=_
    rw [Mb (by omega) (by omega),A0]
    show ob (f152 n (dg (x.den ^ i)) (dg x.den)) _=_
    rw [Mb (by omega) (by omega),A0,A8 (x:=(i:Int)+1) (by omega) (by omega),<- YE,<- YE]
    show R5 n m (k:Int) ((i+1:Nat):Int) (rq x).1 (rq x).2.1 (rq x).2.2 false (!(decide (x.num ^ i<0)==decide (x.num<0))) _ _ k0=_;rw [B29]
    exact Aeu hx hL hk hn m (i+1) (by omega) (by omega)
  . obtain rfl:i=k:=by omega
    rw [QH (by omega)]

theorem Afe {n L k:Nat} {x:Rat} (hx:Sz x L) (hL:L<=10000000) (hk:k<=10) (hn:68719476736<=n):f170 n (rq x) (k:Int)=some (rq (x ^ k)):=by
 unfold f170;rw [iW1 hn,A0]
 have h1:=Aeu (n:=n) hx hL hk hn (k0:=λz_4 z_5 z_6 z_7=>(
   bif z_5 then
    ob (f168 n (z_5,z_6,z_7)) λr_8 =>
    ob (f168 n ((!r_8),z_6,z_7)) λr_9 =>
    bif r_9 then
     ob (f151 n) λr_10 =>
     some ((!r_8),z_6,r_10)
    else
     some ((!r_8),z_6,z_7)
   else
    ob (f168 n (false,z_6,z_7)) λr_11 =>
    bif r_11 then
     ob (f151 n) λr_12 =>
     some (false,z_6,r_12)
    else
     some (false,z_6,z_7))) n 0 (by omega) (by omega)
 rw [Int.pow_zero,Nat.pow_zero,Nat.pow_zero,show decide ((1:Int)<0)=false from rfl,show ((0:Nat):Int)=0 from rfl] at h1;rw [show rq 1=(false,dg 1,dg 1) from Arp 1,h1]
 have hzero:∀ (s:Bool) (a d:Nat),f168 n (s,dg a,dg d)=some (decide (a=0)):=λs a d=>by
  unfold f168;dsimp only;rw [A7l]
 have key:rq (x ^ k)=(decide (x.num ^ k<0),dg (x.num.natAbs ^ k),dg (x.den ^ k)):=by
  unfold rq;rw [Rat.num_pow,Rat.den_pow,Int.natAbs_pow]
 have hz:x.num.natAbs ^ k=0->x.den ^ k=1:=λh=>by
  rcases YR k with h2 | h2
  . subst h2;rfl
  . have h3:x.num.natAbs=0:=(Nat.pow_eq_zero.1 h).1
    have:x=0:=JA.1 (by omega)
    rw [this];exact Nat.one_pow k
 have hs:x.num.natAbs ^ k=0->¬ x.num ^ k<0:=λh=>by rw [<- Int.natAbs_pow] at h;omega
 rw [key];by_cases h2:x.num ^ k<0
 . rw [QX h2,ZR,hzero,A0,hzero,A0];have h3:¬ x.num.natAbs ^ k=0:=λh=>hs h h2;rw [QR h3];rfl
 . rw [QR h2,QU,hzero,A0];by_cases h3:x.num.natAbs ^ k=0
   . rw [QX h3,ZR,show f151 n=some [1] from rfl,A0,hz h3,G3]
   . rw [QR h3];rfl

abbrev Jc:=Rt × List Rt × List Rt × Rt

def jc (f v:Rat):Jc:=(rq f,[],[],rq v)

theorem Z3 {x:Rat} {L:Nat} (h:Sz x L) (k:Nat):Sz (x ^ k) (L*k+1):=by
 unfold Sz;rw [Rat.num_pow,Rat.den_pow,Int.natAbs_pow];exact ⟨Qq _ _ h.1 k,Qq _ _ h.2 k⟩

theorem B23 {x:Rat} {L k:Nat} (h:Sz x L) (hk:k<=8):Sz (Q4.d1 x k) (L*8+5):=by
 cases k with
 | zero=>exact Cc.mono (by omega)
 | succ k =>
  have h1:=Ad (Z3 h k) (Z5 (a:=((k+1:Nat):Int)) (by omega))
  have:L*k<=L*8:=YB _ (by omega)
  exact h1.mono (by omega)

theorem Bci {x:Rat} {L k:Nat} (h:Sz x L) (hk:k<=8):Sz (Q4.d2 x k) (L*8+5):=by
 match k with
 | 0=>exact Cc.mono (by omega)
 | 1=>exact Cc.mono (by omega)
 | k+2 =>
  have h2:(k+2)*(k+1)<=8*8:=ZZ (by omega) (by omega)
  have h1:=Ad (Z3 h k) (Z5 (a:=(((k+2)*(k+1):Nat):Int)) (by rw [YA];omega))
  have:L*k<=L*8:=YB _ (by omega)
  exact h1.mono (by omega)

def Ae (V:List Rat) (k:Nat):Rat:=V.getD k 0

theorem Aso {n L k:Nat} {f:Rat} {v:Rat} (hf:Sz f L) (hL:L<=1000) (hk:k<=8) (hn:68719476736<=n):A72 n (jc f v) (k:Int)=some (rq (Q4.d1 f k),rq (Q4.d2 f k)):=by
 unfold A72;rw [iW0 hn,A0,A0];dsimp only;rw [show (jc f v).1=rq f from rfl]
 match k with
 | 0=>rfl
 | 1 =>
  rw [show decide (((1:Nat):Int)>=1)=true from rfl,ZR,show W (((1:Nat):Int)-1)=((0:Nat):Int) from rfl,Afe hf (by omega) (by omega) hn,A0,iW (by omega) hn,A0,Fb (Z3 hf 0) (Z5 (a:=((1:Nat):Int)) (by omega)) (by omega) hn,A0]
  rfl
 | k+2 =>
  have h2:(k+2)*(k+1)<=8*8:=ZZ (by omega) (by omega)
  have l1:L*(k+1)<=L*8:=YB _ (by omega)
  have l2:L*k<=L*8:=YB _ (by omega)
  rw [QK,QJ (by omega),A8 (x:=((k+2:Nat):Int)-1) (by omega) (by omega),show ((k+2:Nat):Int)-1=((k+1:Nat):Int) by omega,Afe hf (by omega) (by omega) hn,A0,iW (by omega) hn,A0,
   Fb (Z3 hf (k+1)) (Z5 (a:=((k+2:Nat):Int)) (by omega)) (by omega) hn,A0,QK,QJ (by omega),
   A8 (x:=((k+2:Nat):Int)-2) (by omega) (by omega),show ((k+2:Nat):Int)-2=((k:Nat):Int) by omega,Afe hf (by omega) (by omega) hn,A0,show ((k+2:Nat):Int)*((k+1:Nat):Int)=(((k+2)*(k+1):Nat):Int) by rw [XW],
   A8 (x:=(((k+2)*(k+1):Nat):Int)) (by omega) (by omega),iW (by rw [YA];omega) hn,A0,Fb (Z3 hf k) (Z5 (a:=(((k+2)*(k+1):Nat):Int)) (by rw [YA];omega)) (by omega) hn,A0]
  rfl

structure G8 (q:Q4) (L:Nat):Prop where
 f:Sz q.f L
 a:Sz q.a L
 v:Sz q.v L
 c:Sz q.c L

theorem G8.mono {q:Q4} {L K:Nat} (h:G8 q L) (hK:L<=K):G8 q K:=⟨h.f.mono hK,h.a.mono hK,h.v.mono hK,h.c.mono hK⟩

theorem An8 {r:Rat} {L:Nat} (h:Sz r L) (h1:1<=L):G8 (Q4.cst r) L:=⟨h,Cc.mono h1,Cc.mono h1,Cc.mono h1⟩

theorem B67 {p q:Q4} {L K:Nat} (hp:G8 p L) (hq:G8 q K):G8 (Q4.mul p q) (4*(L+K)+7):=by
 refine ⟨(Ad hp.f hq.f).mono (by omega),(Cu (Ad hp.a hq.f) (Ad hp.f hq.a)).mono (by omega),(Cu (Ad hp.v hq.f) (Ad hp.f hq.v)).mono (by omega),?_⟩
 exact (Cu (Cu (Ad hp.c hq.f) (Ad hp.f hq.c)) (Cu (Ad hp.a hq.v) (Ad hp.v hq.a))).mono (by omega)

theorem An6 {p:Q4} {L:Nat} (hp:G8 p L):G8 (Q4.neg p) L:=⟨Fe hp.f,Fe hp.a,Fe hp.v,Fe hp.c⟩

theorem A7x {x:Rat} {L:Nat} (h:Sz x L) (h0:x ≠ 0):Sz (1 / x) (L+4):=(B66 (S1 (L:=1) (by omega)) h h0).mono (by omega)

theorem An7 {p:Q4} {L:Nat} (hp:G8 p L) (h0:p.f ≠ 0):G8 (Q4.inv p) (8*L+60):=by
 have r:=A7x hp.f h0;have r2:=Ad r r;have r3:=Ad r2 r
 have t3:=Ad (show Sz 2 1 from A7w (c:=2) (by omega)) r3
 refine ⟨r.mono (by omega),(Fe (Ad hp.a r2)).mono (by omega),(Fe (Ad hp.v r2)).mono (by omega),?_⟩
 show Sz (_-_) _;rw [Rat.sub_eq_add_neg]
 exact (Cu (Ad t3 (Ad hp.a hp.v)) (Fe (Ad hp.c r2))).mono (by omega)

abbrev Js:=Rt × Rt × Rt × Rt

def S4 (q:Q4):Js:=(rq q.f,rq q.a,rq q.v,rq q.c)

theorem sW0 {n:Nat} (hn:68719476736<=n):f131 n 0=some (rq 0):=A56 (a:=0) (by omega) (by omega)

theorem sW1 {n:Nat} (hn:68719476736<=n):f131 n 1=some (rq 1):=A56 (a:=1) (by omega) (by omega)

theorem sW2 {n:Nat} (hn:68719476736<=n):f131 n 2=some (rq 2):=A56 (a:=2) (by omega) (by omega)

theorem Aei {n:Nat} {r:Rat} (hn:68719476736<=n):f188 n (rq r)=some (S4 (Q4.cst r)):=by
 unfold f188;rw [sW0 hn,A0,A0,A0];rfl

theorem Aro {n L K:Nat} {p q:Q4} (hp:G8 p L) (hq:G8 q K) (hL:L+K<=100000000) (hn:68719476736<=n):f189 n (S4 p) (S4 q)=some (S4 (Q4.add p q)):=by
 unfold f189 S4;dsimp only
 rw [sPl hp.f hq.f (by omega) hn,A0,sPl hp.a hq.a (by omega) hn,A0,sPl hp.v hq.v (by omega) hn,A0,sPl hp.c hq.c (by omega) hn,A0];rfl

theorem Arn {n:Nat} {p:Q4}:f190 n (S4 p)=some (S4 (Q4.neg p)):=by
 unfold f190 S4;dsimp only;rw [Sc,A0,Sc,A0,Sc,A0,Sc,A0];rfl

theorem Aeh {n L K:Nat} {p q:Q4} (hp:G8 p L) (hq:G8 q K) (hL:L+K<=100000000) (hn:68719476736<=n):f191 n (S4 p) (S4 q)=some (S4 (Q4.mul p q)):=by
 have e1:=Ad hp.a hq.f;have e2:=Ad hp.f hq.a;have e3:=Ad hp.v hq.f;have e4:=Ad hp.f hq.v;have e5:=Ad hp.c hq.f;have e6:=Ad hp.f hq.c;have e7:=Ad hp.a hq.v;have e8:=Ad hp.v hq.a;unfold f191 S4;dsimp only
 rw [Kx hp.f hq.f (by omega) hn,A0,Kx hp.a hq.f (by omega) hn,A0,Kx hp.f hq.a (by omega) hn,A0,sPl e1 e2 (by omega) hn,A0,
  Kx hp.v hq.f (by omega) hn,A0,Kx hp.f hq.v (by omega) hn,A0,sPl e3 e4 (by omega) hn,A0,
  Kx hp.c hq.f (by omega) hn,A0,Kx hp.f hq.c (by omega) hn,A0,sPl e5 e6 (by omega) hn,A0,
  Kx hp.a hq.v (by omega) hn,A0,Kx hp.v hq.a (by omega) hn,A0,sPl e7 e8 (by omega) hn,A0,sPl (Cu e5 e6) (Cu e7 e8) (by omega) hn,A0];rfl

theorem B6k {n L:Nat} {p:Q4} (hp:G8 p L) (h0:p.f ≠ 0) (hL:L<=10000000) (hn:68719476736<=n):f192 n (S4 p)=some (S4 (Q4.inv p)):=by
 have r:=A7x hp.f h0;have r2:=Ad r r;have r3:=Ad r2 r
 have k2:Sz 2 1:=A7w (c:=2) (by omega)
 have t3:=Ad k2 r3;unfold f192 S4;dsimp only
 rw [sW1 hn,A0,sOv (S1 (L:=1) (by omega)) hp.f h0 (by omega) hn,A0,Kx r r (by omega) hn,A0,sW2 hn,A0,Kx r2 r (by omega) hn,A0,Kx k2 r3 (by omega) hn,A0,
  Kx hp.a r2 (by omega) hn,A0,Sc,A0,Kx hp.v r2 (by omega) hn,A0,Sc,A0,Kx hp.a hp.v (by omega) hn,A0,Kx t3 (Ad hp.a hp.v) (by omega) hn,A0,
  Kx hp.c r2 (by omega) hn,A0,sLs (Ad t3 (Ad hp.a hp.v)) (Ad hp.c r2) (by omega) hn,A0];rfl

def Ir (q:Q4):Bool:=Bn q.f&&(Bn q.a&&(Bn q.v&&Bn q.c))

theorem B2c {n:Nat} {q:Q4}:f193 n (S4 q)=some (Ir q):=by
 unfold f193 S4 Ir;dsimp only;rw [Ade,A0,Ade,Ade,Ade]
 cases Bn q.f <;> cases Bn q.a <;> cases Bn q.v <;> cases Bn q.c <;> rfl

theorem Ayw {q:Q4}:Ir q=true ↔ G8 q 40:=by
 unfold Ir;simp only [QF,Nm];exact ⟨λ⟨a,b,c,d⟩=>⟨a,b,c,d⟩,λh=>⟨h.f,h.a,h.v,h.c⟩⟩

theorem G9 {l:List Q4} {k:Nat} (h:k<l.length):(l.map S4).getD k ((false,[],[]),(false,[],[]),(false,[],[]),(false,[],[]))=S4 (l.getD k (Q4.cst 0)):=by
 simp [QL,QM h]

def pz:Nat->Nat
 | 0=>1
 | j+1=>4*(pz j+40)+7

theorem Bb2:∀ {j:Nat},j<=8->pz j<=4000000
 | 0,_=>by decide
 | 1,_=>by decide
 | 2,_=>by decide
 | 3,_=>by decide
 | 4,_=>by decide
 | 5,_=>by decide
 | 6,_=>by decide
 | 7,_=>by decide
 | 8,_=>by decide
 | j+9,h=>by omega

theorem An5 {p:Q4} (hp:G8 p 40):∀ j,G8 (Q4.pow p j) (pz j)
 | 0=>An8 (S1 (L:=1) (by omega)) (QZ _)
 | j+1=>B67 (An5 hp j) hp

theorem A58 {α:Type} {n N A:Nat} {X U V:List Rt} {i op B:Int} {e:List Nod} {l:List Q4} (hA:A<l.length) (hP:G8 (l.getD A (Q4.cst 0)) 40) (hN:N<=8) (hn:68719476736<=n)
  {k0:List Rt->List Rt->List Rt->Int->List Nod->Bool->Bool->Bool->Bool->Bool->List Int->List Int->Bool->List Int->List Int->Bool->List Int->List Int->Bool->List Int->List Int->List Js->Option α}:∀ (m j:Nat) (q:Q4),q=Q4.pow (l.getD A (Q4.cst 0)) j->j<=N->N<j+m ->
  U8 n m X U V i (j:Int) e false false false false op (A:Int) B (N:Int) (S4 q).1.1 (S4 q).1.2.1 (S4 q).1.2.2 (S4 q).2.1.1 (S4 q).2.1.2.1 (S4 q).2.1.2.2 (S4 q).2.2.1.1 (S4 q).2.2.1.2.1 (S4 q).2.2.1.2.2 (S4 q).2.2.2.1 (S4 q).2.2.2.2.1 (S4 q).2.2.2.2.2 (l.map S4) k0 =
  (let r:=S4 (Q4.pow (l.getD A (Q4.cst 0)) N);k0 X U V i e false false false false r.1.1 r.1.2.1 r.1.2.2 r.2.1.1 r.2.1.2.1 r.2.1.2.2 r.2.2.1.1 r.2.2.1.2.1 r.2.2.1.2.2 r.2.2.2.1 r.2.2.2.2.1 r.2.2.2.2.2 (l.map S4))
 | 0,j,q,hq,hj,hm=>by omega
 | m+1,j,q,hq,hj,hm=>by
  rw [Aqa];unfold Yh;rw [QK];by_cases h:j<N
  . rw [QJ (by omega),ZJ,A3 (by simp;omega),QP,A3 (by simp;omega),G9 hA]
    dsimp only;have hz:=An5 hP j
    have hzl:=Bb2 (show j<=8 by omega)
    have e1:f191 n (S4 q) (S4 (l.getD A (Q4.cst 0)))=some (S4 (Q4.mul q (l.getD A (Q4.cst 0)))):=Aeh (by rw [hq];exact hz) hP (by omega) hn
    have e1:f191 n (((S4 q).1.1,(S4 q).1.2.1,(S4 q).1.2.2),((S4 q).2.1.1,(S4 q).2.1.2.1,(S4 q).2.1.2.2),((S4 q).2.2.1.1,(S4 q).2.2.1.2.1,(S4 q).2.2.1.2.2),(S4 q).2.2.2.1,(S4 q).2.2.2.2.1,(S4 q).2.2.2.2.2) (S4 (l.getD A (Q4.cst 0)))=_:=e1
    rw [e1,A0,A8 (x:=(j:Int)+1) (by omega) (by omega)]
    exact A58 hA hP hN hn m (j+1) _ (by rw [hq];rfl) (by omega) (by omega)
  . obtain rfl:j=N:=by omega
    rw [QH (by omega),hq]

theorem Ay4 {α:Type} {n:Nat} {X U V:List Rat} {e:List Nod} {l:List Q4} {x:Nod} (hx:Dp x l.length) (he:e.getD l.length (0,0,0,0)=x) (hl:l.length<e.length) (hl2:l.length<=1000) (hd:x.1=2->x.2.2.2<X.length) (hU:U.length=X.length) (hV:V.length=X.length)
  (hs:∀ k,k<l.length->G8 (l.getD k (Q4.cst 0)) 40) (hn:68719476736<=n)
  {f:List Rt->List Rt->List Rt->Int->List Nod->Bool->Bool->Bool->Bool->List Js->Option α} {k0:Int->Bool->Bool->Bool->Bool->Option α} {k1:Bool->Bool->Bool->Bool->List Js->Option α} :
  Ok n (vq X) (vq U) (vq V) (l.length:Int) e false false false false (l.map S4) f k0 k1 =
   if Eo l x then k0 10 false false false false else if Ir (Ay (Ae X) (Ae U) (Ae V) l x)=true then f (vq X) (vq U) (vq V) ((l.length+1:Nat):Int) e false false false false ((l++[Ay (Ae X) (Ae U) (Ae V) l x]).map S4) else k0 7 false false false false:=by
 have J : ∀ q : Q4, (ob (f193 n (S4 q)) fun r_74 =>
       bif (!r_74) then
        k0 7 false false false false
       else
        gd (decide (((l.map S4).length+1)*224<=140737488355328)) (
         f (vq X) (vq U) (vq V) (W ((l.length:Int)+1)) e false false false false (l.map S4++[S4 q])))=if Ir q=true then f (vq X) (vq U) (vq V) ((l.length+1:Nat):Int) e false false false false ((l++[q]).map S4) else k0 7 false false false false:=by
  intro q
  rw [B2c,A0,A8 (by omega) (by omega)]
  cases hf:Ir q with
  | false=>rfl
  | true =>
   rw [ZS,QU,A3 (by simp;omega),JK]
   simp only [if_true];rfl
 obtain ⟨op,A,B,N⟩:=x;obtain ⟨⟨o1,o2⟩,hN,hA,hB⟩:=hx;unfold Ok Eo
 rw [QK,QJ (by omega),A3 (by simp;omega),QP,he,sW0 hn,A0,Aei hn,A0]
 unfold Nh at hN;unfold Dq at hA hB;unfold Ay;dsimp only at *
 obtain rfl | rfl | rfl | rfl | rfl | rfl | rfl | rfl:op=1 \/ op=2 \/ op=3 \/ op=4 \/ op=5 \/ op=6 \/ op=7 \/ op=8:=by omega
 all_goals simp only [Int.reduceEq,or_self,or_true,true_or,if_false,if_true,Int.reduceBEq,ZR,QU,Int.reduceLT,gt_iff_lt,decide_true,decide_false,false_and,JE] at *
 . rw [A56 (by omega) (by omega),A0,Aei hn,A0]
   exact J _
 . have hd:=hd trivial
   rw [Aw,Aw,Aw,A3 (by simp;omega),A3 (by simp;omega),A3 (by simp;omega),F6 (by omega),F6 (by omega),F6 (by omega)]
   exact J ⟨Ae X N.toNat,Ae U N.toNat,Ae V N.toNat,0⟩
 all_goals (have lA:A.toNat<l.length:=by omega)
 . have lB:B.toNat<l.length:=by omega
   rw [ZJ,A3 (by simp;omega),A3 (by simp;omega),A3 (by simp;omega),A3 (by simp;omega),G9 lA,G9 lB,Aro (hs _ lA) (hs _ lB) (by omega) hn,A0]
   have:=J (Q4.add (l.getD A.toNat (Q4.cst 0)) (l.getD B.toNat (Q4.cst 0)));rw [ZJ] at this;exact this
 . have lB:B.toNat<l.length:=by omega
   rw [ZJ,A3 (by simp;omega),A3 (by simp;omega),A3 (by simp;omega),A3 (by simp;omega),G9 lA,G9 lB,Arn,A0,Aro (hs _ lA) (An6 (hs _ lB)) (by omega) hn,A0]
   have:=J (Q4.add (l.getD A.toNat (Q4.cst 0)) (Q4.neg (l.getD B.toNat (Q4.cst 0))));rw [ZJ] at this;exact this
 . have lB:B.toNat<l.length:=by omega
   rw [ZJ,A3 (by simp;omega),A3 (by simp;omega),A3 (by simp;omega),A3 (by simp;omega),G9 lA,G9 lB,Aeh (hs _ lA) (hs _ lB) (by omega) hn,A0]
   have:=J (Q4.mul (l.getD A.toNat (Q4.cst 0)) (l.getD B.toNat (Q4.cst 0)));rw [ZJ] at this;exact this
 . have lB:B.toNat<l.length:=by omega
   rw [ZJ,A3 (by simp;omega),A3 (by simp;omega),G9 lB,show f141 n (S4 (l.getD B.toNat (Q4.cst 0))).1=some (decide ((l.getD B.toNat (Q4.cst 0)).f=0)) from B6f,A0,QK]
   by_cases h0:(l.getD B.toNat (Q4.cst 0)).f=0
   . rw [QJ h0,QJ h0]
   . rw [QH h0,QH h0,A3 (by simp;omega),A3 (by simp;omega),A3 (by simp;omega),A3 (by simp;omega),G9 lA,B6k (hs _ lB) h0 (by omega) hn,A0,Aeh (hs _ lA) (An7 (hs _ lB) h0) (by omega) hn,A0]
     have:=J (Q4.mul (l.getD A.toNat (Q4.cst 0)) (Q4.inv (l.getD B.toNat (Q4.cst 0))));rw [ZJ] at this;exact this
 . rw [ZJ,A3 (by simp;omega),A3 (by simp;omega),G9 lA,Arn,A0]
   have:=J (Q4.neg (l.getD A.toNat (Q4.cst 0)));rw [ZJ] at this;exact this
 . obtain ⟨N',rfl⟩:∃ N':Nat,N=(N':Int):=⟨N.toNat,by omega⟩
   obtain ⟨A',rfl⟩:∃ A':Nat,A=(A':Int):=⟨A.toNat,by omega⟩
   rw [QP] at lA;rw [sW1 hn,A0,Aei hn,A0]
   have hp:=A58 (n:=n) (N:=N') (A:=A') (X:=vq X) (U:=vq U) (V:=vq V) (i:=(l.length:Int)) (op:=8) (B:=B) (e:=e) (l:=l) lA (hs _ lA) (by omega) hn
    (k0:=λz_30 z_31 z_32 z_33 z_34 z_35 z_36 z_37 z_38 z_39 z_40 z_41 z_42 z_43 z_44 z_45 z_46 z_47 z_48 z_49 z_50 z_51 =>
     (ob (f193 n ((z_39,z_40,z_41),(z_42,z_43,z_44),(z_45,z_46,z_47),z_48,z_49,z_50)) λr_74 =>
     bif (!r_74) then
      k0 7 false false false false
     else
      gd (decide ((z_51.length+1)*224<=140737488355328)) (
       f z_30 z_31 z_32 (W (z_33+1)) z_34 z_35 z_36 z_37 z_38 (z_51++[((z_39,z_40,z_41),(z_42,z_43,z_44),(z_45,z_46,z_47),z_48,z_49,z_50)])))) n 0 (Q4.cst 1) rfl (by omega) (by omega)
   refine hp.trans ?_;exact J (Q4.pow (l.getD A' (Q4.cst 0)) N')

def allP (e:List Nod) (d:Int):Prop:=∀ k,k<e.length->Dp (e.getD k (0,0,0,0)) k/\((e.getD k (0,0,0,0)).1=2->(e.getD k (0,0,0,0)).2.2.2<d)

theorem A7k {e:List Nod} {i:Nat} (h:i<e.length):e.drop i=e.getD i (0,0,0,0)::e.drop (i+1):=by
 rw [XS h,QL,QM h];rfl

theorem Al0 {α:Type} {n:Nat} {X U V:List Rat} {e:List Nod} (hp:allP e X.length) (he:e.length<=60) (hU:U.length=X.length) (hV:V.length=X.length) (hn:68719476736<=n)
  {k0:Int->Bool->Bool->Bool->Bool->Option α} {k1:Bool->Bool->Bool->Bool->List Js->Option α}:∀ (m:Nat) (l:List Q4),(∀ k,k<l.length->G8 (l.getD k (Q4.cst 0)) 40)->l.length<=e.length->e.length<l.length+m ->
  A0e n m (vq X) (vq U) (vq V) (l.length:Int) e false false false false (l.map S4) k0 k1=match Vu Ir (Ae X) (Ae U) (Ae V) (e.drop l.length) l with
   | .inl l'=>k1 false false false false (l'.map S4)
   | .inr c=>k0 c false false false false
 | 0,l,hs,hl,hm=>by omega
 | m+1,l,hs,hl,hm=>by
  rw [Aw4];by_cases h:l.length<e.length
  . obtain ⟨h1,h2⟩:=hp _ h
    rw [Ay4 h1 rfl h (by omega) h2 hU hV hs hn,A7k h,Vu]
    by_cases hb:Eo l (e.getD l.length (0,0,0,0))
    . rw [QJ hb,QJ hb]
    . rw [QH hb,QH hb];generalize hq:Ay (Ae X) (Ae U) (Ae V) l (e.getD l.length (0,0,0,0))=q;by_cases hf:Ir q=true
      . rw [QJ hf,QJ hf]
        have:=Al0 hp he hU hV hn (k0:=k0) (k1:=k1) m (l++[q]) (λk hk=>by
         simp only [ZI,ZF,XI] at hk;rcases ZV k l.length with h3 | h3
         . rw [QL,ZB h3,<- QL];exact hs k h3
         . obtain rfl:k=l.length:=by omega
           rw [QL,ZC (QZ _)];simpa using Ayw.1 hf) (by simp;omega) (by simp;omega)
        rw [ZI] at this;exact this
      . rw [QH hf,QH hf]
  . have h0:l.length=e.length:=by omega
    unfold Ok
    rw [QK,QH (by omega),QY (by omega)]
    rfl

theorem B2d {n:Nat} {X U V:List Rat} {e:List Nod} (hp:allP e X.length) (h1:1<=e.length) (he:e.length<=60) (hU:U.length=X.length) (hV:V.length=X.length) (hn:68719476736<=n) :
  f126 n e (vq X) (vq U) (vq V)=some (match Vu Ir (Ae X) (Ae U) (Ae V) e [] with
   | .inl l=>(S4 (l.getD (e.length-1) (Q4.cst 0)),0)
   | .inr c=>(((false,[],[]),(false,[],[]),(false,[],[]),(false,[],[])),c)):=by
 unfold f126
 have:=Al0 (n:=n) hp he hU hV hn (k0:=λz_76 z_77 z_78 z_79 z_80=>(
   some ((((z_77,[],[]),(z_78,[],[]),(z_79,[],[]),z_80,[],[]),z_76):Js × Int)))
  (k1:=λz_81 z_82 z_83 z_84 z_85=>(
   gd (decide (0<=(W ((z_85.length:Int)-1)))&&decide ((W ((z_85.length:Int)-1))<(z_85.length:Int))) (
    gd (decide ((W ((z_85.length:Int)-1)).toNat<z_85.length)) (
     let x_86:=z_85.getD ((W ((z_85.length:Int)-1)).toNat) ((false,[],[]),(false,[],[]),(false,[],[]),(false,[],[]))
     some (x_86,0))))) n [] (by simp) (by simp) (by simp;omega)
 refine Eq.trans this ?_;rw [XI,ZQ]
 cases hev:Vu Ir (Ae X) (Ae U) (Ae V) e [] with
 | inr c=>rfl
 | inl l =>
  have hl:=(Aa6 e [] l (λk hk=>by simp at hk) hev).2
  have hlen:l.length=e.length:=by rw [hl,Gj];simp
  simp only [ZJ,hlen]
  rw [A8 (by omega) (by omega),A3 (by simp;omega),A3 (by simp;omega),show ((e.length:Int)-1).toNat=e.length-1 by omega,G9 (by omega)]

theorem Ar4 {l:List Q4} {q:Q4} {k:Nat} (h:k<l.length):(l++[q]).getD k (Q4.cst 0)=l.getD k (Q4.cst 0):=by
 simp only [QL,ZB h]

theorem Ar5 {l:List Q4} {q:Q4}:(l++[q]).getD l.length (Q4.cst 0)=q:=by
 rw [QL,ZC (QZ _)];simp

theorem Jd {l:List Q4} {k:Nat} (h:l.length<=k):l.getD k (Q4.cst 0)=Q4.cst 0:=by
 rw [QL,KL h];rfl

theorem Ay8 {x u w:Nat->Rat} {l:List Q4} {n:Nod} (h:n.1=8):(Ay x u w l n).f=(l.getD n.2.1.toNat (Q4.cst 0)).f ^ n.2.2.2.toNat:=by
 unfold Ay
 rw [QH (by omega),QH (by omega),QH (by omega),QH (by omega),QH (by omega),QH (by omega),QH (by omega),Q4.pow_eq]

theorem Acp {x:Nod} {i:Int} (h:Eb x i):Dp x i:=by
 obtain ⟨h1,h2⟩:=h;unfold Dp Nh Dq;grind

theorem A59:∀ (r:List Nod) (bs ds:List Int) (p:List Int × List Int),C7 bs ds r=some p->∀ j,j<r.length->Dp (r.getD j (0,0,0,0)) ((bs.length+j:Nat):Int)
 | [],bs,ds,p,h,j,hj=>by simp at hj
 | x::r,bs,ds,p,h,j,hj=>by
  simp only [C7] at h;split at h
  . rename_i hok
    cases j with
    | zero=>exact Acp hok.1
    | succ j =>
     have:=A59 r _ _ p h j (by simpa using hj)
     simp only [ZI,ZF,XI] at this;simp only [Qag]
     rw [show bs.length+(j+1)=bs.length+1+j by omega]
     exact this
  . cases h

def Kq (e:List Nod):Bool:=decide (1<=e.length/\e.length<=60)&&match C7 [] [] e with
 | none=>false
 | some (bs,ds)=>decide (bs.getD (e.length-1) 0=0)&&ds.all λx=>decide (x<=12)

theorem Lk {e:List Nod}:Kq e=true ↔ Dr e:=by
 unfold Kq Dr
 cases h:C7 [] [] e with
 | none=>simp
 | some p =>
  obtain ⟨bs,ds⟩:=p;simp only [QF,QO,QG]
  exact ⟨λ⟨h1,h2,h3⟩=>⟨h1,bs,ds,rfl,h2,h3⟩,λ⟨h1,b2,d2,hq,h2,h3⟩=>by
   obtain ⟨rfl,rfl⟩:=KE (QA hq)
   exact ⟨h1,h2,h3⟩⟩

def V0 (e:List Nod) (l:List Rt):Int:=if 4096<l.length then 2 else if Kq e=true/\P8 l=true then (if (l.length:Int)<Oz 0 e then 8 else 0) else 1

open Classical in
theorem Alq {n:Nat} {e:List Nod} {l:List Rt} (hN:e.length<=1048576) (hn:1048577<=n):f67 n e l=some (V0 e l):=by
 unfold f67 f60 V0
 rw [Zm (by simp) hn,A0,B5s hN hn,A0,E7,A0,A0,A9w hn,A0,E7,A0,Is (by simp) hn,A0]
 have hL:Im [l]=decide (4096<l.length):=by simp [Im]
 rw [hL]
 have hB:∀ d:Decidable (Dr e),@decide (Dr e) d=Kq e:=λd=>by
  cases hb:Kq e with
  | true=>exact QX (Lk.1 hb)
  | false=>exact QR λh=>by rw [Lk.2 h] at hb;cases hb
 rw [hB];by_cases h1:4096<l.length
 . simp only [h1,decide_true,if_true]
   rw [show Fz [2,if Kq e=true then 0 else 1,if P8 l=true then 0 else 1]=2 from rfl,show ((2:Int) != 0)=true from rfl,ZR,E7,A0,Is (by simp) hn];rfl
 . simp only [h1,decide_false,if_false,XY]
   cases h2:Kq e with
   | true =>
    cases h3:P8 l with
    | true =>
     simp only [if_true,JS]
     rw [show Fz [0,0,0]=0 from rfl,show ((0:Int) != 0)=false from rfl,QU,B5o hN hn,A0,E7,A0,Is (by simp) hn,A0]
     by_cases h4:(l.length:Int)<Oz 0 e
     . rw [QJ h4,QH (by simp;omega)];rfl
     . rw [QH h4,QJ (by simp;omega)];rfl
    | false =>
     simp only [if_true,XY,if_false,and_false]
     rw [show Fz [0,0,1]=1 from rfl,show ((1:Int) != 0)=true from rfl,ZR,E7,A0,Is (by simp) hn];rfl
   | false =>
    simp only [if_false,XY,false_and]
    rw [show ∀ b:Int,Fz [0,1,b]=1 from λ_=>rfl,show ((1:Int) != 0)=true from rfl,ZR,E7,A0,Is (by simp) hn];rfl

open Classical in
theorem Alp {n:Nat} {e:List Nod} {l:List Rt} (hN:e.length<=1048576) (hn:1048577<=n):f74 n e l=some (V0 e l):=by
 unfold f74 V0;rw [QK];by_cases h1:4096<l.length
 . rw [QJ (by omega),QJ h1]
 . rw [QH (by omega),QH h1,B5h hN hn,A0]
   dsimp only
   have hB:∀ d:Decidable (Dr e),@decide (Dr e) d=Kq e:=λd=>by
    cases hb:Kq e with
    | true=>exact QX (Lk.1 hb)
    | false=>exact QR λh=>by rw [Lk.2 h] at hb;cases hb
   rw [hB]
   cases h2:Kq e with
   | true =>
    simp only [ZS,QU];rw [A9z hn,A0]
    cases h3:P8 l with
    | true =>
     simp only [ZS,QU,JS,if_true];rw [B5f hN hn,A0,QK];by_cases h4:(l.length:Int)<Oz 0 e
     . rw [QJ h4,QJ h4]
     . rw [QH h4,QH h4]
    | false=>simp
   | false=>simp

theorem Bb0 {n:Nat} {x:Rat} {L:Nat} (h:Sz x L) (hL:L<=1000000000):f127 n (rq x)=some (rq x):=by
 obtain ⟨h1,h2⟩:=h;unfold f127
 rw [A3 (by show decide ((0+(dg x.num.natAbs).length)*8<=_)=true;simp;omega),A3 (by show decide ((0+(dg x.den).length)*8<=_)=true;simp;omega)]

def Ane (x v:List Rt):Int:=if P8 v=true then (if v.length=x.length then 0 else 8) else 1

def slopC (e:List Nod) (x v:List Rt):Int:=if 4096<x.length \/ 4096<v.length then 2 else if V0 e x ≠ 0 then V0 e x else Ane x v

theorem B34 {n:Nat} {x v:List Rt} (hn:1048577<=n):f72 n x v=some (Ane x v):=by
 unfold f72 Ane
 rw [A9w hn,A0,E7,A0,E7,A0,Is (by simp) hn,A0]
 cases h1:P8 v with
 | false=>rfl
 | true =>
  simp only [if_true];by_cases h2:v.length=x.length
  . rw [QJ h2,QJ (by simp [h2])];rfl
  . rw [QH h2,QH (by simp;omega)];rfl

theorem Bcw {x v:List Rt}:Im [x,v]=decide (4096<x.length \/ 4096<v.length):=by
 unfold Im;by_cases h1:4096<x.length <;> by_cases h2:4096<v.length <;> simp [h1,h2]

theorem Ani {n:Nat} {e:List Nod} {x v:List Rt} (hN:e.length<=1048576) (hn:1048577<=n) {α:Type} {k:Int->Option α} :
  (ob (f71 n [x,v]) λr_1=>ob (f67 n e x) λr_2=>ob (f72 n x v) λr_3=>ob (f70 n [r_1,r_2,r_3]) λr_4=>k r_4)=k (slopC e x v):=by
 rw [Zm (by simp) hn,A0,Alq hN hn,A0,B34 hn,A0,Is (by simp) hn,A0,Bcw]
 congr 1;unfold slopC Fz Fz Fz;by_cases h1:4096<x.length \/ 4096<v.length
 . simp [h1]
 . simp only [h1,decide_false,if_false,XY,if_true];by_cases h2:V0 e x=0
   . simp only [h2,if_true,not_true_eq_false,ne_eq,if_false];unfold Fz;split <;> simp_all
   . simp [h2]

theorem div_one {x y:Rat}:x / y=x*(1 / y):=by rw [Rat.div_def,Rat.div_def,Rat.one_mul]

def Bd2 (q:Q4):Bool:=Bn q.f

theorem Bb3 {f d:Nat->Rat} {n:Nod} (hf:∀ k,Sz (f k) 40) (h6:n.1=6->f n.2.2.1.toNat ≠ 0) (h8:n.1=8->n.2.2.2.toNat<=8):Sz (Lr f d n).a 330/\Sz (Lr f d n).b 330:=by
 have z:Sz 0 330:=Cc.mono (by omega)
 have o:Sz 1 330:=S1 (by omega)
 have m:Sz (-1) 330:=Fe o;unfold Lr;dsimp only;split
 . exact ⟨o,o⟩
 split
 . exact ⟨o,m⟩
 split
 . exact ⟨(hf _).mono (by omega),(hf _).mono (by omega)⟩
 split
 . rename_i h;have r:=A7x (hf n.2.2.1.toNat) (h6 h)
   exact ⟨r.mono (by omega),(Fe (Ad (hf n.2.1.toNat) (Ad r r))).mono (by omega)⟩
 split
 . exact ⟨m,z⟩
 split
 . rename_i h
   exact ⟨(B23 (hf n.2.1.toNat) (h8 h)).mono (by omega),z⟩
 . exact ⟨z,z⟩

def bigH:Nat:=10000 ^ 400

set_option exponentiation.threshold 100000 in
theorem Ar7 {x:Rat} {L:Nat} (h:Sz x L) (hL:L<=400):Hb x bigH:=by
 have e:10000 ^ L<=bigH:=XP (by omega) hL
 exact ⟨by have:=Hx h.1;omega,by have:=Hx h.2;omega⟩

set_option exponentiation.threshold 100000 in
theorem B0s:1<=bigH:=Qbo (by omega)

def Z0 (i:Nat):Nat:=10000 ^ (801*i)

set_option exponentiation.threshold 100000 in
theorem Ait (i:Nat):2*(bigH*bigH*Z0 i)<=Z0 (i+1):=by
 unfold bigH Z0;rw [<- Nat.pow_add,<- Nat.pow_add,Nat.mul_succ]
 have:(10000:Nat) ^ (801*i+801)=10000 ^ (400+400+801*i)*10000:=by rw [<- YE];congr 1;omega
 rw [this,KD 2]
 exact YB _ (by omega)

set_option exponentiation.threshold 100000 in
theorem Bax {x:Rat} {i:Nat} (h:Hb x (Z0 i)) (hi:i<=60):Sz x 48061:=by
 have e:Z0 i<10000 ^ 48061:=by
  unfold Z0
  exact Nat.pow_lt_pow_right (by omega) (by omega)
 exact ⟨Cx (JN h.1 e),Cx (JN h.2 e)⟩

structure Q6 (X V:List Rat) (e:List Nod):Prop where
 all:allP e X.length
 len:e.length<=60
 vx:V.length=X.length
 sX:Sv X 40
 sV:Sv V 40
 fit:∀ k,Sz ((evs (Ae X) (λ_=>0) (Ae V) e []).getD k (Q4.cst 0)).f 40
 ok:∀ i,i<e.length->¬ Eo (evs (Ae X) (λ_=>0) (Ae V) (e.take i) []) (e.getD i (0,0,0,0))

theorem Q6.of {X V:List Rat} {e:List Nod} {l:List Q4} (ha:allP e X.length) (hl:e.length<=60) (hv:V.length=X.length) (sX:Sv X 40) (sV:Sv V 40) (h:Vu Bd2 (Ae X) (λ_=>0) (λ_=>0) e [] = .inl l):Q6 X V e:=by
 obtain ⟨h1,h2⟩:=Aa6 e [] l (λk hk=>by simp at hk) h
 refine ⟨ha,hl,hv,sX,sV,λk=>?_,λi hi hb=>?_⟩
 . rw [Anl (Ae X) (λ_=>0) (Ae V) (λ_=>0) (λ_=>0) e k,<- h2];rcases ZV k l.length with h3 | h3
   . exact Nm.1 (h1 k h3)
   . rw [Jd h3];exact Cc.mono (by omega)
 . refine Amw e [] l h i hi ⟨hb.1,?_⟩;rw [Anl (Ae X) (λ_=>0) (λ_=>0) (λ_=>0) (Ae V)];exact hb.2

theorem Q6.pre {X V:List Rat} {e:List Nod} (h:Q6 X V e) {i:Nat} (hi:i<=e.length) (k:Nat):Sz ((evs (Ae X) (λ_=>0) (Ae V) (e.take i) []).getD k (Q4.cst 0)).f 40:=by
 rcases ZV k i with h1 | h1
 . rw [Amt _ _ _ e h1 hi];exact h.fit k
 . rw [Jd (by rw [Gj];simp;omega)];exact Cc.mono (by omega)

theorem Q6.cd {X V:List Rat} {e:List Nod} (h:Q6 X V e):∀ {i:Nat},i<=e.length->CD ((evs (Ae X) (λ_=>0) (Ae V) (e.take i) []).map Q4.v) (Z0 i)
 | 0,_=>by simpa [evs,Z0] using Bau
 | i+1,hi=>by
  have ih:=h.cd (i:=i) (by omega)
  have hi':i<e.length:=by omega
  obtain ⟨hp,hd⟩:=h.all i hi';have hbad:=h.ok i hi'
  have hf:=h.pre (i:=i) (by omega)
  rw [Ai7 _ _ _ _ hi',JK];generalize hl:evs (Ae X) (λ_=>0) (Ae V) (e.take i) []=l at *;generalize hx:e.getD i (0,0,0,0)=x at *;by_cases h2:x.1=2
  . have hv:(Ay (Ae X) (λ_=>0) (Ae V) l x).v=Ae V x.2.2.2.toNat:=by unfold Ay;rw [QH (by omega),QJ h2]
    simp only [QS,XR,hv];have hN:=hp.2.1;unfold Nh at hN
    rw [QH (by omega),QJ h2] at hN
    have:=hd h2
    have sv:Sz (Ae V x.2.2.2.toNat) 40:=h.sV.get (by have:=h.vx;omega)
    exact (ih.one (Ar7 sv (by omega)) B0s).mono (Ait i)
  . have hq:=(B2l (Ae X) (λ_=>0) (Ae V) (λk=>l.getD k (Q4.cst 0)) x hp.1 h2).2.1;rw [<- B2k] at hq;simp only [QS,XR]
    obtain ⟨sa,sb⟩:=Bb3 (f:=λk=>(l.getD k (Q4.cst 0)).f) (d:=λk=>(l.getD k (Q4.cst 0)).v) (n:=x) hf (λh6 h0=>hbad ⟨h6,h0⟩) (λh8=>by
     have hN:=hp.2.1;unfold Nh at hN
     rw [QH (by omega),QH (by omega),QJ h8] at hN;omega)
    have mem:∀ k,(l.getD k (Q4.cst 0)).v ∈ l.map Q4.v \/ (l.getD k (Q4.cst 0)).v=0:=λk=>by
     rcases ZV k l.length with h3 | h3
     . left;rw [QL,QM h3];exact ZG.2 ⟨_,KQ h3,rfl⟩
     . right;rw [Jd h3];rfl
    exact (ih.step (Ar7 sa (by omega)) (Ar7 sb (by omega)) (mem _) (mem _) hq).mono (Ait i)

theorem Q6.sv {X V:List Rat} {e:List Nod} (h:Q6 X V e) {i:Nat} (hi:i<=e.length) (k:Nat):Sz ((evs (Ae X) (λ_=>0) (Ae V) (e.take i) []).getD k (Q4.cst 0)).v 48061:=by
 generalize hl:evs (Ae X) (λ_=>0) (Ae V) (e.take i) []=l;rcases ZV k l.length with h3 | h3
 . have:=h.cd hi;rw [hl] at this
   have hm:(l.getD k (Q4.cst 0)).v ∈ l.map Q4.v:=by
    rw [QL,QM h3];exact ZG.2 ⟨_,KQ h3,rfl⟩
   exact Bax (this.hb hm) (by have:=h.len;omega)
 . rw [Jd h3];exact Cc.mono (by omega)

def rA (A:Nat) (g:Nat->Rat):List Rt:=(List.range A).map λi=>rq (g i)

theorem Ax (A:Nat) (g:Nat->Rat):(rA A g).length=A:=by simp [rA]

theorem Bi {A i:Nat} {g:Nat->Rat} (h:i<A):(rA A g).getD i (false,[],[])=rq (g i):=by
 simp [rA,QL,h]

theorem Ih (i:Nat) (g:Nat->Rat):rA i g++[rq (g i)]=rA (i+1) g:=by simp [rA,KB]

theorem Kz {A:Nat} {g:Nat->Rat} (h:0<A):(!(rA A g).isEmpty)=true:=by
 cases A with
 | zero=>omega
 | succ A=>simp [rA,KB]

theorem Se {A:Nat} {g h:Nat->Rat} (e:∀ i,i<A->g i=h i):rA A g=rA A h:=by
 unfold rA
 exact ZD λi hi=>by rw [e i (XU.1 hi)]

theorem B2j (A:Nat):rA A (λ_=>0)=vq (List.replicate A 0):=by
 unfold rA vq;rw [List.map_replicate];apply List.ext_getElem
 . simp
 . intro i h1 h2;simp

theorem B6q {A k:Nat} {g:Nat->Rat} {y:Rat}:(rA A g).set k (rq y)=rA A (λi=>if k=i then y else g i):=by
 apply List.ext_getElem
 . simp [rA]
 . intro i h1 h2;simp only [rA,List.length_set,ZJ,JU] at h1;rw [List.getElem_set];simp only [rA,List.getElem_map,List.getElem_range];by_cases e:k=i
   . rw [QJ e,QJ e]
   . rw [QH e,QH e]

def gc (A:Nat) (f v:Rat) (a c:Nat->Rat):Jc:=(rq f,rA A a,rA A c,rq v)

theorem Bbc {n A:Nat} (hA:A<=100) (hn:68719476736<=n):f64 n (A:Int)=some (rA A λ_=>0):=by
 have loop:∀ {α:Type} {k0:List Rt->Option α} (m i:Nat),i<=A->A<i+m->A62 n m (A:Int) (i:Int) (rA i λ_=>0) k0=k0 (rA A λ_=>0):=by
  intro α k0 m
  induction m with
  | zero=>intro i h1 h2;omega
  | succ m ih =>
   intro i h1 h2;rw [Azd];unfold A8z;rw [QK];by_cases h:i<A
   . rw [QJ (by omega),iW0 hn,A0,A3 (by rw [Ax];simp;omega),A8 (by omega) (by omega)]
     rw [show rA i (λ_=>0)++[rq 0]=rA (i+1) (λ_=>0) from Ih i _]
     exact ih (i+1) (by omega) (by omega)
   . obtain rfl:i=A:=by omega
     rw [QH (by omega)]
 unfold f64
 exact loop (k0:=λz_2=>some z_2) n 0 (by omega) (by omega)

theorem B77 {n A:Nat} (hA:A<=100) (hn:68719476736<=n):A23 n (A:Int)=some (rA A λ_=>0):=by
 rw [Afd (by omega) (by omega),B2j]

theorem Xe {α:Type} {n A L:Nat} {f v g w:Rat} {a b c d a2 c2:Nat->Rat} (sa:∀ i,Sz (a i) L) (sb:∀ i,Sz (b i) L) (sc:∀ i,Sz (c i) L) (sd:∀ i,Sz (d i) L) (hA:A<=100) (hL:L<=100000) (hn:68719476736<=n) (ha:∀ i,a2 i=a i+b i) (hc:∀ i,c2 i=c i+d i) {R S:Rt} {k0:Bool->Bool->Bool->List Int->List Int->Bool->List Int->List Int->List Rt->List Rt->Option α}:∀ (m i:Nat),i<=A->A<i+m ->
  Tx n m (rA A a) (A:Int) (i:Int) (rq f).1 (rq f).2.1 (rq f).2.2 (rA A a) (rA A c) (rq v).1 (rq v).2.1 (rq v).2.2 (rq g).1 (rq g).2.1 (rq g).2.2 (rA A b) (rA A d) (rq w).1 (rq w).2.1 (rq w).2.2 false false R.1 R.2.1 R.2.2 S.1 S.2.1 S.2.2 (rA i a2) (rA i c2) k0=k0 false false R.1 R.2.1 R.2.2 S.1 S.2.1 S.2.2 (rA A a2) (rA A c2)
 | 0,i,hi,hm=>by omega
 | m+1,i,hi,hm=>by
  rw [Apu];unfold Y9;rw [QK];by_cases h:i<A
  . rw [QJ (by omega),Ax,A3 (by simp;omega),QP,Bi h]
    dsimp only
    rw [Ax,A3 (by simp;omega),Bi h,L3 (sa i) (sb i) (by omega) hn,A0,A3 (by rw [Ax];simp;omega),Kz (by omega),Fk,Ax,A3 (by simp;omega),Bi h,Ax,A3 (by simp;omega),Bi h,L3 (sc i) (sd i) (by omega) hn,A0,A3 (by rw [Ax];simp;omega),A8 (by omega) (by omega),<- ha i,<- hc i,Ih,Ih]
    exact Xe (f:=f) (v:=v) (g:=g) (w:=w) (a:=a) (b:=b) (c:=c) (d:=d) (a2:=a2) (c2:=c2) sa sb sc sd hA hL hn ha hc m (i+1) (by omega) (by omega)
  . obtain rfl:i=A:=by omega
    rw [QH (by omega)]

theorem B30 {n A L:Nat} {f v g w:Rat} {a b c d:Nat->Rat} (sf:Sz f L) (sg:Sz g L) (sv:Sz v L) (sw:Sz w L) (sa:∀ i,Sz (a i) L) (sb:∀ i,Sz (b i) L) (sc:∀ i,Sz (c i) L) (sd:∀ i,Sz (d i) L) (hA:A<=100) (hL:L<=100000) (hn:68719476736<=n) :
  Km n (gc A f v a c) (gc A g w b d)=some (gc A (f+g) (v+w) (λi=>a i+b i) (λi=>c i+d i)):=by
 unfold Km gc;dsimp only
 rw [L3 sf sg (by omega) hn,A0,L3 sv sw (by omega) hn,A0,Ax,QK]
 by_cases h:0<A
 . rw [QJ (by omega),A3 (by simp;omega),Bi h,Ax,A3 (by simp;omega),Bi h,L3 (sa 0) (sb 0) (by omega) hn,A0,Kz h,Fk,Ax,A3 (by simp;omega),Bi h,Ax,A3 (by simp;omega),Bi h,L3 (sc 0) (sd 0) (by omega) hn,A0]
   have hl:=Xe (n:=n) (A:=A) (f:=f) (v:=v) (g:=g) (w:=w) sa sb sc sd hA hL hn (a2:=(λi=>a i+b i)) (c2:=(λi=>c i+d i)) (λ_=>rfl) (λ_=>rfl) (R:=rq (f+g)) (S:=rq (v+w))
    (k0:=λz_9 z_10 z_11 z_12 z_13 z_14 z_15 z_16 z_17 z_18=>(some (((z_11,z_12,z_13),z_17,z_18,z_14,z_15,z_16):Jc))) n 1 (by omega) (by omega)
   exact hl
 . obtain rfl:A=0:=by omega
   rw [QH (by omega)];rfl

theorem Vg {α:Type} {n A L:Nat} {f v g w:Rat} {a b c d a2 c2:Nat->Rat} (sf:Sz f L) (sg:Sz g L) (sv:Sz v L) (sw:Sz w L) (sa:∀ i,Sz (a i) L) (sb:∀ i,Sz (b i) L) (sc:∀ i,Sz (c i) L) (sd:∀ i,Sz (d i) L) (hA:A<=100) (hL:L<=100000) (hn:68719476736<=n) (ha:∀ i,a2 i=a i*g+f*b i) (hc:∀ i,c2 i=c i*g+a i*w+v*b i+f*d i) {R S:Rt} {k0:Bool->Bool->Bool->List Int->List Int->Bool->List Int->List Int->List Rt->List Rt->Option α}:∀ (m i:Nat),i<=A->A<i+m ->
  Tw n m (rA A a) (A:Int) (i:Int) (rq f).1 (rq f).2.1 (rq f).2.2 (rA A a) (rA A c) (rq v).1 (rq v).2.1 (rq v).2.2 (rq g).1 (rq g).2.1 (rq g).2.2 (rA A b) (rA A d) (rq w).1 (rq w).2.1 (rq w).2.2 false false R.1 R.2.1 R.2.2 S.1 S.2.1 S.2.2 (rA i a2) (rA i c2) k0=k0 false false R.1 R.2.1 R.2.2 S.1 S.2.1 S.2.2 (rA A a2) (rA A c2)
 | 0,i,hi,hm=>by omega
 | m+1,i,hi,hm=>by
  rw [Apq];unfold Y6;rw [QK];by_cases h:i<A
  . rw [QJ (by omega),Ax,A3 (by simp;omega),QP,Bi h]
    dsimp only
    have tm:∀ {x y:Rat},Sz x L->Sz y L->f162 n ((rq x).1,(rq x).2.1,(rq x).2.2) (rq y)=some (rq (x*y)):=λhx hy=>Fb hx hy (by omega) hn
    have tm2:∀ {x y:Rat},Sz x L->Sz y L->f162 n (rq x) ((rq y).1,(rq y).2.1,(rq y).2.2)=some (rq (x*y)):=λhx hy=>Fb hx hy (by omega) hn
    have tm0:∀ {x y:Rat},Sz x L->Sz y L->f162 n (rq x) (rq y)=some (rq (x*y)):=λhx hy=>Fb hx hy (by omega) hn
    rw [Ax,A3 (by simp;omega),Bi h,tm2 (sa i) sg,A0,tm sf (sb i),A0,L3 (Ad (sa i) sg) (Ad sf (sb i)) (by omega) hn,A0,A3 (by rw [Ax];simp;omega),Kz (by omega),Fk,Ax,A3 (by simp;omega),Bi h,tm2 (sc i) sg,A0,tm2 (sa i) sw,A0,L3 (Ad (sc i) sg) (Ad (sa i) sw) (by omega) hn,A0,tm sv (sb i),A0,L3 (Cu (Ad (sc i) sg) (Ad (sa i) sw)) (Ad sv (sb i)) (by omega) hn,A0,Ax,A3 (by simp;omega),Bi h,tm sf (sd i),A0,L3 (Cu (Cu (Ad (sc i) sg) (Ad (sa i) sw)) (Ad sv (sb i))) (Ad sf (sd i)) (by omega) hn,A0,A3 (by rw [Ax];simp;omega),A8 (by omega) (by omega),<- ha i,<- hc i,Ih,Ih]
    exact Vg (c:=c) (d:=d) (c2:=c2) sf sg sv sw sa sb sc sd hA hL hn ha hc m (i+1) (by omega) (by omega)
  . obtain rfl:i=A:=by omega
    rw [QH (by omega)]

theorem Ayu {n A L:Nat} {f v g w:Rat} {a b c d:Nat->Rat} (sf:Sz f L) (sg:Sz g L) (sv:Sz v L) (sw:Sz w L) (sa:∀ i,Sz (a i) L) (sb:∀ i,Sz (b i) L) (sc:∀ i,Sz (c i) L) (sd:∀ i,Sz (d i) L) (hA:A<=100) (hL:L<=100000) (hn:68719476736<=n) :
  Kk n (gc A f v a c) (gc A g w b d)=some (gc A (f*g) (v*g+f*w) (λi=>a i*g+f*b i) (λi=>c i*g+a i*w+v*b i+f*d i)):=by
 have tm0:∀ {x y:Rat},Sz x L->Sz y L->f162 n (rq x) (rq y)=some (rq (x*y)):=λhx hy=>Fb hx hy (by omega) hn
 unfold Kk gc;dsimp only
 rw [tm0 sf sg,A0,tm0 sv sg,A0,tm0 sf sw,A0,L3 (Ad sv sg) (Ad sf sw) (by omega) hn,A0,Ax,QK]
 by_cases h:0<A
 . rw [QJ (by omega),A3 (by simp;omega),Bi h,Ax,A3 (by simp;omega),Bi h,tm0 (sa 0) sg,A0,tm0 sf (sb 0),A0,L3 (Ad (sa 0) sg) (Ad sf (sb 0)) (by omega) hn,A0,Kz h,Fk,Ax,A3 (by simp;omega),Bi h,tm0 (sc 0) sg,A0,tm0 (sa 0) sw,A0,L3 (Ad (sc 0) sg) (Ad (sa 0) sw) (by omega) hn,A0,tm0 sv (sb 0),A0,L3 (Cu (Ad (sc 0) sg) (Ad (sa 0) sw)) (Ad sv (sb 0)) (by omega) hn,A0,Ax,A3 (by simp;omega),Bi h,tm0 sf (sd 0),A0,L3 (Cu (Cu (Ad (sc 0) sg) (Ad (sa 0) sw)) (Ad sv (sb 0))) (Ad sf (sd 0)) (by omega) hn,A0]
   have hl:=Vg (n:=n) (A:=A) sf sg sv sw sa sb sc sd hA hL hn (a2:=(λi=>a i*g+f*b i)) (c2:=(λi=>c i*g+a i*w+v*b i+f*d i)) (λ_=>rfl) (λ_=>rfl) (R:=rq (f*g)) (S:=rq (v*g+f*w))
    (k0:=λz_9 z_10 z_11 z_12 z_13 z_14 z_15 z_16 z_17 z_18=>(some (((z_11,z_12,z_13),z_17,z_18,z_14,z_15,z_16):Jc))) n 1 (by omega) (by omega)
   exact hl
 . obtain rfl:A=0:=by omega
   rw [QH (by omega)];rfl

theorem A5s {α:Type} {n A L:Nat} {f v k:Rat} {a c a2 c2:Nat->Rat} {s4:(Bool × List Int × List Int × List Rt × List Rt × Bool × List Int × List Int) × Rt} (sk:Sz k L) (sa:∀ i,Sz (a i) L) (sc:∀ i,Sz (c i) L) (h4:s4.1.2.2.2.2.1=rA A c/\s4.2=rq k) (hA:A<=100) (hL:L<=100000) (hn:68719476736<=n) (ha:∀ i,a2 i=a i*k) (hc:∀ i,c2 i=c i*k) {R S:Rt} {k0:Bool->Bool->Bool->List Int->List Int->Bool->List Int->List Int->List Rt->List Rt->Option α}:∀ (m i:Nat),i<=A->A<i+m ->
  Ez n m (rq k) s4 (rA A a) (A:Int) (i:Int) (rq f).1 (rq f).2.1 (rq f).2.2 (rA A a) (rA A c) (rq v).1 (rq v).2.1 (rq v).2.2 false false R.1 R.2.1 R.2.2 S.1 S.2.1 S.2.2 (rA i a2) (rA i c2) k0=k0 false false R.1 R.2.1 R.2.2 S.1 S.2.1 S.2.2 (rA A a2) (rA A c2)
 | 0,i,hi,hm=>by omega
 | m+1,i,hi,hm=>by
  rw [Xu];unfold Gu;rw [QK];by_cases h:i<A
  . rw [QJ (by omega),Ax,A3 (by simp;omega),QP,Bi h]
    dsimp only
    have e221:f208 n (rq (a i)) (rq k)=some (rq (a i*k)):=by unfold f208;rw [Fb (sa i) sk (by omega) hn,A0]
    have e222:f209 n (i:Int) s4.1 s4.2=some (rq (c i*k)):=by
     unfold f209;rw [h4.1,h4.2];dsimp only
     rw [Ax,A3 (by simp;omega),QP,Bi h,Fb (sc i) sk (by omega) hn,A0]
    rw [e221,A0,A3 (by rw [Ax];simp;omega),Kz (by omega),Fk,e222,A0,A3 (by rw [Ax];simp;omega),A8 (by omega) (by omega),<- ha i,<- hc i,Ih,Ih]
    exact A5s (f:=f) (v:=v) (c:=c) (c2:=c2) sk sa sc h4 hA hL hn ha hc m (i+1) (by omega) (by omega)
  . obtain rfl:i=A:=by omega
    rw [QH (by omega)]

theorem Bbe {n A L:Nat} {f v k:Rat} {a c:Nat->Rat} (sf:Sz f L) (sv:Sz v L) (sk:Sz k L) (sa:∀ i,Sz (a i) L) (sc:∀ i,Sz (c i) L) (hA:A<=100) (hL:L<=100000) (hn:68719476736<=n) :
  Kl n (gc A f v a c) (rq k)=some (gc A (f*k) (v*k) (λi=>a i*k) (λi=>c i*k)):=by
 have e221:f208 n (rq (a 0)) (rq k)=some (rq (a 0*k)):=by unfold f208;rw [Fb (sa 0) sk (by omega) hn,A0]
 unfold Kl gc;dsimp only
 rw [Fb sf sk (by omega) hn,A0,Fb sv sk (by omega) hn,A0]
 unfold Ly;dsimp only;rw [Ax,QK];by_cases h:0<A
 . have e222 : f209 n 0 ((rq f).1, (rq f).2.1, (rq f).2.2, rA A a, rA A c, (rq v).1, (rq v).2.1, (rq v).2.2) (rq k) = some (rq (c 0 * k)) := by
    unfold f209;dsimp only
    rw [Ax,A3 (by simp;omega),show Int.toNat 0=0 from rfl,Bi h,Fb (sc 0) sk (by omega) hn,A0]
   rw [QJ (by omega),A3 (by simp;omega),Bi h,e221,A0,Kz h,Fk,e222,A0]
   have hl:=A5s (n:=n) (A:=A) (f:=f) (v:=v) (s4:=(((rq f).1,(rq f).2.1,(rq f).2.2,rA A a,rA A c,(rq v).1,(rq v).2.1,(rq v).2.2),rq k)) sk sa sc ⟨rfl,rfl⟩ hA hL hn (a2:=(λi=>a i*k)) (c2:=(λi=>c i*k)) (λ_=>rfl) (λ_=>rfl) (R:=rq (f*k)) (S:=rq (v*k))
    (k0:=λz_9 z_10 z_11 z_12 z_13 z_14 z_15 z_16 z_17 z_18=>(some (((z_11,z_12,z_13),z_17,z_18,z_14,z_15,z_16):Jc))) n 1 (by omega) (by omega)
   exact XB (λz=>ob z λr_3=>some r_3) hl
 . obtain rfl:A=0:=by omega
   rw [QH (by omega),A0];rfl

theorem Vh {α:Type} {n A L:Nat} {f v d e:Rat} {a c a2 c2:Nat->Rat} {s4:Rt × (Bool × List Int × List Int × List Rt × List Rt × Bool × List Int × List Int) × Rt} (sd:Sz d L) (se:Sz e L) (sv:Sz v L) (sa:∀ i,Sz (a i) L) (sc:∀ i,Sz (c i) L) (h4:s4.1=rq e/\s4.2.1.2.2.2.1=rA A a/\s4.2.1.2.2.2.2.1=rA A c/\s4.2.1.2.2.2.2.2=rq v/\s4.2.2=rq d) (hA:A<=100) (hL:L<=100000) (hn:68719476736<=n) (ha:∀ i,a2 i=d*a i) (hc:∀ i,c2 i=e*a i*v+d*c i) {R S:Rt} {k0:Bool->Bool->Bool->List Int->List Int->Bool->List Int->List Int->List Rt->List Rt->Option α}:∀ (m i:Nat),i<=A->A<i+m ->
  Ey n m (rq d) s4 (rA A a) (A:Int) (i:Int) (rq f).1 (rq f).2.1 (rq f).2.2 (rA A a) (rA A c) (rq v).1 (rq v).2.1 (rq v).2.2 false false R.1 R.2.1 R.2.2 S.1 S.2.1 S.2.2 (rA i a2) (rA i c2) k0=k0 false false R.1 R.2.1 R.2.2 S.1 S.2.1 S.2.2 (rA A a2) (rA A c2)
 | 0,i,hi,hm=>by omega
 | m+1,i,hi,hm=>by
  rw [Xr];unfold Gr;rw [QK];by_cases h:i<A
  . rw [QJ (by omega),Ax,A3 (by simp;omega),QP,Bi h]
    dsimp only
    have e232:f221 n (rq (a i)) (rq d)=some (rq (d*a i)):=by unfold f221;rw [Fb sd (sa i) (by omega) hn,A0]
    have e233:f222 n (i:Int) s4.1 s4.2.1 s4.2.2=some (rq (e*a i*v+d*c i)):=by
     unfold f222;rw [h4.1,h4.2.1,h4.2.2.1,h4.2.2.2.1,h4.2.2.2.2];dsimp only
     rw [Ax,Ax,A3 (by simp;omega),QP,Bi h,Fb se (sa i) (by omega) hn,A0,Fb (Ad se (sa i)) sv (by omega) hn,A0,A3 (by simp;omega),Bi h,Fb sd (sc i) (by omega) hn,A0,L3 (Ad (Ad se (sa i)) sv) (Ad sd (sc i)) (by omega) hn,A0]
    rw [e232,A0,A3 (by rw [Ax];simp;omega),Kz (by omega),Fk,e233,A0,A3 (by rw [Ax];simp;omega),A8 (by omega) (by omega),<- ha i,<- hc i,Ih,Ih]
    exact Vh (f:=f) (c:=c) (c2:=c2) sd se sv sa sc h4 hA hL hn ha hc m (i+1) (by omega) (by omega)
  . obtain rfl:i=A:=by omega
    rw [QH (by omega)]

theorem Afg {n A L:Nat} {f v g d e:Rat} {a c:Nat->Rat} (sv:Sz v L) (sd:Sz d L) (se:Sz e L) (sa:∀ i,Sz (a i) L) (sc:∀ i,Sz (c i) L) (hA:A<=100) (hL:L<=100000) (hn:68719476736<=n) :
  Tb n (gc A f v a c) (rq g) (rq d) (rq e)=some (gc A g (d*v) (λi=>d*a i) (λi=>e*a i*v+d*c i)):=by
 have e232:f221 n (rq (a 0)) (rq d)=some (rq (d*a 0)):=by unfold f221;rw [Fb sd (sa 0) (by omega) hn,A0]
 unfold Tb gc;dsimp only
 rw [Fb sd sv (by omega) hn,A0]
 unfold Lx;dsimp only;rw [Ax,QK];by_cases h:0<A
 . have e233 : f222 n 0 (rq e) ((rq f).1, (rq f).2.1, (rq f).2.2, rA A a, rA A c, rq v) (rq d) = some (rq (e * a 0 * v + d * c 0)) := by
    unfold f222;dsimp only
    rw [Ax,Ax,A3 (by simp;omega),show Int.toNat 0=0 from rfl,Bi h,Fb se (sa 0) (by omega) hn,A0,Fb (Ad se (sa 0)) sv (by omega) hn,A0,A3 (by simp;omega),Bi h,Fb sd (sc 0) (by omega) hn,A0,L3 (Ad (Ad se (sa 0)) sv) (Ad sd (sc 0)) (by omega) hn,A0]
   rw [QJ (by omega),A3 (by simp;omega),Bi h,e232,A0,Kz h,Fk,e233,A0]
   have hl:=Vh (n:=n) (A:=A) (f:=f) (s4:=(rq e,((rq f).1,(rq f).2.1,(rq f).2.2,rA A a,rA A c,rq v),rq d)) sd se sv sa sc ⟨rfl,rfl,rfl,rfl,rfl⟩ hA hL hn (a2:=(λi=>d*a i)) (c2:=(λi=>e*a i*v+d*c i)) (λ_=>rfl) (λ_=>rfl) (R:=rq g) (S:=rq (d*v))
    (k0:=λz_9 z_10 z_11 z_12 z_13 z_14 z_15 z_16 z_17 z_18=>(some (((z_11,z_12,z_13),z_17,z_18,z_14,z_15,z_16):Jc))) n 1 (by omega) (by omega)
   exact XB (λz=>ob z λr_2=>some r_2) hl
 . obtain rfl:A=0:=by omega
   rw [QH (by omega),A0];rfl

def Ar (A i:Nat):Nat->Rat:=λk=>if k=i/\i<A then 1 else 0

structure M2 (R:Nat->Q4) (L:Nat):Prop where
 f:∀ i,(R i).f=(R 0).f
 v:∀ i,(R i).v=(R 0).v
 s:∀ i,G8 (R i) L

theorem M2.mono {R:Nat->Q4} {L K:Nat} (h:M2 R L) (hK:L<=K):M2 R K:=⟨h.f,h.v,λi=>(h.s i).mono hK⟩

theorem Anb {r:Rat} {L:Nat} (h:Sz r L) (h1:1<=L):M2 (λ_=>Q4.cst r) L:=⟨λ_=>rfl,λ_=>rfl,λ_=>An8 h h1⟩

def Qf (A:Nat) (p:Nat->Bool):Bool:=(List.range A).all p

theorem Baq {A:Nat} {g:Nat->Rat}:((List.range A).map g).all Bn=Qf A λi=>Bn (g i):=by simp [Qf,YC,JV]

theorem All {n A:Nat} {g:Nat->Rat} (hA:A<=100) (hn:68719476736<=n):∃ l,f51 n (rA A g)=some (l,if Qf A (λi=>Bn (g i))=true then 0 else 7):=by
 have e:rA A g=vq ((List.range A).map g):=by simp [rA,vq,JV]
 rw [e,Asr (by simp;omega) (by omega),Baq]
 by_cases h:Qf A (λi=>Bn (g i))=true
 . rw [QJ h,QJ h];exact ⟨_,rfl⟩
 . rw [QH h,QH h];exact ⟨_,rfl⟩

theorem Ay9 {A:Nat} {x w:Nat->Rat} {ls:Nat->List Q4} (hf:∀ k i,((ls i).getD k (Q4.cst 0)).f=((ls 0).getD k (Q4.cst 0)).f/\((ls i).getD k (Q4.cst 0)).v=((ls 0).getD k (Q4.cst 0)).v) (n:Nod) (i:Nat) :
  (Ay x (Ar A i) w (ls i) n).f=(Ay x (Ar A 0) w (ls 0) n).f/\(Ay x (Ar A i) w (ls i) n).v=(Ay x (Ar A 0) w (ls 0) n).v:=by
 have h:Ep x (λb:Bool=>bif b then Ar A i else Ar A 0) (λ_=>w) (λp=>(p true).f=(p false).f/\(p true).v=(p false).v):=by
  refine ⟨λ_=>⟨rfl,rfl⟩,λ_=>⟨rfl,rfl⟩,λh1 h2=>?_,λh1=>?_,λh1 h2=>?_,λh1=>?_⟩ <;> simp only [Q4.add,Q4.neg,Q4.mul,Q4.inv,h1] <;> (try simp only [h2]) <;> (try simp only [JS])
 exact h.of (l:=λb=>bif b then ls i else ls 0) (λk=>hf k i) n

def Ah (A:Nat) (R:Nat->Q4):Jc:=gc A (R 0).f (R 0).v (λi=>(R i).a) (λi=>(R i).c)

theorem A5n {A:Nat} {f v:Rat} {a c:Nat->Rat} {R:Nat->Q4} (hf:f=(R 0).f) (hv:v=(R 0).v) (ha:∀ i,a i=(R i).a) (hc:∀ i,c i=(R i).c):gc A f v a c=Ah A R:=by
 unfold Ah gc;rw [hf,hv,Se λi _=>ha i,Se λi _=>hc i]

theorem Asn {n A:Nat} {f:Rat} {V:List Rat} (hV:0<V.length) (hA:A<=100) (hn:68719476736<=n):Adq n ((A:Int),vq V) (rq f)=some (Ah A λ_=>Q4.cst f):=by
 unfold Adq;dsimp only
 rw [Bbc hA hn,A0,iW0 hn,A0,A3 (by simp [vq];intro e;rw [e] at hV;simp at hV),A0];rfl

theorem Afb {n A L:Nat} {P Q:Nat->Q4} (hP:M2 P L) (hQ:M2 Q L) (hA:A<=100) (hL:L<=100000) (hn:68719476736<=n):Km n (Ah A P) (Ah A Q)=some (Ah A λi=>Q4.add (P i) (Q i)) :=
 B30 (hP.s 0).f (hQ.s 0).f (hP.s 0).v (hQ.s 0).v (λi=>(hP.s i).a) (λi=>(hQ.s i).a) (λi=>(hP.s i).c) (λi=>(hQ.s i).c) hA hL hn

theorem Alg {n A L:Nat} {P:Nat->Q4} (hP:M2 P L) (h2:2<=L) (hA:A<=100) (hL:L<=100000) (hn:68719476736<=n):Kl n (Ah A P) (rq (-1))=some (Ah A λi=>Q4.neg (P i)):=by
 have h:=Bbe (n:=n) (A:=A) (hP.s 0).f (hP.s 0).v (k:=-1) (Fe (S1 (by omega))) (λi=>(hP.s i).a) (λi=>(hP.s i).c) hA hL hn
 refine Eq.trans h (XB some ?_);refine A5n ?_ ?_ (λi=>?_) (λi=>?_) <;> simp only [Q4.neg] <;> grind

theorem Ab3 {n A L:Nat} {P Q:Nat->Q4} (hP:M2 P L) (hQ:M2 Q L) (hA:A<=100) (hL:L<=100000) (hn:68719476736<=n):Kk n (Ah A P) (Ah A Q)=some (Ah A λi=>Q4.mul (P i) (Q i)):=by
 have h:=Ayu (n:=n) (A:=A) (hP.s 0).f (hQ.s 0).f (hP.s 0).v (hQ.s 0).v (λi=>(hP.s i).a) (λi=>(hQ.s i).a) (λi=>(hP.s i).c) (λi=>(hQ.s i).c) hA hL hn;refine Eq.trans h (XB some ?_);refine A5n ?_ ?_ (λi=>?_) (λi=>?_)
 . rfl
 . rfl
 . simp only [Q4.mul,hP.f i,hQ.f i]
 . simp only [Q4.mul,hP.f i,hQ.f i,hP.v i,hQ.v i];grind

theorem B2t {n A L:Nat} {P:Nat->Q4} (hP:M2 P L) (h0:(P 0).f ≠ 0) (hA:A<=100) (hL:L<=10000) (hn:68719476736<=n):A0a n (Ah A P)=some (Ah A λi=>Q4.inv (P i)):=by
 have r:=A7x (hP.s 0).f h0;have r2:=Ad r r;have r3:=Ad r2 r
 have k2:Sz 2 1:=A7w (c:=2) (by omega)
 unfold A0a
 rw [iW1 hn,A0,show (Ah A P).1=rq (P 0).f from rfl,iOv (S1 (L:=1) (by omega)) (hP.s 0).f h0 (by omega) hn,A0,Fb r r (by omega) hn,A0,iNg r2 (by omega),A0,Fb r2 r (by omega) hn,A0,iW2 hn,A0,Fb r3 k2 (by omega) hn,A0]
 have h:=Afg (n:=n) (A:=A) (L:=8*L+100) (f:=(P 0).f) (g:=1 / (P 0).f) (d:=-(1 / (P 0).f*(1 / (P 0).f))) (e:=1 / (P 0).f*(1 / (P 0).f)*(1 / (P 0).f)*2) ((hP.s 0).v.mono (by omega)) ((Fe r2).mono (by omega)) ((Ad r3 k2).mono (by omega)) (λi=>(hP.s i).a.mono (by omega)) (λi=>(hP.s i).c.mono (by omega)) hA (by omega) hn
 have h:Tb n (Ah A P) (rq (1 / (P 0).f)) (rq (-(1 / (P 0).f*(1 / (P 0).f)))) (rq (1 / (P 0).f*(1 / (P 0).f)*(1 / (P 0).f)*2))=_:=h;rw [h,A0];refine XB some (A5n ?_ ?_ (λi=>?_) (λi=>?_))
 . rfl
 . simp only [Q4.inv];grind
 . simp only [Q4.inv,hP.f i];grind
 . simp only [Q4.inv,hP.f i,hP.v i];grind

theorem Ao2 {n A L k:Nat} {P:Nat->Q4} (hP:M2 P L) (hL:L<=1000) (hk:k<=8) (hn:68719476736<=n):A72 n (Ah A P) (k:Int)=some (rq (Q4.d1 (P 0).f k),rq (Q4.d2 (P 0).f k)):=by
 have:=Aso (n:=n) (f:=(P 0).f) (v:=0) (hP.s 0).f hL hk hn;exact this

theorem Asl {n A L k:Nat} {P:Nat->Q4} (hP:M2 P L) (hA:A<=100) (hL:L<=1000) (hk:k<=8) (hn:68719476736<=n):A08 n (Ah A P) (k:Int)=some (Ah A λi=>Q4.pow (P i) k):=by
 unfold A08
 rw [Ao2 hP hL hk hn,A0,show (Ah A P).1=rq (P 0).f from rfl,Afe (hP.s 0).f (by omega) (by omega) hn,A0]
 have h:=Afg (n:=n) (A:=A) (L:=8*L+100) (f:=(P 0).f) (g:=(P 0).f ^ k) (d:=Q4.d1 (P 0).f k) (e:=Q4.d2 (P 0).f k) ((hP.s 0).v.mono (by omega)) ((B23 (hP.s 0).f hk).mono (by omega)) ((Bci (hP.s 0).f hk).mono (by omega)) (λi=>(hP.s i).a.mono (by omega)) (λi=>(hP.s i).c.mono (by omega)) hA (by omega) hn
 dsimp only;have h:Tb n (Ah A P) (rq ((P 0).f ^ k)) (rq (Q4.d1 (P 0).f k)) (rq (Q4.d2 (P 0).f k))=_:=h;rw [h,A0];refine XB some (A5n ?_ ?_ (λi=>?_) (λi=>?_))
 . simp only [Q4.pow_eq]
 . simp only [Q4.pow_eq]
 . simp only [Q4.pow_eq,hP.f i]
 . simp only [Q4.pow_eq,hP.f i,hP.v i]

def Nn (A:Nat) (R:Nat->Q4):Bool:=Bn (R 0).f&&(Bn (R 0).v&&(Qf A (λi=>Bn (R i).a)&&Qf A (λi=>Bn (R i).c)))

theorem Ayo {n A:Nat} {R:Nat->Q4} (hA:A<=100) (hn:68719476736<=n):A6m n (Ah A R)=some (Nn A R):=by
 obtain ⟨l1,e1⟩:=All (n:=n) (A:=A) (g:=λi=>(R i).a) hA hn;obtain ⟨l2,e2⟩:=All (n:=n) (A:=A) (g:=λi=>(R i).c) hA hn;unfold A6m Ah gc;dsimp only;rw [e1,A0,e2,A0,Ao5,A0,Ao5];unfold Nn
 cases Bn (R 0).f
 . rfl
 cases Bn (R 0).v
 . rfl
 cases Qf A (λi=>Bn (R i).a)
 . rfl
 cases Qf A (λi=>Bn (R i).c) <;> rfl

theorem B2s {n A:Nat} {f:Rat} {k:Int} {V:List Rat} (hk:0<=k/\k<V.length) (hA:A<=100) (hn:68719476736<=n):Adp n ((A:Int),vq V) (rq f) k=some (Ah A λi=>⟨f,Ar A i k.toNat,(V.getD k.toNat 0),0⟩):=by
 unfold Adp Ahn;dsimp only
 rw [B77 hA hn,A0,iW0 hn,A0,A3 (by simp [vq];intro e;rw [e] at hk;simp at hk;omega),A0,A0,QK]
 dsimp only
 have g1:(!(vq V).isEmpty)=true:=by simp [vq];intro e;rw [e] at hk;simp at hk;omega
 have g2:(decide (0<=k)&&decide (k<((vq V).length:Int)))=true:=by simp;omega
 by_cases h:k<(A:Int)
 . rw [QJ h,iW1 hn,A0,Ax,A3 (by simp;omega),A3 (by simp;omega),B6q,g1,Fk,A3 g2,F6 (by omega)]
   refine XB some ?_;unfold Ah gc
   rw [Se (h:=λi=>Ar A i k.toNat) (g:=λi=>if k.toNat=i then 1 else 0) λi hi=>by unfold Ar;by_cases e:k.toNat=i <;> simp [e,hi]]
   try rfl
 . rw [QH h,g1,Fk,A3 g2,F6 (by omega)]
   refine XB some ?_;unfold Ah gc
   rw [Se (h:=λi=>Ar A i k.toNat) (g:=λ_=>0) λi hi=>by unfold Ar;rw [QH (by omega)]]

theorem Alh {A N k:Nat} {ls:Nat->List Q4} (h:k<N):((List.range N).map λk=>Ah A λi=>(ls i).getD k (Q4.cst 0)).getD k ((false,[],[]),[],[],(false,[],[]))=Ah A λi=>(ls i).getD k (Q4.cst 0):=by
 simp [QL,h]

theorem Asm {n A N:Nat} {X V:List Rat} {ls:Nat->List Q4} {x:Nod} (hl:∀ i,(ls i).length=N) (hx:Dp x N) (hd:x.1=2->x.2.2.2<X.length/\x.2.2.2<V.length) (hV:0<V.length) (hs:∀ k,M2 (λi=>(ls i).getD k (Q4.cst 0)) 40) (hA:A<=100) (hn:68719476736<=n) :
  A7i n ((A:Int),vq V) x (vq X) ((List.range N).map λk=>Ah A λi=>(ls i).getD k (Q4.cst 0))=some ((if x.1=6/\((ls 0).getD x.2.2.1.toNat (Q4.cst 0)).f=0 then (((false,[],[]),[],[],(false,[],[])),10) else if x.1=8/\Bn (((ls 0).getD x.2.1.toNat (Q4.cst 0)).f ^ x.2.2.2.toNat)=false then (((false,[],[]),[],[],(false,[],[])),7) else (Ah A (λi=>Ay (Ae X) (Ar A i) (Ae V) (ls i) x),0)),(List.range N).map λk=>Ah A λi=>(ls i).getD k (Q4.cst 0)):=by
 obtain ⟨op,a,b,m⟩:=x;obtain ⟨⟨o1,o2⟩,hN,ha,hb⟩:=hx
 have hll:((List.range N).map λk=>Ah A λi=>(ls i).getD k (Q4.cst 0)).length=N:=by simp
 unfold A7i;simp only [Afw,A0];unfold Nh at hN;unfold Dq at ha hb ⊢;dsimp only at *;generalize hJ:((List.range N).map λk=>Ah A λi=>(ls i).getD k (Q4.cst 0))=J at hll ⊢
 have get:∀ {k:Nat},k<N->J.getD k ((false,[],[]),[],[],(false,[],[]))=Ah A λi=>(ls i).getD k (Q4.cst 0):=λ{k} hk=>by rw [<- hJ];exact Alh hk
 obtain rfl | rfl | rfl | rfl | rfl | rfl | rfl | rfl:op=1 \/ op=2 \/ op=3 \/ op=4 \/ op=5 \/ op=6 \/ op=7 \/ op=8:=by omega
 . simp only [Ay,Int.reduceEq,or_self,if_false,if_true,Int.reduceBEq,ZR,QU,Int.reduceLT,gt_iff_lt,decide_false,false_and] at *
   rw [iW (by omega) hn,A0,Asn hV hA hn,A0]
 . simp only [Ay,Int.reduceEq,or_self,if_false,if_true,Int.reduceBEq,ZR,QU,Int.reduceLT,gt_iff_lt,decide_false,false_and] at *;have hd:=hd trivial
   rw [Aw,A3 (by simp;omega),F6 (by omega),B2s (V:=V) ⟨hN.1,hd.2⟩ hA hn,A0];rfl
 all_goals simp only [Ay,Int.reduceEq,or_self,or_true,true_or,if_false,if_true,Int.reduceBEq,ZR,QU,Int.reduceLT,gt_iff_lt,decide_true,false_and,JE] at *
 all_goals (have lA:a.toNat<N:=by omega)
 all_goals (have lB:b.toNat<N:=by omega)
 all_goals (rw [hll,A3 (by simp;omega),A3 (by simp;omega),A3 (by simp;omega),A3 (by simp;omega),get lA])
 all_goals (try rw [get lB])
 all_goals (have a1:=hs a.toNat;have b1:=hs b.toNat)
 all_goals (generalize hP:(λi=>(ls i).getD a.toNat (Q4.cst 0))=P at a1 ⊢;generalize hQ:(λi=>(ls i).getD b.toNat (Q4.cst 0))=Q at b1 ⊢)
 all_goals (have eP:∀ i,(ls i).getD a.toNat (Q4.cst 0)=P i:=λi=>congrFun hP i)
 all_goals (have eQ:∀ i,(ls i).getD b.toNat (Q4.cst 0)=Q i:=λi=>congrFun hQ i)
 all_goals simp only [eP,eQ]
 . have e:Km n (Ah A P) (Ah A Q)=_:=Afb a1 b1 hA (by omega) hn
   have e:Km n (((Ah A P).1.1,(Ah A P).1.2.1,(Ah A P).1.2.2),(Ah A P).2.1,(Ah A P).2.2.1,(Ah A P).2.2.2.1,(Ah A P).2.2.2.2.1,(Ah A P).2.2.2.2.2) (((Ah A Q).1.1,(Ah A Q).1.2.1,(Ah A Q).1.2.2),(Ah A Q).2.1,(Ah A Q).2.2.1,(Ah A Q).2.2.2.1,(Ah A Q).2.2.2.2.1,(Ah A Q).2.2.2.2.2)=some _:=e;rw [e,A0]
 . have e:Kl n (Ah A Q) (rq (-1))=_:=Alg b1 (by omega) hA (by omega) hn
   have e:Kl n (((Ah A Q).1.1,(Ah A Q).1.2.1,(Ah A Q).1.2.2),(Ah A Q).2.1,(Ah A Q).2.2.1,(Ah A Q).2.2.2.1,(Ah A Q).2.2.2.2.1,(Ah A Q).2.2.2.2.2) (rq (-1))=some _:=e
   have nF:M2 (λi=>Q4.neg (Q i)) 40:=⟨λi=>by simp only [Q4.neg,b1.f i],λi=>by simp only [Q4.neg,b1.v i],λi=>An6 (b1.s i)⟩
   have e2:Km n (Ah A P) (Ah A λi=>Q4.neg (Q i))=_:=Afb a1 nF hA (by omega) hn
   have e2:Km n (((Ah A P).1.1,(Ah A P).1.2.1,(Ah A P).1.2.2),(Ah A P).2.1,(Ah A P).2.2.1,(Ah A P).2.2.2.1,(Ah A P).2.2.2.2.1,(Ah A P).2.2.2.2.2) (Ah A λi=>Q4.neg (Q i))=some _:=e2;rw [iWm hn,A0,e,A0,e2,A0]
 . have e:Kk n (Ah A P) (Ah A Q)=_:=Ab3 a1 b1 hA (by omega) hn
   have e:Kk n (((Ah A P).1.1,(Ah A P).1.2.1,(Ah A P).1.2.2),(Ah A P).2.1,(Ah A P).2.2.1,(Ah A P).2.2.2.1,(Ah A P).2.2.2.2.1,(Ah A P).2.2.2.2.2) (((Ah A Q).1.1,(Ah A Q).1.2.1,(Ah A Q).1.2.2),(Ah A Q).2.1,(Ah A Q).2.2.1,(Ah A Q).2.2.2.1,(Ah A Q).2.2.2.2.1,(Ah A Q).2.2.2.2.2)=some _:=e;rw [e,A0]
 . have z:f168 n (rq (Q 0).f)=_:=B72;have z:f168 n ((Ah A Q).1.1,(Ah A Q).1.2.1,(Ah A Q).1.2.2)=_:=z;rw [z,A0,QK];by_cases h0:(Q 0).f=0
   . rw [QJ h0,QJ h0]
   . rw [QH h0,QH h0]
     have e:A0a n (Ah A Q)=_:=B2t b1 h0 hA (by omega) hn
     have e:A0a n (((Ah A Q).1.1,(Ah A Q).1.2.1,(Ah A Q).1.2.2),(Ah A Q).2.1,(Ah A Q).2.2.1,(Ah A Q).2.2.2.1,(Ah A Q).2.2.2.2.1,(Ah A Q).2.2.2.2.2)=some _:=e
     have iF:M2 (λi=>Q4.inv (Q i)) 400:=⟨λi=>by simp only [Q4.inv,b1.f i],λi=>by simp only [Q4.inv,b1.f i,b1.v i],λi=>(An7 (b1.s i) (by rw [b1.f i];exact h0)).mono (by omega)⟩
     have e2:Kk n (Ah A P) (Ah A λi=>Q4.inv (Q i))=_:=Ab3 (a1.mono (by omega)) iF hA (by omega) hn
     have e2:Kk n (((Ah A P).1.1,(Ah A P).1.2.1,(Ah A P).1.2.2),(Ah A P).2.1,(Ah A P).2.2.1,(Ah A P).2.2.2.1,(Ah A P).2.2.2.2.1,(Ah A P).2.2.2.2.2) (Ah A λi=>Q4.inv (Q i))=some _:=e2;rw [e,A0,e2,A0]
 . have e:Kl n (Ah A P) (rq (-1))=_:=Alg a1 (by omega) hA (by omega) hn
   have e:Kl n (((Ah A P).1.1,(Ah A P).1.2.1,(Ah A P).1.2.2),(Ah A P).2.1,(Ah A P).2.2.1,(Ah A P).2.2.2.1,(Ah A P).2.2.2.2.1,(Ah A P).2.2.2.2.2) (rq (-1))=some _:=e;rw [iWm hn,A0,e,A0]
 . obtain ⟨N',rfl⟩:∃ N':Nat,m=(N':Int):=⟨m.toNat,by omega⟩
   have e0:f170 n (rq (P 0).f) (N':Int)=_:=Afe (a1.s 0).f (by omega) (by omega) hn
   have e0:f170 n ((Ah A P).1.1,(Ah A P).1.2.1,(Ah A P).1.2.2) (N':Int)=some _:=e0
   have e:A08 n (Ah A P) (N':Int)=_:=Asl a1 hA (by omega) (by omega) hn
   have e:A08 n (((Ah A P).1.1,(Ah A P).1.2.1,(Ah A P).1.2.2),(Ah A P).2.1,(Ah A P).2.2.1,(Ah A P).2.2.2.1,(Ah A P).2.2.2.2.1,(Ah A P).2.2.2.2.2) (N':Int)=some _:=e;rw [e0,A0,Ao5,A0,QP]
   cases hfit:Bn ((P 0).f ^ N') with
   | false=>simp only [XD,ZR,if_true]
   | true =>
    simp only [ZS,QU,Bool.true_eq_false,if_false];rw [e,A0]

def Vt (A:Nat) (x w:Nat->Rat):List Nod->(Nat->List Q4)->(Nat->List Q4) ⊕ Int
 | [],ls=>.inl ls
 | n::r,ls=>if Eo (ls 0) n then .inr 10 else if Nn A (λi=>Ay x (Ar A i) w (ls i) n)=true then Vt A x w r (λi=>ls i++[Ay x (Ar A i) w (ls i) n]) else .inr 7

theorem V3 {l:List Q4} {q:Q4} {k:Nat}:(l++[q]).getD k (Q4.cst 0)=if k<l.length then l.getD k (Q4.cst 0) else if k=l.length then q else Q4.cst 0:=by
 by_cases h:k<l.length
 . rw [QJ h,Ar4 h]
 . by_cases h2:k=l.length
   . rw [QH h,QJ h2,h2,Ar5]
   . rw [QH h,QH h2,Jd (by simp;omega)]

theorem B6p (x w:Nat->Rat):Ep x (λ_:Unit=>λ_=>0) (λ_=>w) (λp=>(p ()).a=0/\(p ()).c=0):=by
 refine ⟨λ_=>⟨rfl,rfl⟩,λ_=>⟨rfl,rfl⟩,λh1 h2=>?_,λh1=>?_,λh1 h2=>?_,λh1=>?_⟩ <;> simp only [Q4.add,Q4.neg,Q4.mul,Q4.inv,h1] <;> (try simp only [h2]) <;> grind

theorem Baj {A i:Nat} (h:A<=i):Ar A i=λ_=>0:=by funext k;unfold Ar;rw [QH (by omega)]

theorem A4y {A:Nat} {p:Nat->Bool}:Qf A p=true ↔ ∀ i,i<A->p i=true:=by
 unfold Qf;rw [QG];exact ⟨λh i hi=>h i (XU.2 hi),λh i hi=>h i (XU.1 hi)⟩

structure OkC (A N:Nat) (ls:Nat->List Q4):Prop where
 n:∀ i,(ls i).length=N
 s:∀ k,M2 (λi=>(ls i).getD k (Q4.cst 0)) 40
 z:∀ i,A<=i->∀ k,((ls i).getD k (Q4.cst 0)).a=0/\((ls i).getD k (Q4.cst 0)).c=0

theorem B69 (A:Nat):OkC A 0 (λ_=>[]):=⟨λ_=>rfl,λk=>Anb (Cc.mono (by omega)) (by omega),λi _ k=>⟨rfl,rfl⟩⟩

theorem B0z {A N:Nat} {x:Nat->Rat} {w:Nat->Rat} {ls:Nat->List Q4} {nd:Nod} (h:OkC A N ls) (hf:Nn A (λi=>Ay x (Ar A i) w (ls i) nd)=true):OkC A (N+1) (λi=>ls i++[Ay x (Ar A i) w (ls i) nd]):=by
 unfold Nn at hf;simp only [QF,A4y,Nm] at hf;have fam:=Ay9 (A:=A) (x:=x) (w:=w) (ls:=ls) (λk i=>⟨(h.s k).f i,(h.s k).v i⟩) nd
 have zu:∀ i,A<=i->(Ay x (Ar A i) w (ls i) nd).a=0/\(Ay x (Ar A i) w (ls i) nd).c=0:=λi hi=>by
  have:=(B6p x w).of (l:=λ_=>ls i) (λk=>h.z i hi k) nd;rw [Baj hi];exact this
 refine ⟨λi=>by simp [h.n i],λk=>?_,λi hi k=>?_⟩
 . have e : (fun i => (ls i ++ [Ay x (Ar A i) w (ls i) nd]).getD k (Q4.cst 0)) = fun i => if k < N then (ls i).getD k (Q4.cst 0) else if k = N then Ay x (Ar A i) w (ls i) nd else Q4.cst 0 := by
    funext i;rw [V3,h.n i]
   rw [e];by_cases h1:k<N
   . simp only [QJ h1];exact h.s k
   . by_cases h2:k=N
     . simp only [QH h1,QJ h2];refine ⟨λi=>(fam i).1,λi=>(fam i).2,λi=>⟨?_,?_,?_,?_⟩⟩
       . rw [(fam i).1];exact hf.1
       . by_cases hi:i<A
         . exact hf.2.2.1 i hi
         . rw [(zu i (by omega)).1];exact Cc.mono (by omega)
       . rw [(fam i).2];exact hf.2.1
       . by_cases hi:i<A
         . exact hf.2.2.2 i hi
         . rw [(zu i (by omega)).2];exact Cc.mono (by omega)
     . simp only [QH h1,QH h2];exact Anb (Cc.mono (by omega)) (by omega)
 . rw [V3,h.n i];split
   . exact h.z i hi k
   . split
     . exact zu i hi
     . exact ⟨rfl,rfl⟩

theorem Ai8 {A:Nat} {x:Nat->Rat} {w:Nat->Rat}:∀ (ns:List Nod) (ls:Nat->List Q4) (c:Int),Vt A x w ns ls = .inr c->c=7 \/ c=10
 | [],ls,c,e=>by simp [Vt] at e
 | nd::r,ls,c,e=>by
  rw [Vt] at e;split at e
  . exact .inr (by simpa using e.symm)
  . split at e
    . exact Ai8 r _ c e
    . exact .inl (by simpa using e.symm)

theorem Afc {α:Type} {n A:Nat} {X V:List Rat} {e:List Nod} (hp:allP e X.length) (he:e.length<=60) (hVX:V.length=X.length) (hV:0<V.length) (hA:A<=100) (hn:68719476736<=n)
  {k0:Int->Option α} {k1:List Jc->Option α}:∀ (m N:Nat) (ls:Nat->List Q4),OkC A N ls->N<=e.length->e.length<N+m ->
  Uf n m (vq X) e (e.length:Int) (N:Int) (A:Int) (vq V) ((List.range N).map λk=>Ah A λi=>(ls i).getD k (Q4.cst 0)) k0 k1=match Vt A (Ae X) (Ae V) (e.drop N) ls with
   | .inl l'=>k1 ((List.range e.length).map λk=>Ah A λi=>(l' i).getD k (Q4.cst 0))
   | .inr c=>k0 c
 | 0,N,ls,hs,hl,hm=>by omega
 | m+1,N,ls,hs,hl,hm=>by
  rw [Aqk];unfold Yp;rw [QK];by_cases h:N<e.length
  . obtain ⟨h1,h2⟩:=hp _ h
    rw [QJ (by omega),A3 (by simp;omega),QP,A7k h,Vt]
    generalize hx:e.getD N (0,0,0,0)=x at h1 h2
    have hg:=Asm (n:=n) (X:=X) (V:=V) (ls:=ls) hs.n h1 (λh=>⟨h2 h,by rw [hVX];exact h2 h⟩) hV hs.s hA hn
    dsimp only
    rw [hg,A0,A3 (by simp)]
    by_cases hb:Eo (ls 0) x
    . have hb':x.1=6/\((ls 0).getD x.2.2.1.toNat (Q4.cst 0)).f=0:=hb;rw [QJ hb,QJ hb'];rfl
    . have hb':¬ (x.1=6/\((ls 0).getD x.2.2.1.toNat (Q4.cst 0)).f=0):=hb;rw [QH hb,QH hb'];by_cases h8:x.1=8/\Bn (((ls 0).getD x.2.1.toNat (Q4.cst 0)).f ^ x.2.2.2.toNat)=false
      . rw [QJ h8]
        have:Nn A (λi=>Ay (Ae X) (Ar A i) (Ae V) (ls i) x)=false:=by
         unfold Nn;rw [Ay8 h8.1,h8.2];rfl
        rw [this,QH (by simp)];rfl
      . rw [QH h8];show (ob (A6m n (Ah A λi=>Ay (Ae X) (Ar A i) (Ae V) (ls i) x)) λr_3=>_)=_;rw [Ayo hA hn,A0]
        show (bif (!Nn A (λi=>Ay (Ae X) (Ar A i) (Ae V) (ls i) x)) then k0 7 else _)=_
        cases hf:Nn A (λi=>Ay (Ae X) (Ar A i) (Ae V) (ls i) x) with
        | false=>rfl
        | true =>
         rw [ZS,QU,A3 (by simp;omega),A8 (by omega) (by omega)]
         simp only [if_true]
         have:=Afc hp he hVX hV hA hn (k0:=k0) (k1:=k1) m (N+1) _ (B0z hs hf) (by omega) (by omega)
         rw [<- this,KB,JK]
         have e1:((List.range N).map λk=>Ah A λi=>(ls i++[Ay (Ae X) (Ar A i) (Ae V) (ls i) x]).getD k (Q4.cst 0))=(List.range N).map λk=>Ah A λi=>(ls i).getD k (Q4.cst 0) :=
          ZD λk hk=>by
           congr 1;funext i
           rw [V3,QJ (by rw [hs.n i];exact XU.1 hk)]
         have e2:(λi=>(ls i++[Ay (Ae X) (Ar A i) (Ae V) (ls i) x]).getD N (Q4.cst 0))=λi=>Ay (Ae X) (Ar A i) (Ae V) (ls i) x:=by
          funext i
          rw [V3,QH (by rw [hs.n i];omega),QJ (hs.n i).symm]
         rw [e1,QS,XR,e2];rfl
  . obtain rfl:N=e.length:=by omega
    rw [QH (by omega),QY (by omega)]
    rfl

theorem Ayn {n A:Nat} {X V:List Rat} {e:List Nod} (hp:allP e X.length) (he:e.length<=60) (hVX:V.length=X.length) (hV:0<V.length) (hA:A<=100) (hn:68719476736<=n) :
  Ads n ((A:Int),vq V) e (vq X)=some (match Vt A (Ae X) (Ae V) e (λ_=>[]) with
   | .inl l=>((List.range e.length).map λk=>Ah A λi=>(l i).getD k (Q4.cst 0),0)
   | .inr c=>([],c)):=by
 unfold Ads
 have:=Afc (n:=n) hp he hVX hV hA hn (k0:=λz_4=>(some (([],z_4):List Jc × Int))) (k1:=λz_5=>some (z_5,0)) n 0 (λ_=>[]) (B69 A) (by omega) (by omega)
 refine Eq.trans this ?_;rw [ZQ]
 cases Vt A (Ae X) (Ae V) e (λ_=>[]) <;> rfl

theorem B6y {n A:Nat} {X V:List Rat} {e:List Nod} (hp:allP e X.length) (h1:1<=e.length) (he:e.length<=60) (hVX:V.length=X.length) (hV:0<V.length) (hA:A<=100) (hn:68719476736<=n) :
  Aok n ((A:Int),vq V) e (vq X)=some (match Vt A (Ae X) (Ae V) e (λ_=>[]) with
   | .inl l=>(Ah A λi=>(l i).getD (e.length-1) (Q4.cst 0),0)
   | .inr c=>(((false,[],[]),[],[],(false,[],[])),c)):=by
 unfold Aok;rw [Ayn hp he hVX hV hA hn,A0]
 cases hev:Vt A (Ae X) (Ae V) e (λ_=>[]) with
 | inr c =>
  have hc:(c != 0)=true:=by rcases Ai8 _ _ _ hev with rfl | rfl <;> rfl
  dsimp only;rw [hc];rfl
 | inl l =>
  simp only [ZJ,JU]
  rw [A8 (by omega) (by omega),show ((0:Int) != 0)=false from rfl,QU,A3 (by simp;omega),show ((e.length:Int)-1).toNat=e.length-1 by omega,Alh (by omega)]

def Jf (P:Int) (s:Jj):Prop:=(∀ x ∈ s.1,0<=x/\x<=255)/\s.1.length<=1048577/\(0<=s.2.1/\s.2.1<=P)/\0<=s.2.2/\s.2.2<2147483648

theorem A3h {n:Nat} {P:Int} {s:Jj} (h:Jf P s) (hP:P<=1099511627776):∃ b s',Mg n s=some (b,s')/\(0<=b/\b<=255)/\Jf (P+1) s':=by
 obtain ⟨l,p,d⟩:=s;obtain ⟨h1,h2,⟨h3,h4⟩,h5,h6⟩:=h;dsimp only at h1 h2 h3 h4 h5 h6;unfold Mg;dsimp only
 rw [A8 (x:=p+1) (by omega) (by omega),A8 (x:=p+1-1) (by omega) (by omega),QK]
 have hb:=Aiq h1 (p+1-1).toNat;by_cases hc:p+1<=(l.length:Int)
 . rw [QJ hc,A3 (by simp;omega),A3 (by simp;omega)]
   generalize l.getD (p+1-1).toNat 0=b at *
   rw [A8 (x:=b) (by omega) (by omega),A8 (x:=d*31) (by omega) (by omega),A8 (x:=d*31+b) (by omega) (by omega),A8 (x:=d*31+b+7) (by omega) (by omega),Fq (by omega)]
   exact ⟨_,_,rfl,by omega,h1,h2,by dsimp only;omega,by dsimp only;omega,by dsimp only;omega⟩
 . rw [QH hc,QK];by_cases hc2:p+1>3000
   . rw [QJ hc2]
     exact ⟨_,_,rfl,by omega,h1,h2,by dsimp only;omega,h5,h6⟩
   . rw [QH hc2,A8 (x:=d*1103515245) (by omega) (by omega),A8 (x:=d*1103515245+12345) (by omega) (by omega),Fq (x:=d*1103515245+12345) (by omega)]
     generalize hz:(d*1103515245+12345) % 2147483648=z
     have hz2:0<=z/\z<2147483648:=by omega
     rw [YQ (a:=z) (by omega),A8 (x:=z / 65536) (by omega) (by omega),Fq (x:=z / 65536) (by omega)]
     exact ⟨_,_,rfl,by omega,h1,h2,by dsimp only;omega,by dsimp only;omega,by dsimp only;omega⟩

theorem Ai1 {n:Nat} {P k:Int} {s:Jj} (h:Jf P s) (hP:P<=1099511627000) (hk:1<k) (hk':k<=1048576):∃ v s',Dd n s k=some (v,s')/\(0<=v/\v<k)/\Jf (P+3) s':=by
 unfold Dd
 rw [QK,QH (by omega),QK]
 obtain ⟨b1,s1,e1,r1,o1⟩:=A3h (n:=n) h (by omega)
 rw [e1];by_cases hc:k<=256
 . rw [QJ hc,A0,A3 (by simp;omega),Fq r1.1]
   have:=Qbh b1 (show k ≠ 0 by omega)
   have:=Qap b1 (show 0<k by omega)
   exact ⟨_,_,rfl,by omega,o1.1,o1.2.1,⟨o1.2.2.1.1,by have:=o1.2.2.1.2;show s1.2.1<=P+3;omega⟩,o1.2.2.2⟩
 . rw [QH hc,A0]
   obtain ⟨b2,s2,e2,r2,o2⟩:=A3h (n:=n) o1 (by omega)
   rw [e2,A0]
   obtain ⟨b3,s3,e3,r3,o3⟩:=A3h (n:=n) o2 (by omega)
   rw [e3,A0];dsimp only
   rw [A3 (by simp;omega),A8 (x:=b1*65536) (by omega) (by omega),A8 (x:=b2*256) (by omega) (by omega),A8 (x:=b1*65536+b2*256) (by omega) (by omega),A8 (x:=b1*65536+b2*256+b3) (by omega) (by omega),Fq (by omega)]
   have:=Qbh (b1*65536+b2*256+b3) (show k ≠ 0 by omega)
   have:=Qap (b1*65536+b2*256+b3) (show 0<k by omega)
   exact ⟨_,_,rfl,by omega,o3.1,o3.2.1,⟨o3.2.2.1.1,by have:=o3.2.2.1.2;show s3.2.1<=P+3;omega⟩,o3.2.2.2⟩

theorem B0l {n:Nat} {P:Int} {s:Jj} (h:Jf P s) (hP:P<=1099511620000) (hn:1048577<=n):∃ (x:Rat) (s':Jj),Ps n s=some (rq x,s')/\Bq x 10 9/\Jf (P+6) s':=by
 unfold Ps
 obtain ⟨a,s1,e1,r1,o1⟩:=Ai1 (n:=n) (k:=21) h (by omega) (by omega) (by omega)
 rw [e1,A0]
 obtain ⟨b,s2,e2,r2,o2⟩:=Ai1 (n:=n) (k:=6) o1 (by omega) (by omega) (by omega)
 rw [e2,A0];dsimp only
 rw [A8 (x:=a-10) (by omega) (by omega),A8 (x:=1+b) (by omega) (by omega)]
 obtain ⟨x,e3,z⟩:=Amb (n:=n) (a:=a-10) (b:=1+b) (by omega) (by omega) hn
 rw [e3,A0]
 exact ⟨x,s2,rfl,z,o2.1,o2.2.1,⟨o2.2.2.1.1,by have:=o2.2.2.1.2;show s2.2.1<=P+6;omega⟩,o2.2.2.2⟩

theorem Bay {l:List Int} (h:∀ x ∈ l,0<=x/\x<=255) (hl:l.length<=1048577):Jf 0 (l,0,Int.tmod (l.length:Int) 1000) :=
 ⟨h,hl,⟨Int.le_refl _,Int.le_refl _⟩,by rw [Fq (by omega)];dsimp only;omega,by rw [Fq (by omega)];dsimp only;omega⟩

theorem Abc {α:Type} {n k:Nat} (hk:k<=1000) (hn:1048577<=n) {k0:List Rt->List Int->Int->Int->Option α}:∀ (m i:Nat) (P:Int) (o:List Rat) (s:Jj),Jf P s->P+6*(k-i:Nat)<=1099511620000->o.length=i->i<=k->k<i+m->Bv o 10 9 ->
  ∃ (x:List Rat) (s':Jj),x.length=k/\Bv x 10 9/\Jf (P+6*(k-i:Nat)) s'/\Jv n m (k:Int) (i:Int) (vq o) s.1 s.2.1 s.2.2 k0=k0 (vq x) s'.1 s'.2.1 s'.2.2
 | 0,i,P,o,s,h1,h2,h3,h4,h5,h6=>by omega
 | m+1,i,P,o,s,h1,h2,h3,h4,h5,h6=>by
  rw [Abe];unfold Sx;rw [QK];by_cases h:i<k
  . rw [QJ (by omega)]
    obtain ⟨a,s1,e1,r1,o1⟩:=B0l (n:=n) h1 (by omega) hn
    have e1:Ps n (s.1,s.2.1,s.2.2)=_:=e1
    rw [e1,A0,A3 (by simp;omega),A8 (x:=(i:Int)+1) (by omega) (by omega)]
    dsimp only
    obtain ⟨x,s',q1,q2,q3,q4⟩:=Abc hk hn (k0:=k0) m (i+1) (P+6) (o++[a]) s1 o1 (by omega) (by simp;omega) (by omega) (by omega) (λc hc=>by
     rcases QD.1 hc with hc | hc
     . exact h6 c hc
     . rw [QQ.1 hc];exact r1)
    refine ⟨x,s',q1,q2,?_,?_⟩
    . rw [show P+6*((k-i:Nat):Int)=P+6+6*((k-(i+1):Nat):Int) by omega];exact q3
    . rw [<- q4];simp [vq]
  . rw [QH (by omega)]
    exact ⟨o,s,by omega,h6,by rw [show ((k-i:Nat):Int)=0 by omega];simpa using h1,rfl⟩

theorem B3e {n k:Nat} {l:List Int} (h:∀ x ∈ l,0<=x/\x<=255) (hl:l.length<=1048577) (hk:k<=1000) (hn:1048577<=n):∃ x:List Rat,f21 n l (k:Int)=some (vq x)/\x.length=k/\Bv x 10 9:=by
 unfold f21 A91;rw [A0];unfold Aoo
 obtain ⟨x,s',q1,q2,_,q4⟩:=Abc (k:=k) hk hn (k0:=λz_2 z_3 z_4 z_5=>some (z_2,(z_3,z_4,z_5))) n 0 0 [] _ (Bay h hl) (by omega) rfl (by omega) (by omega) (λc hc=>by simp at hc)
 have q4:Jv n n (k:Int) 0 [] _ _ _ _=_:=q4;rw [q4,A0];exact ⟨x,rfl,q1,q2⟩

inductive Be (dim:Int):Nat->Nat->List Nod->Prop
 | num (r k:Nat) (c:Int) (h:0<=c/\c<=5):Be dim (r+1) k [(1,0,0,c)]
 | var (r k:Nat) (v:Int) (h:0<=v/\v<dim):Be dim (r+1) k [(2,0,0,v)]
 | neg (r k:Nat) (t:List Nod) (h:Be dim r k t):Be dim (r+1) k (t++[(7,((k+t.length:Nat):Int)-1,0,0)])
 | pow (r k:Nat) (t:List Nod) (p:Int) (hp:0<=p/\p<=3) (h:Be dim (min r 2) k t):Be dim (r+1) k (t++[(8,((k+t.length:Nat):Int)-1,0,p)])
 | bin (r k:Nat) (t u:List Nod) (op:Int) (ho:3<=op/\op<=6) (h1:Be dim r k t) (h2:Be dim r (k+t.length) u) :
   Be dim (r+1) k (t++u++[(op,((k+t.length:Nat):Int)-1,((k+t.length+u.length:Nat):Int)-1,0)])

theorem Be.pos {dim:Int} {r k:Nat} {t:List Nod} (h:Be dim r k t):0<t.length:=by cases h <;> simp <;> omega

theorem Be.len {dim:Int} {r k:Nat} {t:List Nod} (h:Be dim r k t):t.length+1<=2 ^ r:=by
 induction h with
 | num r k c h=>have:=JP (n:=r);simp [YE];omega
 | var r k c h=>have:=JP (n:=r);simp [YE];omega
 | neg r k t h ih=>simp [YE];have:=h.pos;omega
 | pow r k t p hp h ih =>
  have:=XP (n:=2) (by omega) (show min r 2<=r by omega)
  have:=h.pos;simp [YE];omega
 | bin r k t u op ho h1 h2 ih1 ih2=>simp [YE];omega

theorem N9:∀ (t u:List Nod) (bs ds bs' ds':List Int),C7 bs ds t=some (bs',ds')->C7 bs ds (t++u)=C7 bs' ds' u
 | [],u,bs,ds,bs',ds',h=>by
  simp only [C7,QC,QI] at h;obtain ⟨rfl,rfl⟩:=h;rfl
 | x::t,u,bs,ds,bs',ds',h=>by
  simp only [C7,YF] at h ⊢;split at h
  . rename_i hx;rw [QJ hx];exact N9 t u _ _ _ _ h
  . cases h

theorem N8 {bs ds:List Int} {x:Nod} (h:okP bs x bs.length):C7 bs ds [x]=some (bs++[nb bs x bs.length],ds++[nd ds x]):=by
 simp only [C7,QJ h]

theorem Hy {l m:List Int} {k j:Nat} (h:l.length=k):(l++m).getD (k+j) 0=m.getD j 0:=by
 subst h;simp only [List.getD]
 rw [ZC (by omega),KO]

theorem Ph {l:List Int} {j:Nat} (h:j<l.length):l.getD j 0 ∈ l:=by
 simp [List.getD,QM h]

theorem C4 {k m:Nat} (h:0<m):(((k+m:Nat):Int)-1).toNat=k+(m-1):=by omega

theorem Be.run {dim:Int} (hdim:dim<=4) {r k:Nat} {t:List Nod} (h:Be dim r k t):∀ (bs ds:List Int),bs.length=k->ds.length=k ->
  ∃ bs' ds',C7 bs ds t=some (bs++bs',ds++ds')/\bs'.length=t.length/\ds'.length=t.length/\bs'.getD (t.length-1) 0=k /\ ∀ x ∈ ds',x<=r:=by
 induction h with
 | num r k c h =>
  intro bs ds hb hd
  refine ⟨[(k:Int)],[1],?_,rfl,rfl,rfl,by simp;omega⟩
  rw [N8 ⟨by unfold Eb;simp;omega,by simp⟩]
  simp [nb,nd,hb]
 | var r k v h =>
  intro bs ds hb hd
  refine ⟨[(k:Int)],[1],?_,rfl,rfl,rfl,by simp;omega⟩
  rw [N8 ⟨by unfold Eb;simp;omega,by simp⟩]
  simp [nb,nd,hb]
 | neg r k t h ih =>
  intro bs ds hb hd;obtain ⟨b',d',h1,h2,h3,h4,h5⟩:=ih bs ds hb hd;have hp:=h.pos
  have hlen:(bs++b').length=k+t.length:=by simp [hb,h2]
  rw [N9 t _ bs ds _ _ h1,N8 ⟨by rw [hlen];unfold Eb;simp;omega,by simp⟩]
  refine ⟨b'++[nb (bs++b') (7,((k+t.length:Nat):Int)-1,0,0) (bs++b').length],d'++[nd (ds++d') (7,((k+t.length:Nat):Int)-1,0,0)],by simp,by simp [h2],by simp [h3],?_,?_⟩
  . have e:(t++[((7:Int),((k+t.length:Nat):Int)-1,(0:Int),(0:Int))]).length-1=b'.length:=by simp [h2]
    rw [e,C9];simp only [nb]
    rw [QJ (by omega),C4 hp,Hy hb,h4]
  . intro x hx;rcases QD.1 hx with hx | hx
    . have:=h5 x hx;omega
    . simp only [QQ] at hx;rw [hx];simp only [nd]
      rw [QH (by omega),QJ (by simp),C4 hp,Hy hd]
      have:d'.getD (t.length-1) 0<=r:=by
       exact h5 _ (Ph (by omega))
      omega
 | pow r k t p hp0 h ih =>
  intro bs ds hb hd;obtain ⟨b',d',h1,h2,h3,h4,h5⟩:=ih bs ds hb hd;have hp:=h.pos
  have hlen:(bs++b').length=k+t.length:=by simp [hb,h2]
  rw [N9 t _ bs ds _ _ h1,N8 ⟨by rw [hlen];unfold Eb;simp;omega,by simp⟩]
  refine ⟨b'++[nb (bs++b') (8,((k+t.length:Nat):Int)-1,0,p) (bs++b').length],d'++[nd (ds++d') (8,((k+t.length:Nat):Int)-1,0,p)],by simp,by simp [h2],by simp [h3],?_,?_⟩
  . have e:(t++[((8:Int),((k+t.length:Nat):Int)-1,(0:Int),p)]).length-1=b'.length:=by simp [h2]
    rw [e,C9];simp only [nb]
    rw [QJ (by omega),C4 hp,Hy hb,h4]
  . intro x hx;rcases QD.1 hx with hx | hx
    . have:=h5 x hx;omega
    . simp only [QQ] at hx;rw [hx];simp only [nd]
      rw [QH (by omega),QJ (by simp),C4 hp,Hy hd]
      have:d'.getD (t.length-1) 0<=((min r 2:Nat):Int):=by
       exact h5 _ (Ph (by omega))
      omega
 | bin r k t u op ho h1 h2 ih1 ih2 =>
  intro bs ds hb hd;obtain ⟨b1,d1,a1,a2,a3,a4,a5⟩:=ih1 bs ds hb hd;have hp1:=h1.pos;have hp2:=h2.pos
  obtain ⟨b2,d2,c1,c2,c3,c4,c5⟩:=ih2 (bs++b1) (ds++d1) (by simp [hb,a2]) (by simp [hd,a3])
  have hlen:(bs++b1++b2).length=k+t.length+u.length:=by simp [hb,a2,c2];omega
  have eB:(bs++b1++b2).getD (((k+t.length+u.length:Nat):Int)-1).toNat 0=((k+t.length:Nat):Int):=by
   rw [C4 hp2,Hy (by simp [hb,a2]),c4]
  have eA:(bs++b1++b2).getD (((k+t.length:Nat):Int)-1).toNat 0=(k:Int):=by
   rw [C4 hp1,ZO,Hy hb,C8 (by omega),a4]
  have hrun:C7 bs ds (t++u)=some (bs++b1++b2,ds++d1++d2):=by rw [N9 t u bs ds _ _ a1,c1]
  rw [N9 (t++u) _ bs ds _ _ hrun,N8 ⟨by rw [hlen];unfold Eb;rw [QJ (show 3<=op/\op<=6 from ho)];simp;omega,λ_=>⟨by rw [hlen],by
   show (bs++b1++b2).getD (((k+t.length+u.length:Nat):Int)-1).toNat 0=(((k+t.length:Nat):Int)-1)+1
   rw [eB];omega⟩⟩]
  refine ⟨b1++b2++[nb (bs++b1++b2) (op,((k+t.length:Nat):Int)-1,((k+t.length+u.length:Nat):Int)-1,0) (bs++b1++b2).length],d1++d2++[nd (ds++d1++d2) (op,((k+t.length:Nat):Int)-1,((k+t.length+u.length:Nat):Int)-1,0)],by simp [ZO],by simp [a2,c2],by simp [a3,c3],?_,?_⟩
  . have e:(t++u++[(op,((k+t.length:Nat):Int)-1,((k+t.length+u.length:Nat):Int)-1,(0:Int))]).length-1=(b1++b2).length:=by simp [a2,c2]
    rw [e,C9];simp only [nb]
    rw [QJ (by omega),eA]
  . intro x hx;rcases QD.1 hx with hx | hx
    . rcases QD.1 hx with hx | hx
      . have:=a5 x hx;omega
      . have:=c5 x hx;omega
    . simp only [QQ] at hx;rw [hx];simp only [nd]
      rw [QJ (by omega),C4 hp1,C4 hp2]
      have g1:(ds++d1++d2).getD (k+(t.length-1)) 0<=r:=by
       rw [ZO,Hy hd,C8 (by omega)]
       exact a5 _ (Ph (by omega))
      have g2:(ds++d1++d2).getD (k+t.length+(u.length-1)) 0<=r:=by
       rw [Hy (by simp [hd,a3])]
       exact c5 _ (Ph (by omega))
      omega

theorem Be.expr {dim:Int} (hdim:dim<=4) {r:Nat} {t:List Nod} (h:Be dim r 0 t) (hr:r<=5):Dr t:=by
 obtain ⟨bs,ds,h1,h2,h3,h4,h5⟩:=h.run hdim [] [] rfl rfl;have:=h.pos;have h6:=h.len
 have:=XP (n:=2) (by omega) hr
 exact ⟨by omega,bs,ds,by simpa using h1,by simpa using h4,λx hx=>by have:=h5 x hx;omega⟩

theorem D2.up {P Q:Int} {s:Jj} (h:D2 P s) (hq:P<=Q):D2 Q s:=⟨h.1,h.2.1,⟨h.2.2.1.1,Int.le_trans h.2.2.1.2 hq⟩,h.2.2.2⟩

theorem K8 {n:Nat} {P k:Int} {s:Jj} (h:D2 P s) (hP:P<=1099511627000) (hk:1<=k) (hk':k<=1048576):∃ v s',Dd n s k=some (v,s')/\(0<=v/\v<k)/\D2 (P+3) s':=by
 by_cases h1:k=1
 . subst h1
   exact ⟨0,s,by unfold Dd;rfl,by omega,h.up (by omega)⟩
 . exact A0i h hP (by omega) hk'

theorem B6r {v:Int} (h:0<=v/\v<6):3<=[(3:Int),3,4,5,5,6].getD v.toNat 0/\[(3:Int),3,4,5,5,6].getD v.toNat 0<=6:=by
 obtain ⟨h0,h1⟩:=h
 have:v=0 \/ v=1 \/ v=2 \/ v=3 \/ v=4 \/ v=5:=by omega
 rcases this with rfl | rfl | rfl | rfl | rfl | rfl <;> decide

theorem Rk {n:Nat} {dim:Int} (hdim:1<=dim/\dim<=4) {dv:Bool}:∀ (d r:Nat) {P:Int} {s:Jj} {nodes:List Nod},1<=r->r<=d->r<=5->D2 P s->P+12*4 ^ r<=1000000000->nodes.length+2 ^ r<=1000000 ->
  ∃ s' t,Pu n d s nodes (r:Int) dim dv=some ((),s',nodes++t)/\Be dim r nodes.length t/\D2 (P+12*4 ^ r) s'
 | 0,r,P,s,nodes,h1,h2,_,_,_,_=>by omega
 | d+1,r,P,s,nodes,h1,h2,h5,hs,hP,hN=>by
  have h4:(4:Int) ^ r>=4:=by
   obtain ⟨q,rfl⟩:∃ q,r=q+1:=⟨r-1,by omega⟩
   have:(1:Int)<=4 ^ q:=Int.pow_pos (by omega)
   rw [Qam];omega
  have h22:1<=2 ^ r:=JP
  obtain ⟨k0,s1,e1,hk,hs1⟩:=K8 (n:=n) (k:=9) hs (by omega) (by omega) (by omega)
  rw [Pu,e1,A0];dsimp only
  have leaf:∃ s' t,(ob (A6n n s1 3) λr_3 =>
    bif r_3.1 then
     ob (Dd n r_3.2 6) λr_4 =>
     gd (decide ((nodes.length+1)*32<=140737488355328)) (
      some ((),r_4.2,(nodes++[(1,0,0,r_4.1)])))
    else
     ob (Dd n r_3.2 dim) λr_5 =>
     gd (decide ((nodes.length+1)*32<=140737488355328)) (
      some ((),r_5.2,(nodes++[(2,0,0,r_5.1)]))))=some ((),s',nodes++t)/\Be dim r nodes.length t/\D2 (P+12*4 ^ r) s':=by
   obtain ⟨q,rfl⟩:∃ q,r=q+1:=⟨r-1,by omega⟩
   obtain ⟨b,s2,e2,hs2⟩:=B4g (n:=n) (k:=3) hs1 (by omega) (by omega) (by omega)
   rw [e2,A0]
   cases b with
   | true =>
    obtain ⟨c,s3,e3,hc,hs3⟩:=K8 (n:=n) (k:=6) hs2 (by omega) (by omega) (by omega)
    simp only [ZR]
    rw [e3,A0,A3 (by rw [QO];omega)]
    exact ⟨s3,_,rfl,.num q _ c (by omega),hs3.up (by omega)⟩
   | false =>
    obtain ⟨c,s3,e3,hc,hs3⟩:=K8 (n:=n) (k:=dim) hs2 (by omega) (by omega) (by omega)
    simp only [QU]
    rw [e3,A0,A3 (by rw [QO];omega)]
    exact ⟨s3,_,rfl,.var q _ c (by omega),hs3.up (by omega)⟩
  by_cases hr:(r:Int)<=1
  . rw [QX hr];exact leaf
  rw [QR hr];by_cases hl:((nodes.length:Int)>30)
  . rw [QX hl];exact leaf
  rw [QR hl];by_cases h3:k0<3
  . rw [QX h3];exact leaf
  rw [QR h3];simp only [QU]
  obtain ⟨q,rfl⟩:∃ q,r=q+1:=⟨r-1,by omega⟩
  have hq1:1<=q:=by omega
  have e4:(4:Int) ^ (q+1)=4*4 ^ q:=by rw [Qam];omega
  have e2:2 ^ (q+1)=2*2 ^ q:=by rw [YE];omega
  have h4q:(4:Int) ^ q>=4:=by
   obtain ⟨q',rfl⟩:∃ q',q=q'+1:=⟨q-1,by omega⟩
   have:(1:Int)<=4 ^ q':=Int.pow_pos (by omega)
   rw [Qam];omega
  have w1:W (((q+1:Nat):Int)-1)=(q:Int):=by rw [A8 (by omega) (by omega)];omega
  rw [w1]
  have wl:∀ m:Nat,m<=1000000->W ((m:Int)-1)=(m:Int)-1:=λm hm=>A8 (by omega) (by omega)
  by_cases h7:k0=3
  . subst h7;simp only [beq_self_eq_true,ZR]
    obtain ⟨s2,t,e3,ht,hs2⟩:=Rk hdim d q (n:=n) (dv:=dv) (nodes:=nodes) hq1 (by omega) (by omega) hs1 (by omega) (by omega)
    have hlt:=ht.len
    rw [e3,A0,A3 (by rw [QO];simp only [ZI];omega),ZO,wl _ (by rw [ZI];omega),ZI]
    exact ⟨s2,_,rfl,.neg q _ t ht,hs2.up (by omega)⟩
  . rw [beq_eq_false_iff_ne.2 h7];simp only [QU];by_cases h8:k0=4
    . subst h8;simp only [beq_self_eq_true,ZR]
      have em:min (q:Int) 2=((min q 2:Nat):Int):=by omega
      have hm:=XP (n:=2) (by omega) (show min q 2<=q by omega)
      have hm4:(4:Int) ^ (min q 2)<=4 ^ q:=by
       have:=XP (n:=4) (by omega) (show min q 2<=q by omega)
       exact_mod_cast this
      obtain ⟨s2,t,e3,ht,hs2⟩:=Rk hdim d (min q 2) (n:=n) (dv:=dv) (nodes:=nodes) (by omega) (by omega) (by omega) hs1 (by omega) (by omega)
      have hlt:=ht.len
      obtain ⟨c,s3,e5,hc,hs3⟩:=K8 (n:=n) (k:=4) hs2 (by omega) (by omega) (by omega)
      rw [em,e3,A0,e5,A0,A3 (by rw [QO];simp only [ZI];omega),ZO,wl _ (by rw [ZI];omega),ZI]
      exact ⟨s3,_,rfl,.pow q _ t c (by omega) ht,hs3.up (by omega)⟩
    . rw [beq_eq_false_iff_ne.2 h8];simp only [QU];rw [My,A0]
      obtain ⟨v,s2,e3,hv,hs2⟩:=K8 (n:=n) (k:=W (5+(if dv=true then 1 else 0))) hs1 (by omega) (by rw [A8 (by split <;> omega) (by split <;> omega)];split <;> omega) (by rw [A8 (by split <;> omega) (by split <;> omega)];split <;> omega)
      have hv6:0<=v/\v<6:=by
       rw [A8 (by split <;> omega) (by split <;> omega)] at hv
       refine ⟨hv.1,?_⟩;have:=hv.2;split at this <;> omega
      rw [e3,A0,A3 (by simp [hv6]),A3 (by rw [QO];omega)]
      obtain ⟨s3,t,e5,ht,hs3⟩:=Rk hdim d q (n:=n) (dv:=dv) (nodes:=nodes) hq1 (by omega) (by omega) hs2 (by omega) (by omega)
      have hlt:=ht.len;rw [e5,A0]
      obtain ⟨s4,u,e6,hu,hs4⟩:=Rk hdim d q (n:=n) (dv:=dv) (nodes:=nodes++t) hq1 (by omega) (by omega) hs3 (by omega) (by rw [ZI];omega)
      have hlu:=hu.len
      rw [e6,A0,A3 (by rw [QO];simp only [ZI];omega),wl _ (by rw [ZI];omega),wl _ (by simp only [ZI];omega)]
      refine ⟨s4,t++u++[([(3:Int),3,4,5,5,6].getD v.toNat 0,((nodes.length+t.length:Nat):Int)-1,((nodes.length+t.length+u.length:Nat):Int)-1,0)],?_,.bin q _ t u _ (B6r hv6) ht (by rw [<- ZI];exact hu),hs4.up (by omega)⟩
      simp only [ZI,ZO,Qax]

theorem B8n {n:Nat} {l:List Int} {dim:Int} {dv:Bool} (hn:5<=n) (h:∀ x ∈ l,0<=x/\x<=255) (hl:l.length<=1048576) (hdim:1<=dim/\dim<=4) :
  ∃ e r,f20 n l dim dv=some e/\Be dim r 0 e/\r<=4:=by
 unfold f20 A91 Azf;rw [A0]
 obtain ⟨c,s1,e1,hc,hs1⟩:=K8 (n:=n) (k:=3) (B6d h hl) (by omega) (by omega) (by omega)
 rw [e1,A0]
 have hw:W (2+c)=(((2+c).toNat:Nat):Int):=by rw [A8 (by omega) (by omega)];omega
 have h4:(4:Int) ^ (2+c).toNat<=4 ^ 4:=by
  have:=XP (n:=4) (by omega) (show (2+c).toNat<=4 by omega)
  exact_mod_cast this
 have h2:=XP (n:=2) (by omega) (show (2+c).toNat<=4 by omega)
 have e44:(4:Int) ^ 4=256:=by decide
 obtain ⟨s2,t,e2,ht,_⟩:=Rk hdim n (2+c).toNat (n:=n) (dv:=dv) (nodes:=[]) (by omega) (by omega) (by omega) hs1 (by omega) (by simp only [XI];omega)
 have hlt:=ht.len;rw [hw];dsimp only
 rw [e2,A0,List.nil_append,A3 (by rw [decide_eq_true_eq];dsimp only;omega),A0]
 exact ⟨t,_,rfl,ht,by omega⟩

theorem Oy (x u w:Nat->Rat) (t:List Nd) (n:Nd) (l:List Q4):evs x u w (t++[n]) l=evs x u w t l++[Ay x u w (evs x u w t l) n]:=by rw [N2];rfl

theorem L4 {l:List Q4} {q:Q4} {k:Nat} (h:k=l.length):(l++[q]).getD k (Q4.cst 0)=q:=by subst h;simp [List.getD]

theorem Xd {l m:List Q4} {k:Nat} (h:k<l.length):(l++m).getD k (Q4.cst 0)=l.getD k (Q4.cst 0):=by simp [List.getD,ZB h]

def M0 (x u w:Nat->Rat) (t:List Nd) (l:List Q4) (j:Nat):Prop:=∀ i,i<=j->i<t.length->¬ Eo (evs x u w (t.take i) l) (t.getD i (0,0,0,0))

theorem M0.left {x u w:Nat->Rat} {t s:List Nd} {l:List Q4} {j:Nat} (h:M0 x u w (t++s) l j) {i:Nat} (hi:i<=j):M0 x u w t l i:=λk hk hlt=>by
 have:=h k (by omega) (by rw [ZI];omega)
 rwa [List.take_append_of_le_length (by omega),show (t++s).getD k (0,0,0,0)=t.getD k (0,0,0,0) by simp [List.getD,ZB hlt]] at this

theorem M0.right {x u w:Nat->Rat} {t s:List Nd} {l:List Q4} {j:Nat} (h:M0 x u w (t++s) l j) {i:Nat} (hi:t.length+i<=j):M0 x u w s (evs x u w t l) i:=λk hk hlt=>by
 have:=h (t.length+k) (by omega) (by rw [ZI];omega)
 rwa [List.take_append,show t.length+k-t.length=k by omega,YK (show t.length<=t.length+k by omega),N2,show (t++s).getD (t.length+k) (0,0,0,0)=s.getD k (0,0,0,0) by simp only [List.getD];rw [ZC (by omega),KO]] at this

theorem M0.last {x u w:Nat->Rat} {t:List Nd} {n:Nd} {l:List Q4} {j:Nat} (h:M0 x u w (t++[n]) l j) (hj:t.length<=j):¬ Eo (evs x u w t l) n:=by
 have:=h t.length hj (by simp)
 rwa [List.take_left' rfl,show (t++[n]).getD t.length (0,0,0,0)=n by simp [List.getD]] at this

def Mf:Nat->Nat
 | 0=>261
 | 1=>261
 | 2=>261 ^ 3
 | 3=>261 ^ 9
 | _=>2*(261 ^ 9*261 ^ 9)

theorem S2 {r:Nat} (hr:r<=3):1<=Mf r/\261<=Mf (r+1)/\Mf r<=Mf (r+1)/\2*(Mf r*Mf r)<=Mf (r+1)+(if r=0 then 1000000 else 0)/\(∀ p,p<=3->Mf (min r 2) ^ p<=Mf (r+1)+(if r=0 then 100000000 else 0)):=by
 have:r=0 \/ r=1 \/ r=2 \/ r=3:=by omega
 refine ⟨?_,?_,?_,?_,λp hp=>?_⟩
 . rcases this with rfl | rfl | rfl | rfl <;> decide
 . rcases this with rfl | rfl | rfl | rfl <;> decide
 . rcases this with rfl | rfl | rfl | rfl <;> decide
 . rcases this with rfl | rfl | rfl | rfl <;> decide
 . have hp:p=0 \/ p=1 \/ p=2 \/ p=3:=by omega
   rcases this with rfl | rfl | rfl | rfl <;> rcases hp with rfl | rfl | rfl | rfl <;> decide

theorem Be.rpos {dim:Int} {r k:Nat} {t:List Nod} (h:Be dim r k t):1<=r:=by cases h <;> omega

theorem Be.frq {dim:Int} {x u w:Nat->Rat} (hv:∀ i:Nat,(i:Int)<dim->C6 ⟨x i,u i,w i,0⟩ 261) {r k:Nat} {t:List Nod} (h:Be dim r k t):r<=4->∀ l:List Q4,l.length=k ->
  ∀ j,j<t.length->M0 x u w t l j->C6 ((evs x u w t l).getD (k+j) (Q4.cst 0)) (Mf r):=by
 induction h with
 | num r k c h =>
  intro hr l hl j hj _
  obtain rfl:j=0:=by simp at hj;omega
  show C6 ((l++[Ay x u w l (1,0,0,c)]).getD (k+0) (Q4.cst 0)) _
  rw [L4 (by omega)]
  have:=(S2 (r:=r) (by omega)).2.1
  unfold Ay;rw [QJ rfl]
  exact (C6.cst c).mono (by omega)
 | var r k v h =>
  intro hr l hl j hj _
  obtain rfl:j=0:=by simp at hj;omega
  show C6 ((l++[Ay x u w l (2,0,0,v)]).getD (k+0) (Q4.cst 0)) _
  rw [L4 (by omega)]
  have:=(S2 (r:=r) (by omega)).2.1
  unfold Ay
  rw [QH (by simp),QJ rfl]
  exact (hv v.toNat (by omega)).mono this
 | neg r k t h ih =>
  intro hr l hl j hj hf;have hp:=h.pos
  have hm:=(S2 (r:=r) (by omega)).2.2.1
  rw [Oy]
  have hlen:(evs x u w t l).length=k+t.length:=by rw [Gj,hl]
  rcases ZV j t.length with hj' | hj'
  . rw [Xd (by omega)]
    exact (ih (by omega) l hl j hj' (hf.left (QZ _))).mono hm
  . obtain rfl:j=t.length:=by simp at hj;omega
    rw [L4 (by omega)]
    have h1:=ih (by omega) l hl (t.length-1) (by omega) (hf.left (by omega))
    unfold Ay
    simp only [show ¬ ((7:Int)=1) by omega,show ¬ ((7:Int)=2) by omega,show ¬ ((7:Int)=3) by omega,show ¬ ((7:Int)=4) by omega,show ¬ ((7:Int)=5) by omega,show ¬ ((7:Int)=6) by omega,if_false,if_true]
    rw [C4 hp];exact (h1.mono hm).neg
 | pow r k t p hp0 h ih =>
  intro hr l hl j hj hf;have hp:=h.pos;have hr1:=h.rpos
  have hm:=(S2 (r:=r) (by omega)).2.2
  have hmm:Mf (min r 2)<=Mf (r+1):=by
   have:=hm.2.2 1 (by omega)
   rw [QH (by omega),Nat.pow_one] at this
   exact this
  rw [Oy]
  have hlen:(evs x u w t l).length=k+t.length:=by rw [Gj,hl]
  rcases ZV j t.length with hj' | hj'
  . rw [Xd (by omega)]
    exact (ih (by omega) l hl j hj' (hf.left (QZ _))).mono hmm
  . obtain rfl:j=t.length:=by simp at hj;omega
    rw [L4 (by omega)]
    have h1:=ih (by omega) l hl (t.length-1) (by omega) (hf.left (by omega))
    unfold Ay
    simp only [show ¬ ((8:Int)=1) by omega,show ¬ ((8:Int)=2) by omega,show ¬ ((8:Int)=3) by omega,show ¬ ((8:Int)=4) by omega,show ¬ ((8:Int)=5) by omega,show ¬ ((8:Int)=6) by omega,show ¬ ((8:Int)=7) by omega,if_false]
    rw [C4 hp];refine (h1.pow p.toNat).mono ?_
    have:=hm.2.2 p.toNat (by omega)
    rw [QH (by omega)] at this
    exact this
 | bin r k t s op ho h1 h2 ih1 ih2 =>
  intro hr l hl j hj hf;have hp1:=h1.pos;have hp2:=h2.pos;have hr1:=h1.rpos
  have hm:=(S2 (r:=r) (by omega))
  have hm2:2*(Mf r*Mf r)<=Mf (r+1):=by have:=hm.2.2.2.1;rw [QH (by omega)] at this;exact this
  rw [Oy]
  have hlt:(evs x u w t l).length=k+t.length:=by rw [Gj,hl]
  have hlen:(evs x u w (t++s) l).length=k+t.length+s.length:=by rw [Gj,hl,ZI];omega
  have e2:evs x u w (t++s) l=evs x u w s (evs x u w t l):=N2 x u w t s l
  have at1:∀ i,i<t.length->M0 x u w t l i->C6 ((evs x u w (t++s) l).getD (k+i) (Q4.cst 0)) (Mf r):=λi hi hfi=>by
   rw [e2,Aa5 x u w s _ _ (by omega)]
   exact ih1 (by omega) l hl i hi hfi
  have at2:∀ i,i<s.length->M0 x u w s (evs x u w t l) i->C6 ((evs x u w (t++s) l).getD (k+t.length+i) (Q4.cst 0)) (Mf r):=λi hi hfi=>by
   rw [e2]
   exact ih2 (by omega) (evs x u w t l) hlt i hi hfi
  rcases ZV j (t.length+s.length) with hj' | hj'
  . rw [Xd (by omega)]
    have hfl:=hf.left (QZ _);rcases ZV j t.length with hj1 | hj1
    . exact (at1 j hj1 (hfl.left (QZ _))).mono hm.2.2.1
    . have:=at2 (j-t.length) (by omega) (hfl.right (by omega))
      rw [show k+t.length+(j-t.length)=k+j by omega] at this
      exact this.mono hm.2.2.1
  . obtain rfl:j=t.length+s.length:=by simp at hj;omega
    rw [L4 (by omega)]
    have hfl:=hf.left (QZ _)
    have ha:=at1 (t.length-1) (by omega) (hfl.left (by omega))
    have hb:=at2 (s.length-1) (by omega) (hfl.right (by omega))
    have hbad:=hf.last (by rw [ZI];exact QZ _)
    have hone:=hm.1;unfold Eo at hbad;unfold Ay;simp only [C4 hp1,C4 hp2] at hbad ⊢
    have hmul:Mf r*Mf r<=Mf (r+1):=by omega
    have:op=3 \/ op=4 \/ op=5 \/ op=6:=by omega
    rcases this with rfl | rfl | rfl | rfl
    . simp only [show ¬ ((3:Int)=1) by omega,show ¬ ((3:Int)=2) by omega,if_false,if_true]
      exact (ha.add hb).mono hm2
    . simp only [show ¬ ((4:Int)=1) by omega,show ¬ ((4:Int)=2) by omega,show ¬ ((4:Int)=3) by omega,if_false,if_true]
      exact (ha.add hb.neg).mono hm2
    . simp only [show ¬ ((5:Int)=1) by omega,show ¬ ((5:Int)=2) by omega,show ¬ ((5:Int)=3) by omega,show ¬ ((5:Int)=4) by omega,if_false,if_true]
      exact (ha.mul hb).mono hmul
    . simp only [show ¬ ((6:Int)=1) by omega,show ¬ ((6:Int)=2) by omega,show ¬ ((6:Int)=3) by omega,show ¬ ((6:Int)=4) by omega,show ¬ ((6:Int)=5) by omega,if_false,if_true]
      exact (ha.mul (hb.inv λh0=>hbad ⟨rfl,h0⟩)).mono hmul

theorem Bck {r:Nat} (hr:r<=4):Mf r<=Mf 4:=by
 have:r=0 \/ r=1 \/ r=2 \/ r=3 \/ r=4:=by omega
 rcases this with rfl | rfl | rfl | rfl | rfl <;> decide

theorem Hb.sz40 {y:Rat} (h:Hb y (6*(Mf 4*Mf 4*Mf 4))):Sz y 40:=by
 have hb:6*(Mf 4*Mf 4*Mf 4)<10000 ^ 40:=by decide +kernel
 exact ⟨Cx (JN h.1 hb),Cx (JN h.2 hb)⟩

theorem Be.short {dim:Int} {x u w:Nat->Rat} (hv:∀ i:Nat,(i:Int)<dim->C6 ⟨x i,u i,w i,0⟩ 261) {r:Nat} {t:List Nod} (h:Be dim r 0 t) (hr:r<=4) {j:Nat} (hj:j<t.length) (hf:M0 x u w t [] j) :
  Sz ((evs x u w t []).getD j (Q4.cst 0)).f 40/\Sz ((evs x u w t []).getD j (Q4.cst 0)).a 40/\Sz ((evs x u w t []).getD j (Q4.cst 0)).v 40/\Sz ((evs x u w t []).getD j (Q4.cst 0)).c 40:=by
 have h1:=(h.frq hv hr [] rfl j hj hf).mono (Bck hr);rw [YM] at h1;obtain ⟨a,b,c,d⟩:=h1.sizes;exact ⟨a.sz40,b.sz40,c.sz40,d.sz40⟩

def Lz (x:Nat->Rat) (t:List Nd) (i:Nat):Prop:=Eo (evs x (λ_=>0) (λ_=>0) (t.take i) []) (t.getD i (0,0,0,0))

def E9 (x:Nat->Rat) (t:List Nd):Prop:=∃ i,i<t.length/\Lz x t i

def Sz4 (q:Q4):Prop:=Sz q.f 40/\Sz q.a 40/\Sz q.v 40/\Sz q.c 40

def V7 (x u w:Nat->Rat) (t:List Nd):Prop:=∀ j,j<t.length->(∀ i,i<=j->¬ Lz x t i)->Sz4 ((evs x u w t []).getD j (Q4.cst 0))

theorem Aae {x u w:Nat->Rat} {t:List Nd} {i:Nat}:Eo (evs x u w (t.take i) []) (t.getD i (0,0,0,0)) ↔ Lz x t i:=by
 unfold Lz Eo;rw [Anl x u w (λ_=>0) (λ_=>0)]

theorem Be.all {dim:Int} {x u w:Nat->Rat} (hv:∀ i:Nat,(i:Int)<dim->C6 ⟨x i,u i,w i,0⟩ 261) {r:Nat} {t:List Nod} (h:Be dim r 0 t) (hr:r<=4):V7 x u w t:=λj hj hf =>
 h.short hv hr hj λi hi _ hb=>hf i hi (Aae.1 hb)

theorem Ae7 {t pre r:List Nd} {n:Nd} (h:t=pre++n::r):t.take pre.length=pre/\t.getD pre.length (0,0,0,0)=n/\pre.length<t.length:=by
 subst h
 refine ⟨by simp,by simp [List.getD],by simp⟩

theorem Hz {x:Rat} (h:Sz x 40):Bn x=true:=Nm.2 h

theorem B31 {q:Q4} (h:Sz4 q):Ir q=true:=by unfold Ir;rw [Hz h.1,Hz h.2.1,Hz h.2.2.1,Hz h.2.2.2];rfl

open Classical in
theorem Amv {fit:Q4->Bool} (hfit:∀ q,Sz4 q->fit q=true) {x u w:Nat->Rat} {t:List Nd} (hs:V7 x u w t):∀ (ns pre:List Nd),t=pre++ns->(∀ i,i<pre.length->¬ Lz x t i) ->
  Vu fit x u w ns (evs x u w pre [])=if E9 x t then .inr 10 else .inl (evs x u w t [])
 | [],pre,h,hb=>by
  rw [XN] at h;subst h;rw [QH (λ⟨i,hi,hbi⟩=>hb i hi hbi)];rfl
 | n::r,pre,h,hb=>by
  obtain ⟨t1,t2,t3⟩:=Ae7 h
  have e1:Eo (evs x u w pre []) n ↔ Lz x t pre.length:=by rw [<- Aae (u:=u) (w:=w),t1,t2]
  have e2:(evs x u w t []).getD pre.length (Q4.cst 0)=Ay x u w (evs x u w pre []) n:=by rw [Awv x u w t t3,t1,t2]
  unfold Vu;by_cases hbad:Lz x t pre.length
  . rw [QJ (e1.2 hbad),QJ ⟨_,t3,hbad⟩]
  . rw [QH (λhh=>hbad (e1.1 hh))]
    have hle:∀ i,i<=pre.length->¬ Lz x t i:=λi hi=>by
     rcases ZV i pre.length with h1 | h1
     . exact hb i h1
     . obtain rfl:i=pre.length:=by omega
       exact hbad
    have hfq:=hfit _ (hs pre.length t3 hle);rw [e2] at hfq;rw [QJ hfq,<- Oy]
    exact Amv hfit hs r (pre++[n]) (by rw [h];simp) (λi hi=>hle i (by simp at hi;omega))

open Classical in
theorem Amu {A:Nat} {x w:Nat->Rat} {t:List Nd} (hs:∀ i,V7 x (Ar A i) w t):∀ (ns pre:List Nd),t=pre++ns->(∀ i,i<pre.length->¬ Lz x t i) ->
  Vt A x w ns (λi=>evs x (Ar A i) w pre [])=if E9 x t then .inr 10 else .inl λi=>evs x (Ar A i) w t []
 | [],pre,h,hb=>by
  rw [XN] at h;subst h;rw [QH (λ⟨i,hi,hbi⟩=>hb i hi hbi)];rfl
 | n::r,pre,h,hb=>by
  obtain ⟨t1,t2,t3⟩:=Ae7 h
  have e1:Eo (evs x (Ar A 0) w pre []) n ↔ Lz x t pre.length:=by rw [<- Aae (u:=Ar A 0) (w:=w),t1,t2]
  have e2:∀ i,(evs x (Ar A i) w t []).getD pre.length (Q4.cst 0)=Ay x (Ar A i) w (evs x (Ar A i) w pre []) n:=λi=>by rw [Awv x (Ar A i) w t t3,t1,t2]
  unfold Vt;by_cases hbad:Lz x t pre.length
  . rw [QJ (e1.2 hbad),QJ ⟨_,t3,hbad⟩]
  . rw [QH (λhh=>hbad (e1.1 hh))]
    have hle:∀ i,i<=pre.length->¬ Lz x t i:=λi hi=>by
     rcases ZV i pre.length with h1 | h1
     . exact hb i h1
     . obtain rfl:i=pre.length:=by omega
       exact hbad
    have hfq:∀ i,Sz4 (Ay x (Ar A i) w (evs x (Ar A i) w pre []) n):=λi=>by rw [<- e2 i];exact hs i pre.length t3 hle
    have hN:Nn A (λi=>Ay x (Ar A i) w (evs x (Ar A i) w pre []) n)=true:=by
     unfold Nn;rw [Hz (hfq 0).1,Hz (hfq 0).2.2.1,ZY,ZY,QF,A4y,A4y];exact ⟨λi _=>Hz (hfq i).2.1,λi _=>Hz (hfq i).2.2.2⟩
    rw [QJ hN]
    have:=Amu hs r (pre++[n]) (by rw [h];simp) (λi hi=>hle i (by simp at hi;omega))
    simp only [Oy] at this;exact this

theorem Be.allP {dim:Int} (hdim:dim<=4) {r:Nat} {t:List Nod} (h:Be dim r 0 t) (hr:r<=5):Go.Ev.allP t dim/\1<=t.length/\t.length<=60:=by
 have he:=h.expr hdim hr
 have hd:∀ {r k:Nat} {t:List Nod},Be dim r k t->∀ x ∈ t,x.1=2->x.2.2.2<dim:=by
  intro r k t h
  induction h with
  | num r k c h=>intro x hx;simp at hx;subst hx;simp
  | var r k v h=>intro x hx;simp at hx;subst hx;intro _;exact h.2
  | neg r k t h ih=>intro x hx;rcases QD.1 hx with hx | hx;exact ih x hx;simp at hx;subst hx;simp
  | pow r k t p hp h ih=>intro x hx;rcases QD.1 hx with hx | hx;exact ih x hx;simp at hx;subst hx;simp
  | bin r k t u op ho h1 h2 ih1 ih2 =>
   intro x hx;rcases QD.1 hx with hx | hx
   . rcases QD.1 hx with hx | hx
     . exact ih1 x hx
     . exact ih2 x hx
   . simp at hx;subst hx;intro h2;simp at h2;omega
 have hdx:=hd h;obtain ⟨hl,bs,ds,hrun,_⟩:=he;refine ⟨λk hk=>⟨?_,λh2=>?_⟩,hl.1,hl.2⟩
 . have:=A59 t [] [] _ hrun k hk;simpa using this
 . refine hdx _ ?_ h2;simp [List.getD,QM hk]

theorem B10 {X V:List Rat} (hX:Bv X 10 9) (hV:Bv V 10 9) {δ:Int} (hδ:δ.natAbs<=1) {i:Nat} (hi:i<X.length) (hi2:i<V.length):C6 ⟨Ae X i,(δ:Rat),Ae V i,0⟩ 261:=by
 have h1:=hX.get hi;have h2:=hV.get hi2;exact C6.var (A:=10) (B:=9) (C:=10) (D:=9) h1.1 h1.2 h2.1 h2.2 hδ

theorem Be.vars {dim:Int} {r k:Nat} {t:List Nod} (h:Be dim r k t):∀ x ∈ t,x.1=2->0<=x.2.2.2/\x.2.2.2<dim:=by
 induction h with
 | num r k c h=>intro x hx;simp at hx;subst hx;simp
 | var r k v h=>intro x hx;simp at hx;subst hx;intro _;exact h
 | neg r k t h ih=>intro x hx;rcases QD.1 hx with hx | hx;exact ih x hx;simp at hx;subst hx;simp
 | pow r k t p hp h ih=>intro x hx;rcases QD.1 hx with hx | hx;exact ih x hx;simp at hx;subst hx;simp
 | bin r k t u op ho h1 h2 ih1 ih2 =>
  intro x hx;rcases QD.1 hx with hx | hx
  . rcases QD.1 hx with hx | hx
    . exact ih1 x hx
    . exact ih2 x hx
  . simp at hx;subst hx;intro h2;simp at h2;omega

theorem Amx {d:Int} (hd:d<=4):∀ (l:List Nod) (s:Int),s<=d->(∀ x ∈ l,x.1=2->0<=x.2.2.2/\x.2.2.2<d)->Oz s l<=d
 | [],s,hs,_=>hs
 | x::l,s,hs,h=>by
  unfold Oz;rw [List.foldl_cons];refine Amx hd l _ ?_ λy hy=>h y (ZE _ hy);split
  . rename_i h2;have:=h x (XZ ..) h2
    rw [A8 (by omega) (by omega)];omega
  . exact hs

structure D4 (m:Nat) (e:List Nod) (X V:List Rat):Prop where
 m1:1<=m
 m4:m<=4
 tree:∃ r,Be (m:Int) r 0 e/\r<=4
 xl:X.length=m
 vl:V.length=m
 xb:Bv X 10 9
 vb:Bv V 10 9

theorem Aal {x:List Rat} (h:Bv x 10 9):Sv x 40:=h.sz (by decide) (by decide)

theorem D4.allP {m:Nat} {e:List Nod} {X:List Rat} {V:List Rat} (h:D4 m e X V):Go.Ev.allP e (X.length:Int)/\1<=e.length/\e.length<=60:=by
 obtain ⟨r,h1,h2⟩:=h.tree;rw [h.xl]
 exact h1.allP (by have:=h.m4;omega) (by omega)

theorem D4.ask {m:Nat} {e:List Nod} {X:List Rat} {V:List Rat} (h:D4 m e X V):V0 e (vq X)=0:=by
 obtain ⟨r,h1,h2⟩:=h.tree;have hm:=h.m1;have hm4:=h.m4;have hl:=h.xl;unfold V0
 rw [QH (by rw [Aw];omega),QJ ⟨Lk.2 (h1.expr (by omega) (by omega)),Vx (Aal h.xb) (by omega) (by omega)⟩,QH (by rw [Aw,hl];have:=Amx (d:=(m:Int)) (by omega) e 0 (by omega) h1.vars;omega)]

theorem D4.short {m:Nat} {e:List Nod} {X:List Rat} {V:List Rat} (h:D4 m e X V) {u w:Nat->Rat} (hu:∀ i,i<m->∃ δ:Int,δ.natAbs<=1/\u i=(δ:Rat)) (hw:∀ i,i<m->w i=Ae V i \/ w i=0):V7 (Ae X) u w e:=by
 obtain ⟨r,h1,h2⟩:=h.tree;refine h1.all (λi hi=>?_) h2
 have hi:i<m:=by omega
 obtain ⟨δ,d1,d2⟩:=hu i hi
 have hx:=h.xb.get (i:=i) (by rw [h.xl];exact hi)
 rw [d2];rcases hw i hi with hw | hw
 . rw [hw]
   exact B10 h.xb h.vb d1 (by rw [h.xl];exact hi) (by rw [h.vl];exact hi)
 . rw [hw]
   exact (C6.var (w:=0) (A:=10) (B:=9) (C:=0) (D:=1) hx.1 hx.2 (by decide) (by decide) d1).mono (by omega)

theorem Aa7 (A i k:Nat):∃ δ:Int,δ.natAbs<=1/\Ar A i k=(δ:Rat):=by
 unfold Ar;split
 . exact ⟨1,by decide,by simp⟩
 . exact ⟨0,by decide,by simp⟩

def Ch (x u w:Nat->Rat) (e:List Nod):Q4:=(evs x u w e []).getD (e.length-1) (Q4.cst 0)

theorem Ayj {x u w:Nat->Rat} {e:List Nod} (h:V7 x u w e) (h1:1<=e.length) (hb:¬ E9 x e):Sz4 (Ch x u w e):=h _ (by omega) λi hi hbi=>hb ⟨i,by omega,hbi⟩

open Classical in
theorem D4.slopC {m:Nat} {e:List Nod} {X:List Rat} {V:List Rat} (h:D4 m e X V):Go.Ev.slopC e (vq X) (vq V)=0:=by
 have hm:=h.m1;have hm4:=h.m4;have hl:=h.xl;have hv:=h.vl;unfold Go.Ev.slopC Ane
 rw [QH (by rw [Aw,Aw];omega),QH (by rw [h.ask];simp),QJ (Vx (Aal h.vb) (by omega) (by omega)),QJ (by rw [Aw,Aw];omega)]

open Classical in
theorem Rn {n:Nat} {α:Type} {s1:List Rt} {g:Nat->Rat} {N:Nat} (hN:N<=4096) (hg:∀ i,i<N->f121 n (i:Int) s1=some (rq (g i))/\Sz (g i) 1000000) {k0:List Rt->Option α}:∀ (m i:Nat),i<=N->N<i+m ->
  Kp n m s1 (N:Int) (i:Int) (vq ((List.range i).map g)) k0=k0 (vq ((List.range N).map g))
 | 0,i,hi,hm=>by omega
 | m+1,i,hi,hm=>by
  rw [Ad8];unfold Ow;rw [QK];by_cases h:i<N
  . rw [QJ (by omega),(hg i h).1,A0,A8q (hg i h).2,A0,A3 (by simp [vq];omega)]
    have e:vq ((List.range i).map g)++[rq (g i)]=vq ((List.range (i+1)).map g):=by simp [vq,KB]
    rw [e,A8 (x:=(i:Int)+1) (by omega) (by omega)]
    exact Rn hN hg m (i+1) (by omega) (by omega)
  . obtain rfl:i=N:=by omega
    rw [QH (by omega)]

open Classical in
open Classical in
theorem B7r {n:Nat} {A:Nat} {g:Nat->Rat} (hA:A<=100) (hg:∀ i,i<A->Sz (g i) 1000000) (hn:1048577<=n):f69 n (rA A g)=some (vq ((List.range A).map g)):=by
 unfold f69 A4n;rw [Ax]
 have:=Rn (n:=n) (s1:=rA A g) (g:=g) (N:=A) (by omega) (λi hi=>⟨by
  unfold f121
  rw [A3 (by rw [Ax];simp;omega),QP,Bi hi],hg i hi⟩) (k0:=λz=>some z) n 0 (by omega) (by omega)
 rw [show vq ((List.range 0).map g)=[] from rfl] at this;rw [show ((0:Nat):Int)=0 from rfl] at this;rw [this,A0]

def M3 (m i:Nat):List Rat:=(List.replicate m 0).set i 1

open Classical in
theorem Z7 {m i:Nat}:Ae (M3 m i)=Ar m i:=by
 funext k;unfold Ae M3 Ar;simp only [List.getD,List.getElem?_set,XQ,List.length_replicate];by_cases h1:k=i/\i<m
 . obtain ⟨rfl,h2⟩:=h1;simp [h2]
 . rw [QH h1];by_cases h2:i=k
   . subst h2;have:¬ i<m:=λh=>h1 ⟨rfl,h⟩;simp [this]
   . rw [QH h2];split <;> rfl

open Classical in
theorem Aks {x:List Rat} {i:Nat} {a:Rat}:(vq x).set i (rq a)=vq (x.set i a):=by simp [vq,List.map_set]

open Classical in
theorem A55 {n m i:Nat} (hm:m<=100) (hi:i<m) (hn:68719476736<=n):f81 n (m:Int) (i:Int)=some (vq (M3 m i)):=by
 unfold f81
 rw [Ay2 (by omega) (by omega),A0,sW1 hn,A0,A3 (by simp;omega),A3 (by simp;omega),QP,Aks]
 rfl

open Classical in
theorem Ass {n m i:Nat} (hm:m<=100) (hi:i<m) (hn:68719476736<=n):f79 n (m:Int) (i:Int)=some (vq (M3 m i)):=by
 unfold f79
 rw [Afd (by omega) (by omega),A0,iW1 hn,A0,A3 (by simp;omega),A3 (by simp;omega),QP,Aks]
 rfl

open Classical in
theorem Ae2 (m i:Nat):(M3 m i).length=m:=by simp [M3]

open Classical in
theorem Ann (g:Nat->Rat) (i:Nat):vq ((List.range i).map g)++[rq (g i)]=vq ((List.range (i+1)).map g):=by simp [vq,KB]

open Classical in
theorem Arm {n:Nat} {m:Nat} {e:List Nod} {X:List Rat} {V:List Rat} (h:D4 m e X V) (hn:68719476736<=n) {W0:List Rat} (hw:W0.length=m) (hwv:∀ i,i<m->Ae W0 i=Ae V i \/ Ae W0 i=0) (i:Nat) :
  f126 n e (vq X) (vq (M3 m i)) (vq W0)=some (if E9 (Ae X) e then (((false,[],[]),(false,[],[]),(false,[],[]),(false,[],[])),10) else (S4 (Ch (Ae X) (Ar m i) (Ae W0) e),0)):=by
 obtain ⟨hp,h1,h60⟩:=h.allP
 rw [B2d hp h1 h60 (by rw [Ae2,h.xl]) (by rw [hw,h.xl]) hn,Z7]
 have hs:V7 (Ae X) (Ar m i) (Ae W0) e:=h.short (λk _=>Aa7 m i k) hwv
 have:=Amv (fit:=Ir) (λ_=>B31) hs e [] rfl (λi hi=>by simp at hi)
 rw [show evs (Ae X) (Ar m i) (Ae W0) [] []=[] from rfl] at this;rw [this];by_cases hb:E9 (Ae X) e
 . rw [QJ hb,QJ hb]
 . rw [QH hb,QH hb];rfl

theorem Ban {b:List Int} (hb:∀ x ∈ b,0<=x/\x<=255):∀ x ∈ [5]++b,0<=x/\x<=255:=λx hx=>by
 simp at hx;rcases hx with rfl | hx
 . omega
 . exact hb x hx

open Classical in
theorem B27 (m i:Nat):Bv (M3 m i) 10 9:=λa ha=>by
 have:a=0 \/ a=1:=by
  rcases JC ha with h | h
  . exact .inl (List.eq_of_mem_replicate h)
  . exact .inr h
 rcases this with rfl | rfl
 . exact ⟨by decide,by decide⟩
 . exact ⟨by decide,by decide⟩

open Classical in
theorem D4.unit {m:Nat} {e:List Nod} {X:List Rat} {V:List Rat} (h:D4 m e X V) (i:Nat):D4 m e X (M3 m i):=⟨h.m1,h.m4,h.tree,h.xl,Ae2 m i,h.xb,B27 m i⟩

def Hj (X:List Rat) (w:Nat->Rat) (e:List Nod) (m:Nat):List Rat:=(List.range m).map λk=>(Ch (Ae X) (Ar m k) w e).c

open Classical in
theorem I7 (X:List Rat) (w:Nat->Rat) (e:List Nod) (m:Nat):(Hj X w e m).length=m:=by simp [Hj]

open Classical in
theorem A4p {m:Nat} {e:List Nod} {X:List Rat} {V:List Rat} (h:D4 m e X V) (hb:¬ E9 (Ae X) e) (k:Nat):Sz4 (Ch (Ae X) (Ar m k) (Ae V) e):=Ayj (h.short (λj _=>Aa7 m k j) (w:=Ae V) (λ_ _=>.inl rfl)) h.allP.2.1 hb

open Classical in
theorem Ail {m:Nat} {e:List Nod} {X:List Rat} {V:List Rat} (h:D4 m e X V) (hb:¬ E9 (Ae X) e):Sv (Hj X (Ae V) e m) 40:=λa ha=>by
 obtain ⟨k,_,rfl⟩:=ZG.1 ha;exact (A4p h hb k).2.2.2

open Classical in
theorem A8i {n:Nat} {m:Nat} {e:List Nod} {X:List Rat} {V:List Rat} (h:D4 m e X V) (hn:68719476736<=n):f27 n e (vq X) (vq V)=some (if E9 (Ae X) e then ([],10) else (vq (Hj X (Ae V) e m),0)):=by
 obtain ⟨hp,h1,h60⟩:=h.allP;have hm:=h.m4;have hm1:=h.m1;unfold f27
 rw [Ani (by omega) (by omega),h.slopC,XM,QU,Aw,h.xl,B6y (V:=V) (A:=m) hp h1 h60 (by rw [h.vl,h.xl]) (by rw [h.vl];omega) (by omega) hn]
 have hs:∀ i,V7 (Ae X) (Ar m i) (Ae V) e:=λi=>h.short (λk _=>Aa7 m i k) (w:=Ae V) (λ_ _=>.inl rfl)
 have:=Amu (A:=m) hs e [] rfl (λi hi=>by simp at hi)
 rw [show (λi=>evs (Ae X) (Ar m i) (Ae V) [] [])=λ_=>[] from rfl] at this;rw [this];by_cases hb:E9 (Ae X) e
 . rw [QJ hb,QJ hb];rfl
 . rw [QH hb,QH hb,A0]
   show (bif ((0:Int) != 0) then _ else ob (f69 n (rA m λi=>(Ch (Ae X) (Ar m i) (Ae V) e).c)) _)=_
   rw [XM,QU,B7r (by omega) (λi _=>((A4p h hb i).2.2.2.mono (by omega))) (by omega),A0]
   rfl

open Classical in
theorem We {n:Nat} {m:Nat} {e:List Nod} {X:List Rat} {V:List Rat} {α:Type} (h:D4 m e X V) (hn:68719476736<=n) (hb:¬ E9 (Ae X) e) {k0:Int->List Rt->Option α} {k1:List Rt->Option α}:∀ (fu i:Nat),i<=m->m<i+fu ->
  A5z n fu (vq X) (vq V) (i:Int) e (vq ((List.range i).map λi=>(Ch (Ae X) (Ar m i) (Ae V) e).c)) k0 k1=k1 (vq (Hj X (Ae V) e m))
 | 0,i,hi,hf=>by omega
 | fu+1,i,hi,hf=>by
  have hm:=h.m4;have hl:=h.xl;have h1:=h.allP.2.1;rw [Afm];unfold Zj;rw [Aw,hl,QK];by_cases hlt:i<m
  . rw [QJ (by omega),A55 (by omega) hlt hn,A0,Arm h hn h.vl (λ_ _=>.inl rfl) i,QH hb,A0,XM,QU]
    show ob (f127 n (rq (Ch (Ae X) (Ar m i) (Ae V) e).c)) _=_
    rw [Bb0 (A4p h hb i).2.2.2 (by omega),A0,A3 (by simp;omega),Ann (λi=>(Ch (Ae X) (Ar m i) (Ae V) e).c) i,A8 (x:=(i:Int)+1) (by omega) (by omega)]
    exact We h hn hb fu (i+1) (by omega) (by omega)
  . obtain rfl:i=m:=by omega
    rw [QH (by omega)]
    rfl

open Classical in
theorem A1u {n:Nat} {m:Nat} {e:List Nod} {X:List Rat} {V:List Rat} (h:D4 m e X V) (hn:68719476736<=n):f80 n e (vq X) (vq V)=some (if E9 (Ae X) e then ([],10) else (vq (Hj X (Ae V) e m),0)):=by
 have hm:=h.m4;have hm1:=h.m1;have hl:=h.xl;unfold f80;by_cases hb:E9 (Ae X) e
 . rw [QJ hb]
   obtain ⟨n',rfl⟩:∃ n',n=n'+1:=⟨n-1,by omega⟩
   rw [Afm];unfold Zj
   rw [Aw,hl,QK,QJ (by omega),show (0:Int)=((0:Nat):Int) from rfl,A55 (by omega) (by omega) hn,A0,Arm h hn h.vl (λ_ _=>.inl rfl) 0,QJ hb]
   rfl
 . rw [QH hb]
   have:=We (α:=List Rt × Int) h hn hb (k0:=λz_5 z_6=>some (z_6,z_5)) (k1:=λz_7=>some (z_7,0)) n 0 (by omega) (by omega)
   rw [show ((0:Nat):Int)=0 from rfl,show vq ((List.range 0).map λi=>(Ch (Ae X) (Ar m i) (Ae V) e).c)=[] from rfl] at this;exact this

open Classical in
theorem B2b {n:Nat} {m:Nat} {e:List Nod} {X:List Rat} {V:List Rat} (h:D4 m e X V) (hn:68719476736<=n):f36 n e (vq X) (vq V)=some (if E9 (Ae X) e then ([],10) else (vq (Hj X (Ae V) e m),0)):=by
 have hm:=h.m4;have hm1:=h.m1;have hl:=h.xl;have hvl:=h.vl;have h60:=h.allP.2.2;unfold f36
 rw [QK,QH (by rw [Aw];omega),QK,QH (by rw [Aw];omega)]
 unfold f82
 rw [Alp (by omega) (by omega),A0,h.ask,XM,QU,Bd6 (Aal h.xb) (Aal h.vb) (by omega) (by omega) (by omega) (by omega),A0,A0,XM,QU,A1u h hn,A0]

def hessTo (X:List Rat) (e:List Nod) (m i:Nat):List Rat:=(List.range i).flatMap λj=>Hj X (Ar m j) e m

open Classical in
theorem hess_suc (X:List Rat) (e:List Nod) (m i:Nat):hessTo X e m (i+1)=hessTo X e m i++Hj X (Ar m i) e m:=by simp [hessTo,KB,List.flatMap_append]

open Classical in
theorem hess_len (X:List Rat) (e:List Nod) (m:Nat):∀ i,(hessTo X e m i).length=i*m
 | 0=>by simp [hessTo]
 | i+1=>by rw [hess_suc,ZI,hess_len X e m i,I7,JH]

open Classical in
theorem Aku (a b:List Rat):vq a++vq b=vq (a++b):=by simp [vq]

open Classical in
theorem hess_sv {m:Nat} {e:List Nod} {X:List Rat} {V:List Rat} (h:D4 m e X V) (hb:¬ E9 (Ae X) e) (i:Nat):Sv (hessTo X e m i) 40:=λa ha=>by
 obtain ⟨j,_,ha⟩:=List.mem_flatMap.1 ha;have:=Ail (h.unit j) hb;rw [Z7] at this;exact this a ha

open Classical in
theorem A1a {n:Nat} {m:Nat} {e:List Nod} {X:List Rat} {V:List Rat} {α:Type} (h:D4 m e X V) (hn:68719476736<=n) (hb:¬ E9 (Ae X) e) {k0:Int->Option α} {k1:List Rt->Option α}:∀ (fu i:Nat),i<=m->m<i+fu ->
  A66 n fu (vq X) (m:Int) (i:Int) e (vq (hessTo X e m i)) k0 k1=k1 (vq (hessTo X e m m))
 | 0,i,hi,hf=>by omega
 | fu+1,i,hi,hf=>by
  have hm:=h.m4;have hl:=h.xl;rw [Ag4];unfold Zv;rw [Aw,hl,QK];by_cases hlt:i<m
  . have hg:(i+1)*m<=m*m:=XF m hlt;have hmm:m*m<=4*4:=ZZ hm hm;rw [JH] at hg
    rw [QJ (by omega),Ass (by omega) hlt hn,A0,A8i (h.unit i) hn,QH hb,A0,XM,QU,Z7,A3 (by rw [Aw,Aw,hess_len,I7,QO];omega),Aku,<- hess_suc,A8 (x:=(i:Int)+1) (by omega) (by omega)]
    exact A1a h hn hb fu (i+1) (by omega) (by omega)
  . obtain rfl:i=m:=by omega
    rw [QH (by omega)]

open Classical in
theorem B76 {n:Nat} {m:Nat} {e:List Nod} {X:List Rat} {V:List Rat} (h:D4 m e X V) (hn:68719476736<=n):f34 n e (vq X)=some (if E9 (Ae X) e then ([],10) else (vq (hessTo X e m m),0)):=by
 have hm:=h.m4;have hm1:=h.m1;have hl:=h.xl;have h60:=h.allP.2.2;unfold f34
 rw [Alq (by omega) (by omega),A0,h.ask,XM,QU,Aw,hl]
 by_cases hb:E9 (Ae X) e
 . rw [QJ hb]
   obtain ⟨n',rfl⟩:∃ n',n=n'+1:=⟨n-1,by omega⟩
   rw [Ag4];unfold Zv
   rw [Aw,hl,QK,QJ (by omega),show (0:Int)=((0:Nat):Int) from rfl,Ass (by omega) (by omega) hn,A0,A8i (h.unit 0) hn,QJ hb]
   rfl
 . rw [QH hb]
   have:=A1a (α:=List Rt × Int) h hn hb (k0:=λz_4=>some ([],z_4)) (k1:=λz_5=>some (z_5,0)) n 0 (by omega) (by omega)
   rw [show ((0:Nat):Int)=0 from rfl,show vq (hessTo X e m 0)=[] from rfl] at this;exact this

open Classical in
theorem A0y {n:Nat} {m:Nat} {e:List Nod} {X:List Rat} {V:List Rat} {α:Type} (h:D4 m e X V) (hn:68719476736<=n) (hb:¬ E9 (Ae X) e) {k0:Int->List Rt->Option α} {k1:List Rt->Option α}:∀ (fu i:Nat),i<=m->m<i+fu ->
  A65 n fu (vq X) (i:Int) e (vq (hessTo X e m i)) k0 k1=k1 (vq (hessTo X e m m))
 | 0,i,hi,hf=>by omega
 | fu+1,i,hi,hf=>by
  have hm:=h.m4;have hl:=h.xl;rw [Ag2];unfold Zt;rw [Aw,hl,QK];by_cases hlt:i<m
  . have hg:(i+1)*m<=m*m:=XF m hlt;have hmm:m*m<=4*4:=ZZ hm hm;rw [JH] at hg
    rw [QJ (by omega),A55 (by omega) hlt hn,A0,A1u (h.unit i) hn,QH hb,A0,XM,QU,Z7,A3 (by rw [Aw,Aw,hess_len,I7,QO];omega),Aku,<- hess_suc,A8 (x:=(i:Int)+1) (by omega) (by omega)]
    exact A0y h hn hb fu (i+1) (by omega) (by omega)
  . obtain rfl:i=m:=by omega
    rw [QH (by omega)]

open Classical in
theorem B6i {n:Nat} {m:Nat} {e:List Nod} {X:List Rat} {V:List Rat} (h:D4 m e X V) (hn:68719476736<=n):f35 n e (vq X)=some (if E9 (Ae X) e then ([],10) else (vq (hessTo X e m m),0)):=by
 have hm:=h.m4;have hm1:=h.m1;have hl:=h.xl;have h60:=h.allP.2.2;unfold f35
 rw [QK,QH (by rw [Aw];omega),Alp (by omega) (by omega),A0,h.ask,XM,QU]
 by_cases hb:E9 (Ae X) e
 . rw [QJ hb]
   obtain ⟨n',rfl⟩:∃ n',n=n'+1:=⟨n-1,by omega⟩
   rw [Ag2];unfold Zt
   rw [Aw,hl,QK,QJ (by omega),show (0:Int)=((0:Nat):Int) from rfl,A55 (by omega) (by omega) hn,A0,A1u (h.unit 0) hn,QJ hb]
   rfl
 . rw [QH hb]
   have:=A0y (α:=List Rt × Int) h hn hb (k0:=λz_5 z_6=>some (z_6,z_5)) (k1:=λz_6=>some (z_6,0)) n 0 (by omega) (by omega)
   rw [show ((0:Nat):Int)=0 from rfl,show vq (hessTo X e m 0)=[] from rfl] at this;exact this

theorem Bcr {V:List Rat} (hV:V.length=2) (k:Nat):Ae V k=Ae V 0*Ar 2 0 k+Ae V 1*Ar 2 1 k+0*Ar 2 1 k:=by
 match V,hV with
 | [x,y],_ =>
  unfold Ae Ar
  match k with
  | 0=>simp [Rat.zero_add,JX]
  | 1=>simp [Rat.zero_add,JX]
  | k+2=>simp [Rat.zero_add,JX]

theorem hess2 (X:List Rat) (e:List Nod):hessTo X e 2 2=[(Ch (Ae X) (Ar 2 0) (Ar 2 0) e).c,(Ch (Ae X) (Ar 2 1) (Ar 2 0) e).c,(Ch (Ae X) (Ar 2 0) (Ar 2 1) e).c,(Ch (Ae X) (Ar 2 1) (Ar 2 1) e).c]:=rfl

theorem Bcv {a b c d:Rat} {V:List Rat} (hV:V.length=2):mvR [a,b,c,d] V=[a*Ae V 0+b*Ae V 1,c*Ae V 0+d*Ae V 1]:=by
 match V,hV with
 | [x,y],_=>simp [mvR,Q8,Bk,Ae,Rat.zero_add,KB]

theorem Bb7 {a b c d:Rat}:A8d [a,b,c,d] 2=[a,c,b,d]:=by
 simp [A8d,KB]

open Classical in
theorem Bbz {n:Nat} {a b:List Int} (ha:∀ x ∈ a,0<=x/\x<=255) (hb:∀ x ∈ b,0<=x/\x<=255) (hn:68719476736<=n):f6 n a b=some true:=by
 unfold f6;by_cases hl:(a.length:Int)>1048576
 . rw [QX hl];rfl
 rw [QR hl,QU];by_cases hl2:(b.length:Int)>1048576
 . rw [QX hl2];rfl
 rw [QR hl2,QU]
 obtain ⟨e,r,e1,hd,hr⟩:=B8n (n:=n) (dim:=2) (dv:=true) (by omega) ha (by omega) (by omega)
 rw [e1,A0]
 obtain ⟨X,e2,hX,bX⟩:=B8e (n:=n) (k:=2) hb (by omega) (by omega) (by omega)
 have e2:f21 n b 2=some (vq X):=e2
 rw [e2,A0,A3 (by simp;omega)]
 have hl3:([5]++b).length<=1048577:=by simp;omega
 obtain ⟨V,e3,hV,bV⟩:=B3e (n:=n) (k:=2) (Ban hb) hl3 (by omega) (by omega)
 have e3:f21 n ([5]++b) 2=some (vq V):=e3;rw [e3,A0]
 have D:D4 2 e X V:=⟨by omega,by omega,⟨r,hd,hr⟩,hX,hV,bX,bV⟩
 have h1:=D.allP.2.1
 have hz25:f25 n [] []=some true:=Wz (x:=[]) (y:=[]) rfl (by simp) (λa ha=>by simp at ha) (by omega)
 rw [B76 D hn,A0,B6i D hn,A0,A8i D hn,A0,B2b D hn,A0];by_cases hbd:E9 (Ae X) e
 . simp only [QJ hbd,XM,QU,hz25,A0,ZS];rfl
 . simp only [QH hbd];have sH:=hess_sv D hbd 2;have sC:=Ail D hbd;have hHl:=hess_len X e 2 2;have sym:∀ u w,(Ch (Ae X) u w e).c=(Ch (Ae X) w u e).c:=λu w=>(B2e (Ae X) u w e (e.length-1)).2
   have lin:∀ u,(Ch (Ae X) u (Ae V) e).c=Ae V 0*(Ch (Ae X) u (Ar 2 0) e).c+Ae V 1*(Ch (Ae X) u (Ar 2 1) e).c:=λu=>by
    have:=(B2f (Ae X) u (Ar 2 0) (Ar 2 1) (Ar 2 1) (Ae V) (Ae V 0) (Ae V 1) 0 (Bcr hV) e (e.length-1)).2;unfold Ch;rw [this];grind
   have hmv:mvR (hessTo X e 2 2) V=Hj X (Ae V) e 2:=by
    rw [hess2,Bcv hV];show _=[(Ch (Ae X) (Ar 2 0) (Ae V) e).c,(Ch (Ae X) (Ar 2 1) (Ae V) e).c];rw [lin (Ar 2 0),lin (Ar 2 1),sym (Ar 2 1) (Ar 2 0)];congr 1
    . grind
    . congr 1;grind
   have hmir:A8d (hessTo X e 2 2) 2=hessTo X e 2 2:=by
    rw [hess2,Bb7,sym (Ar 2 1) (Ar 2 0)]
   rw [XM,QU,Wz rfl (by omega) (λa ha=>(sH a ha).mono (by omega)) (by omega),A0,QX rfl,ZS,QU,QU,Wz rfl (by rw [I7];omega) (λa ha=>(sC a ha).mono (by omega)) (by omega),A0,QX rfl,ZS,QU,QU,QU]
   have hmvc:mvC (vq (hessTo X e 2 2)) (vq V)=0:=by
    unfold mvC
    rw [show Im [vq (hessTo X e 2 2),vq V]=false by unfold Im;simp [hHl,hV],QH (by simp),QJ]
    rw [QF]
    refine ⟨Vx (Aal bV) (by omega) (by omega),?_⟩
    unfold Qo;rw [Aw,Aw,hHl,hV];simp only [QF]
    refine ⟨⟨by decide,by decide⟩,QG.2 λr hr=>?_⟩
    obtain ⟨y,hy,rfl⟩:=ZG.1 hr;exact Aem (sH y hy)
   unfold f37
   rw [B7l (by omega),A0,hmvc,XM,QU,Bb9 sH (Aal bV) (by rw [hHl,hV]) (by omega) (by omega),A0,hmv,Asr (by rw [I7];omega) (by omega),QJ (Bap sC),A0,A0]
   have e4:f38 n (vq (hessTo X e 2 2)) 2=some (vq (A8d (hessTo X e 2 2) 2),0):=B74 (k:=2) sH hHl (by omega) (by omega) (by omega)
   rw [e4,A0,hmir];dsimp only
   rw [beq_self_eq_true,ZR,Wz rfl (by rw [I7];omega) (λa ha=>(sC a ha).mono (by omega)) (by omega),A0,QX rfl,ZR,ZR,Wz rfl (by omega) (λa ha=>(sH a ha).mono (by omega)) (by omega),A0,QX rfl]

end Go.Ev
