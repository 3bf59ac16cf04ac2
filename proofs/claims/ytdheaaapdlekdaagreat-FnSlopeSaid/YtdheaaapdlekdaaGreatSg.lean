/- DERIVED. The plain laws: what the models compute. -/
import Derived.Test.YtdheaaapdlekdaaGreatSd

set_option linter.all false
set_option linter.unusedVariables false
set_option linter.unusedSimpArgs false

namespace Go.Ev
open Go

theorem iWm {n:Nat} (hn:68719476736<=n):f97 n (-1)=some (rq (-1)):=iW (a:=-1) (by omega) hn

theorem B4n (a:Int) (i:Nat):(!(decide (a ^ i<0)==decide (a<0)))=decide (a ^ (i+1)<0):=by
 rw [Qak];by_cases h0:a=0
 . subst h0
   have:¬ (0:Int) ^ i<0:=by cases i with | zero=>decide | succ i=>rw [Qak,Qam];decide
   rw [Qam,QT this];rfl
 . have hp:a ^ i ≠ 0:=Int.pow_ne_zero h0;generalize a ^ i=p at hp;rcases Int.lt_trichotomy p 0 with ha | ha | ha <;> rcases Int.lt_trichotomy a 0 with hb | hb | hb
   . have:=Int.mul_pos_of_neg_of_neg ha hb
     rw [QY ha,QY hb,QT (by omega)];rfl
   . exact absurd hb h0
   . have:=Int.mul_neg_of_neg_of_pos ha hb
     rw [QY ha,QT (by omega),QY this];rfl
   . exact absurd ha hp
   . exact absurd ha hp
   . exact absurd ha hp
   . have:=Int.mul_neg_of_pos_of_neg ha hb
     rw [QT (show ¬ p<0 by omega),QY hb,QY this];rfl
   . exact absurd hb h0
   . have:=Int.mul_pos ha hb
     rw [QT (show ¬ p<0 by omega),QT (show ¬ a<0 by omega),QT (by omega)];rfl

theorem Rf (a L:Nat) (h:(dg a).length<=L):∀ i,(dg (a ^ i)).length<=L*i+1
 | 0=>by rw [Nat.pow_zero];exact ZL (A9e (by decide)) (by omega)
 | i+1=>by
  have h1:=B4 (a ^ i) a;have h2:=Rf a L h i;rw [YG,Nat.mul_succ];omega

theorem Afk {α:Type} {n L k:Nat} {x:Rat} (hx:Sz x L) (hL:L<=10000000) (hk:k<=10) (hn:68719476736<=n) {k0:Bool->Bool->List Int->List Int->Option α}:∀ (m i:Nat),i<=k->k<i+m ->
  Ru n m (k:Int) (i:Int) (rq x).1 (rq x).2.1 (rq x).2.2 false (decide (x.num ^ i<0)) (dg (x.num.natAbs ^ i)) (dg (x.den ^ i)) k0=k0 false (decide (x.num ^ k<0)) (dg (x.num.natAbs ^ k)) (dg (x.den ^ k))
 | 0,i,hi,hm=>by omega
 | m+1,i,hi,hm=>by
  rw [Awn];unfold A4a;rw [QK];by_cases h:i<k
  . have l1:=Rf x.num.natAbs L hx.1 i;have l2:=Rf x.den L hx.2 i;have h1:=hx.1;have h2:=hx.2
    have h3:L*i<=L*10:=XS _ (by omega)
    rw [QJ (by omega)]
    show ob (f152 n (dg (x.num.natAbs ^ i)) (dg x.num.natAbs)) _=_
    rw [Mp (by omega) (by omega),A0]
    show ob (f152 n (dg (x.den ^ i)) (dg x.den)) _=_
    rw [Mp (by omega) (by omega),A0,Aa (x:=(i:Int)+1) (by omega) (by omega),<- YG,<- YG]
    show Ru n m (k:Int) ((i+1:Nat):Int) (rq x).1 (rq x).2.1 (rq x).2.2 false (!(decide (x.num ^ i<0)==decide (x.num<0))) _ _ k0=_;rw [B4n]
    exact Afk hx hL hk hn m (i+1) (by omega) (by omega)
  . obtain rfl:i=k:=by omega
    rw [QG (by omega)]

theorem M6 {n L k:Nat} {x:Rat} (hx:Sz x L) (hL:L<=10000000) (hk:k<=10) (hn:68719476736<=n):f170 n (rq x) (k:Int)=some (rq (x ^ k)):=by
 unfold f170;rw [iW1 hn,A0]
 have h1:=Afk (n:=n) hx hL hk hn (k0:=λz_4 z_5 z_6 z_7=>(
   bif z_5 then
    ob (f168 n (z_5,z_6,z_7)) λr_8 =>
    ob (f168 n ((!r_8),z_6,z_7)) λr_9 =>
    bif r_9 then
     ob (f151 n) λr_10 =>
     some ((!r_8),z_6,r_10)
    else
     some ((!r_8),z_6,z_7)
   else
    ob (f168 n (false,z_6,z_7)) λr_11 =>
    bif r_11 then
     ob (f151 n) λr_12 =>
     some (false,z_6,r_12)
    else
     some (false,z_6,z_7))) n 0 (by omega) (by omega)
 rw [Int.pow_zero,Nat.pow_zero,Nat.pow_zero,show decide ((1:Int)<0)=false from rfl,show ((0:Nat):Int)=0 from rfl] at h1;rw [show rq 1=(false,dg 1,dg 1) from Afc 1,h1]
 have hzero:∀ (s:Bool) (a d:Nat),f168 n (s,dg a,dg d)=some (decide (a=0)):=λs a d=>by
  unfold f168;dsimp only;rw [A8j]
 have key:rq (x ^ k)=(decide (x.num ^ k<0),dg (x.num.natAbs ^ k),dg (x.den ^ k)):=by
  unfold rq;rw [Rat.num_pow,Rat.den_pow,Int.natAbs_pow]
 have hz:x.num.natAbs ^ k=0->x.den ^ k=1:=λh=>by
  rcases YV k with h2 | h2
  . subst h2;rfl
  . have h3:x.num.natAbs=0:=(Nat.pow_eq_zero.1 h).1
    have:x=0:=JA.1 (by omega)
    rw [this];exact Nat.one_pow k
 have hs:x.num.natAbs ^ k=0->¬ x.num ^ k<0:=λh=>by rw [<- Int.natAbs_pow] at h;omega
 rw [key];by_cases h2:x.num ^ k<0
 . rw [QY h2,ZJ,hzero,A0,hzero,A0];have h3:¬ x.num.natAbs ^ k=0:=λh=>hs h h2;rw [QT h3];rfl
 . rw [QT h2,QQ,hzero,A0];by_cases h3:x.num.natAbs ^ k=0
   . rw [QY h3,ZJ,show f151 n=some [1] from rfl,A0,hz h3,Fl]
   . rw [QT h3];rfl

abbrev Jn:=Rt × List Rt × Unit × Rt

abbrev Jc:=Rt × List Rt × List Rt × Rt

def jn (f v:Rat):Jn:=(rq f,[],(),rq v)

def jc (f v:Rat):Jc:=(rq f,[],[],rq v)

theorem B9y {n:Nat} (hn:68719476736<=n):f64 n 0=some []:=by
 obtain ⟨m,rfl⟩:∃ m,n=m+1:=⟨n-1,by omega⟩
 rfl

theorem B3z {n:Nat} (hn:68719476736<=n):Xo n 0=some []:=by
 obtain ⟨m,rfl⟩:∃ m,n=m+1:=⟨n-1,by omega⟩
 rfl

theorem A2m {n:Nat} (hn:68719476736<=n):f51 n []=some ([],0):=by
 have:=Aub (n:=n) (x:=[]) (by simp) (by omega)
 exact this

theorem Lu {x:Rat} {L:Nat} (h:Sz x L) (k:Nat):Sz (x ^ k) (L*k+1):=by
 unfold Sz;rw [Rat.num_pow,Rat.den_pow,Int.natAbs_pow];exact ⟨Rf _ _ h.1 k,Rf _ _ h.2 k⟩

theorem Aem {x:Rat} {L k:Nat} (h:Sz x L) (hk:k<=8):Sz (Q4.d1 x k) (L*8+5):=by
 cases k with
 | zero=>exact C3.mono (by omega)
 | succ k =>
  have h1:=Ah (Lu h k) (C6 (a:=((k+1:Nat):Int)) (by omega))
  have:L*k<=L*8:=XS _ (by omega)
  exact h1.mono (by omega)

theorem Bff {x:Rat} {L k:Nat} (h:Sz x L) (hk:k<=8):Sz (Q4.d2 x k) (L*8+5):=by
 match k with
 | 0=>exact C3.mono (by omega)
 | 1=>exact C3.mono (by omega)
 | k+2 =>
  have h2:(k+2)*(k+1)<=8*8:=XE (by omega) (by omega)
  have h1:=Ah (Lu h k) (C6 (a:=(((k+2)*(k+1):Nat):Int)) (by rw [XR];omega))
  have:L*k<=L*8:=XS _ (by omega)
  exact h1.mono (by omega)

def Af (V:List Rat) (k:Nat):Rat:=V.getD k 0

theorem B0w {n:Nat} {f:Rat} (hn:68719476736<=n):f163 n (0,()) (rq f)=some (jn f 0):=by
 unfold f163;dsimp only;rw [B9y hn,A0,iW0 hn,A0];rfl

theorem Amh {n L K:Nat} {f g v w:Rat} (hf:Sz f L) (hg:Sz g L) (hv:Sz v K) (hw:Sz w K) (hL:L<=1000) (hK:K<=100000000) (hn:68719476736<=n):f165 n (jn f v) (jn g w)=some (jn (f+g) (v+w)):=by
 unfold f165 jn;dsimp only
 rw [Rg hf hg (by omega) hn,A0,Rg hv hw (by omega) hn,A0];rfl

theorem B3u {n L K:Nat} {f v k:Rat} (hf:Sz f L) (hv:Sz v K) (hk:Sz k 10) (hL:L<=1000) (hK:K<=100000000) (hn:68719476736<=n):f166 n (jn f v) (rq k)=some (jn (f*k) (v*k)):=by
 unfold f166 jn;dsimp only
 rw [Ck hf hk (by omega) hn,A0,Ck hv hk (by omega) hn,A0];rfl

theorem Ag3 {n L K:Nat} {f g v w:Rat} (hf:Sz f L) (hg:Sz g L) (hv:Sz v K) (hw:Sz w K) (hL:L<=1000) (hK:K<=100000000) (hn:68719476736<=n):f167 n (jn f v) (jn g w)=some (jn (f*g) (v*g+f*w)):=by
 unfold f167 jn;dsimp only
 rw [Ck hf hg (by omega) hn,A0,Ck hv hg (by omega) hn,A0,Ck hf hw (by omega) hn,A0,Rg (Ah hv hg) (Ah hf hw) (by omega) hn,A0];rfl

theorem Ag5 {n L K:Nat} {f v g d:Rat} {e:Rt} (hd:Sz d L) (hv:Sz v K) (hL:L<=100000) (hK:K<=100000000) (hn:68719476736<=n):f210 n (jn f v) (rq g) (rq d) e=some (jn g (d*v)):=by
 unfold f210 jn;dsimp only
 rw [Ck hd hv (by omega) hn,A0];rfl

theorem B9r {n L K:Nat} {f v:Rat} (hf:Sz f L) (h0:f ≠ 0) (hv:Sz v K) (hL:L<=1000) (hK:K<=100000000) (hn:68719476736<=n):f169 n (jn f v)=some (jn (1 / f) (-(1 / f*(1 / f))*v)):=by
 have h1:=Sn (C6 (a:=1) (by omega)) hf h0
 have h1:Sz (1 / f) (3+L+1):=h1;have h2:=Ah h1 h1;have h3:=Ah h2 h1
 have t2:f162 n (rq (1 / f*(1 / f)*(1 / f))) (rq 2)=some (rq (1 / f*(1 / f)*(1 / f)*2)):=Ck h3 (C6 (a:=2) (by omega)) (by omega) hn
 unfold f169
 rw [iW1 hn,A0,show (jn f v).1=rq f from rfl,iOv (Lv (L:=1) (by omega)) hf h0 (by omega) hn,A0,Ck h1 h1 (by omega) hn,A0,iNg h2 (by omega),A0,Ck h2 h1 (by omega) hn,A0,iW2 hn,A0,t2,A0]
 have:=Ag5 (n:=n) (f:=f) (g:=1 / f) (e:=rq (1 / f*(1 / f)*(1 / f)*2)) (D9 h2) hv (by omega) hK hn
 have this:f210 n (rq f,(jn f v).2.1,(),(jn f v).2.2.2) (rq (1 / f)) (rq (-(1 / f*(1 / f)))) (rq (1 / f*(1 / f)*(1 / f)*2))=_:=this;rw [this,A0]

theorem Abt {n L k:Nat} {f:Rat} {v:Rat} (hf:Sz f L) (hL:L<=1000) (hk:k<=8) (hn:68719476736<=n):f161 n (jn f v) (k:Int)=some (rq (Q4.d1 f k),rq (Q4.d2 f k)):=by
 unfold f161;rw [iW0 hn,A0,A0];dsimp only;rw [show (jn f v).1=rq f from rfl]
 match k with
 | 0=>rfl
 | 1 =>
  rw [show decide (((1:Nat):Int)>=1)=true from rfl,ZJ,show W (((1:Nat):Int)-1)=((0:Nat):Int) from rfl,M6 hf (by omega) (by omega) hn,A0,iW (by omega) hn,A0,Ck (Lu hf 0) (C6 (a:=((1:Nat):Int)) (by omega)) (by omega) hn,A0]
  rfl
 | k+2 =>
  have h2:(k+2)*(k+1)<=8*8:=XE (by omega) (by omega)
  have l1:L*(k+1)<=L*8:=XS _ (by omega)
  have l2:L*k<=L*8:=XS _ (by omega)
  rw [QK,QJ (by omega),Aa (x:=((k+2:Nat):Int)-1) (by omega) (by omega),show ((k+2:Nat):Int)-1=((k+1:Nat):Int) by omega,M6 hf (by omega) (by omega) hn,A0,iW (by omega) hn,A0,
   Ck (Lu hf (k+1)) (C6 (a:=((k+2:Nat):Int)) (by omega)) (by omega) hn,A0,QK,QJ (by omega),
   Aa (x:=((k+2:Nat):Int)-2) (by omega) (by omega),show ((k+2:Nat):Int)-2=((k:Nat):Int) by omega,M6 hf (by omega) (by omega) hn,A0,show ((k+2:Nat):Int)*((k+1:Nat):Int)=(((k+2)*(k+1):Nat):Int) by rw [YC],
   Aa (x:=(((k+2)*(k+1):Nat):Int)) (by omega) (by omega),iW (by rw [XR];omega) hn,A0,Ck (Lu hf k) (C6 (a:=(((k+2)*(k+1):Nat):Int)) (by rw [XR];omega)) (by omega) hn,A0]
  rfl

theorem B0u {n L K k:Nat} {f v:Rat} (hf:Sz f L) (hv:Sz v K) (hL:L<=1000) (hK:K<=100000000) (hk:k<=8) (hn:68719476736<=n):f171 n (jn f v) (k:Int)=some (jn (f ^ k) (Q4.d1 f k*v)):=by
 unfold f171
 rw [Abt hf hL hk hn,A0,show (jn f v).1=rq f from rfl,M6 hf (by omega) (by omega) hn,A0]
 have:=Ag5 (n:=n) (f:=f) (g:=f ^ k) (e:=rq (Q4.d2 f k)) (Aem hf hk) hv (by omega) hK hn
 dsimp only;rw [this,A0]

theorem B56 {n:Nat} {f v:Rat} (hn:68719476736<=n):f180 n (jn f v)=some (B5 f&&B5 v):=by
 unfold f180 jn;dsimp only;rw [A2m hn,A0,Mq,A0,Mq]
 cases B5 f <;> cases B5 v <;> rfl

theorem B9q {n:Nat} {f:Rat} {k:Int} {V:List Rat} (hk:0<=k/\k<V.length) (hn:68719476736<=n):f164 n (0,()) (rq f) k=some (jn f 0):=by
 unfold f164 Aef;dsimp only
 rw [B3z hn,A0,iW0 hn,A0,A0,QK,QG (by omega)];rfl

def As (q:Q4):Jn:=jn q.f q.v

theorem Ag4 {l:List Q4} {k:Nat} (h:k<l.length):(l.map As).getD k ((false,[],[]),[],(),(false,[],[]))=As (l.getD k (Q4.cst 0)):=by
 simp [QL,QM h]

structure B4g (l:List Q4) (K:Nat):Prop where
 f:∀ k,Sz (l.getD k (Q4.cst 0)).f 40
 v:∀ k,Sz (l.getD k (Q4.cst 0)).v K

theorem B0v {n K:Nat} {X V:List Rat} {l:List Q4} {x:Nod} (hx:D5 x l.length) (hd:x.1=2->x.2.2.2<X.length/\x.2.2.2<V.length) (hs:B4g l K) (hK:K<=90000000) (hn:68719476736<=n) :
  A0v n (0,()) x (vq X) (l.map As)=some ((if x.1=6/\(l.getD x.2.2.1.toNat (Q4.cst 0)).f=0 then (((false,[],[]),[],(),(false,[],[])),10) else if x.1=8/\B5 ((l.getD x.2.1.toNat (Q4.cst 0)).f ^ x.2.2.2.toNat)=false then (((false,[],[]),[],(),(false,[],[])),7) else (As (Au (Af X) (λ_=>0) (λ_=>0) l x),0)),l.map As):=by
 obtain ⟨op,A,B,N⟩:=x;obtain ⟨⟨o1,o2⟩,hN,hA,hB⟩:=hx;unfold A0v;simp only [Xq,A0];unfold Jz at hN;unfold Dc at hA hB ⊢;unfold Au;dsimp only at *
 obtain rfl | rfl | rfl | rfl | rfl | rfl | rfl | rfl:op=1 \/ op=2 \/ op=3 \/ op=4 \/ op=5 \/ op=6 \/ op=7 \/ op=8:=by omega
 . simp only [Int.reduceEq,Qar,if_false,if_true,Int.reduceBEq,ZJ,QQ,Int.reduceLT,gt_iff_lt,decide_false,JB] at *
   rw [iW (by omega) hn,A0,B0w  hn,A0];rfl
 . simp only [Int.reduceEq,Qar,if_false,if_true,Int.reduceBEq,ZJ,QQ,Int.reduceLT,gt_iff_lt,decide_false,JB] at *;have hd:=hd trivial
   rw [Bp,A3 (by simp;omega),Ff (by omega),B9q (V:=V) ⟨hN.1,hd.2⟩ hn,A0];rfl
 all_goals simp only [Int.reduceEq,Qar,or_true,true_or,if_false,if_true,Int.reduceBEq,ZJ,QQ,Int.reduceLT,gt_iff_lt,decide_true,JB,KP] at *
 all_goals (have lA:A.toNat<l.length:=by omega)
 all_goals (have lB:B.toNat<l.length:=by omega)
 all_goals (rw [ZG,A3 (by simp;omega),A3 (by simp;omega),A3 (by simp;omega),A3 (by simp;omega),Ag4 lA])
 all_goals (try rw [Ag4 lB])
 all_goals (have a1:=hs.f A.toNat;have a2:=hs.v A.toNat;have b1:=hs.f B.toNat;have b2:=hs.v B.toNat)
 all_goals (generalize hP:l.getD A.toNat (Q4.cst 0)=P at a1 a2 ⊢;generalize hQ:l.getD B.toNat (Q4.cst 0)=Q at b1 b2 ⊢)
 . have e:f165 n (As P) (As Q)=_:=Amh a1 b1 a2 b2 (by omega) (by omega) hn
   have e:f165 n (((As P).1.1,(As P).1.2.1,(As P).1.2.2),(As P).2.1,(),(As P).2.2.2.1,(As P).2.2.2.2.1,(As P).2.2.2.2.2) (((As Q).1.1,(As Q).1.2.1,(As Q).1.2.2),(As Q).2.1,(),(As Q).2.2.2.1,(As Q).2.2.2.2.1,(As Q).2.2.2.2.2)=some _:=e;rw [e,A0];rfl
 . have e:f166 n (As Q) (rq (-1))=_:=B3u b1 b2 (C6 (a:=-1) (by omega) |>.mono (by omega)) (by omega) (by omega) hn
   have e:f166 n (((As Q).1.1,(As Q).1.2.1,(As Q).1.2.2),(As Q).2.1,(),(As Q).2.2.2.1,(As Q).2.2.2.2.1,(As Q).2.2.2.2.2) (rq (-1))=some _:=e
   have e2:f165 n (As P) (jn (Q.f * -1) (Q.v * -1))=_:=Amh (L:=60) (K:=K+5) (a1.mono (by omega)) ((Ah b1 (C6 (a:=-1) (by omega))).mono (by omega)) (a2.mono (by omega)) ((Ah b2 (C6 (a:=-1) (by omega))).mono (by omega)) (by omega) (by omega) hn
   have e2:f165 n (((As P).1.1,(As P).1.2.1,(As P).1.2.2),(As P).2.1,(),(As P).2.2.2.1,(As P).2.2.2.2.1,(As P).2.2.2.2.2) (jn (Q.f * -1) (Q.v * -1))=some _:=e2;rw [iWm hn,A0,e,A0,e2,A0,JQ,JR,JQ,JR];rfl
 . have e:f167 n (As P) (As Q)=_:=Ag3 a1 b1 a2 b2 (by omega) (by omega) hn
   have e:f167 n (((As P).1.1,(As P).1.2.1,(As P).1.2.2),(As P).2.1,(),(As P).2.2.2.1,(As P).2.2.2.2.1,(As P).2.2.2.2.2) (((As Q).1.1,(As Q).1.2.1,(As Q).1.2.2),(As Q).2.1,(),(As Q).2.2.2.1,(As Q).2.2.2.2.1,(As Q).2.2.2.2.2)=some _:=e;rw [e,A0];rfl
 . have z:f168 n (rq Q.f)=_:=Ag9;have z:f168 n ((rq Q.f).1,(rq Q.f).2.1,(rq Q.f).2.2)=_:=z;have z:f168 n ((As Q).1.1,(As Q).1.2.1,(As Q).1.2.2)=_:=z;rw [z,A0,QK];by_cases h0:Q.f=0
   . rw [QJ h0,QJ h0]
   . rw [QG h0,QG h0]
     have e:f169 n (As Q)=_:=B9r b1 h0 b2 (by omega) (by omega) hn
     have e:f169 n (((As Q).1.1,(As Q).1.2.1,(As Q).1.2.2),(As Q).2.1,(),(As Q).2.2.2.1,(As Q).2.2.2.2.1,(As Q).2.2.2.2.2)=some _:=e
     have s1:Sz (1 / Q.f) (3+40+1):=Sn (C6 (a:=1) (by omega)) b1 h0
     have e2:f167 n (As P) (jn (1 / Q.f) (-(1 / Q.f*(1 / Q.f))*Q.v))=_:=Ag3 (L:=60) (K:=K+100) (a1.mono (by omega)) (s1.mono (by omega)) (a2.mono (by omega)) ((Ah (D9 (Ah s1 s1)) b2).mono (by omega)) (by omega) (by omega) hn
     have e2:f167 n (((As P).1.1,(As P).1.2.1,(As P).1.2.2),(As P).2.1,(),(As P).2.2.2.1,(As P).2.2.2.2.1,(As P).2.2.2.2.2) (jn (1 / Q.f) (-(1 / Q.f*(1 / Q.f))*Q.v))=some _:=e2;rw [e,A0,e2,A0]
     have c:P.v*(1 / Q.f)+P.f*(-(1 / Q.f*(1 / Q.f))*Q.v)=(Q4.mul P (Q4.inv Q)).v:=by
      simp only [Q4.mul,Q4.inv];generalize 1 / Q.f=r;grind
     rw [c];rfl
 . have e:f166 n (As P) (rq (-1))=_:=B3u a1 a2 (C6 (a:=-1) (by omega) |>.mono (by omega)) (by omega) (by omega) hn
   have e:f166 n (((As P).1.1,(As P).1.2.1,(As P).1.2.2),(As P).2.1,(),(As P).2.2.2.1,(As P).2.2.2.2.1,(As P).2.2.2.2.2) (rq (-1))=some _:=e;rw [iWm hn,A0,e,A0,JQ,JR,JQ,JR];rfl
 . obtain ⟨N',rfl⟩:∃ N':Nat,N=(N':Int):=⟨N.toNat,by omega⟩
   have e0:f170 n (rq P.f) (N':Int)=_:=M6 a1 (by omega) (by omega) hn
   have e0:f170 n ((As P).1.1,(As P).1.2.1,(As P).1.2.2) (N':Int)=some _:=e0
   have e:f171 n (As P) (N':Int)=_:=B0u a1 a2 (by omega) (by omega) (by omega) hn
   have e:f171 n (((As P).1.1,(As P).1.2.1,(As P).1.2.2),(As P).2.1,(),(As P).2.2.2.1,(As P).2.2.2.2.1,(As P).2.2.2.2.2) (N':Int)=some _:=e;rw [e0,A0,Mq,A0,QP]
   cases hfit:B5 (P.f ^ N') with
   | false=>simp only [ZW,ZJ,if_true]
   | true =>
    simp only [ZS,QQ,Bool.true_eq_false,if_false];rw [e,A0,Q4.pow_eq];rfl

theorem B0z {n:Nat} {f:Rat} {V:List Rat} (hV:0<V.length) (hn:68719476736<=n):Aee n (0,vq V) (rq f)=some (jc f 0):=by
 unfold Aee;dsimp only
 rw [B9y hn,A0,iW0 hn,A0,A3 (by simp [vq];intro e;rw [e] at hV;simp at hV),A0];rfl

theorem Amj {n L K:Nat} {f g v w:Rat} (hf:Sz f L) (hg:Sz g L) (hv:Sz v K) (hw:Sz w K) (hL:L<=1000) (hK:K<=100000000) (hn:68719476736<=n):My n (jc f v) (jc g w)=some (jc (f+g) (v+w)):=by
 unfold My jc;dsimp only
 rw [Rg hf hg (by omega) hn,A0,Rg hv hw (by omega) hn,A0];rfl

theorem B3v {n L K:Nat} {f v k:Rat} (hf:Sz f L) (hv:Sz v K) (hk:Sz k 10) (hL:L<=1000) (hK:K<=100000000) (hn:68719476736<=n):Mx n (jc f v) (rq k)=some (jc (f*k) (v*k)):=by
 unfold Mx jc;dsimp only
 rw [Ck hf hk (by omega) hn,A0,Ck hv hk (by omega) hn,A0];rfl

theorem Ag6 {n L K:Nat} {f g v w:Rat} (hf:Sz f L) (hg:Sz g L) (hv:Sz v K) (hw:Sz w K) (hL:L<=1000) (hK:K<=100000000) (hn:68719476736<=n):Mw n (jc f v) (jc g w)=some (jc (f*g) (v*g+f*w)):=by
 unfold Mw jc;dsimp only
 rw [Ck hf hg (by omega) hn,A0,Ck hv hg (by omega) hn,A0,Ck hf hw (by omega) hn,A0,Rg (Ah hv hg) (Ah hf hw) (by omega) hn,A0];rfl

theorem Ag8 {n L K:Nat} {f v g d:Rat} {e:Rt} (hd:Sz d L) (hv:Sz v K) (hL:L<=100000) (hK:K<=100000000) (hn:68719476736<=n):A08 n (jc f v) (rq g) (rq d) e=some (jc g (d*v)):=by
 unfold A08 jc;dsimp only
 rw [Ck hd hv (by omega) hn,A0];rfl

theorem B9t {n L K:Nat} {f v:Rat} (hf:Sz f L) (h0:f ≠ 0) (hv:Sz v K) (hL:L<=1000) (hK:K<=100000000) (hn:68719476736<=n):A0j n (jc f v)=some (jc (1 / f) (-(1 / f*(1 / f))*v)):=by
 have h1:=Sn (C6 (a:=1) (by omega)) hf h0
 have h1:Sz (1 / f) (3+L+1):=h1;have h2:=Ah h1 h1;have h3:=Ah h2 h1
 have t2:f162 n (rq (1 / f*(1 / f)*(1 / f))) (rq 2)=some (rq (1 / f*(1 / f)*(1 / f)*2)):=Ck h3 (C6 (a:=2) (by omega)) (by omega) hn
 unfold A0j
 rw [iW1 hn,A0,show (jc f v).1=rq f from rfl,iOv (Lv (L:=1) (by omega)) hf h0 (by omega) hn,A0,Ck h1 h1 (by omega) hn,A0,iNg h2 (by omega),A0,Ck h2 h1 (by omega) hn,A0,iW2 hn,A0,t2,A0]
 have:=Ag8 (n:=n) (f:=f) (g:=1 / f) (e:=rq (1 / f*(1 / f)*(1 / f)*2)) (D9 h2) hv (by omega) hK hn
 have this:A08 n (jc f v) (rq (1 / f)) (rq (-(1 / f*(1 / f)))) (rq (1 / f*(1 / f)*(1 / f)*2))=_:=this;rw [this,A0]

theorem Au8 {n L k:Nat} {f:Rat} {v:Rat} (hf:Sz f L) (hL:L<=1000) (hk:k<=8) (hn:68719476736<=n):Aeg n (jc f v) (k:Int)=some (rq (Q4.d1 f k),rq (Q4.d2 f k)):=by
 unfold Aeg;rw [iW0 hn,A0,A0];dsimp only;rw [show (jc f v).1=rq f from rfl]
 match k with
 | 0=>rfl
 | 1 =>
  rw [show decide (((1:Nat):Int)>=1)=true from rfl,ZJ,show W (((1:Nat):Int)-1)=((0:Nat):Int) from rfl,M6 hf (by omega) (by omega) hn,A0,iW (by omega) hn,A0,Ck (Lu hf 0) (C6 (a:=((1:Nat):Int)) (by omega)) (by omega) hn,A0]
  rfl
 | k+2 =>
  have h2:(k+2)*(k+1)<=8*8:=XE (by omega) (by omega)
  have l1:L*(k+1)<=L*8:=XS _ (by omega)
  have l2:L*k<=L*8:=XS _ (by omega)
  rw [QK,QJ (by omega),Aa (x:=((k+2:Nat):Int)-1) (by omega) (by omega),show ((k+2:Nat):Int)-1=((k+1:Nat):Int) by omega,M6 hf (by omega) (by omega) hn,A0,iW (by omega) hn,A0,
   Ck (Lu hf (k+1)) (C6 (a:=((k+2:Nat):Int)) (by omega)) (by omega) hn,A0,QK,QJ (by omega),
   Aa (x:=((k+2:Nat):Int)-2) (by omega) (by omega),show ((k+2:Nat):Int)-2=((k:Nat):Int) by omega,M6 hf (by omega) (by omega) hn,A0,show ((k+2:Nat):Int)*((k+1:Nat):Int)=(((k+2)*(k+1):Nat):Int) by rw [YC],
   Aa (x:=(((k+2)*(k+1):Nat):Int)) (by omega) (by omega),iW (by rw [XR];omega) hn,A0,Ck (Lu hf k) (C6 (a:=(((k+2)*(k+1):Nat):Int)) (by rw [XR];omega)) (by omega) hn,A0]
  rfl

theorem B0x {n L K k:Nat} {f v:Rat} (hf:Sz f L) (hv:Sz v K) (hL:L<=1000) (hK:K<=100000000) (hk:k<=8) (hn:68719476736<=n):A0i n (jc f v) (k:Int)=some (jc (f ^ k) (Q4.d1 f k*v)):=by
 unfold A0i
 rw [Au8 hf hL hk hn,A0,show (jc f v).1=rq f from rfl,M6 hf (by omega) (by omega) hn,A0]
 have:=Ag8 (n:=n) (f:=f) (g:=f ^ k) (e:=rq (Q4.d2 f k)) (Aem hf hk) hv (by omega) hK hn
 dsimp only;rw [this,A0]

theorem B58 {n:Nat} {f v:Rat} (hn:68719476736<=n):A7o n (jc f v)=some (B5 f&&B5 v):=by
 unfold A7o jc;dsimp only;rw [A2m hn,A0,A0,Mq,A0,Mq]
 cases B5 f <;> cases B5 v <;> rfl

theorem B9s {n:Nat} {f:Rat} {k:Int} {V:List Rat} (hk:0<=k/\k<V.length) (hn:68719476736<=n):Aed n (0,vq V) (rq f) k=some (jc f (V.getD k.toNat 0)):=by
 unfold Aed Aim;dsimp only
 rw [B3z hn,A0,iW0 hn,A0,A3 (by simp [vq];intro e;rw [e] at hk;simp at hk;omega),A0,A0,QK,QG (by omega),A3 (by simp [vq];intro e;rw [e] at hk;simp at hk;omega),A3 (by simp;omega),Ff (by omega)];rfl

def Ap (q:Q4):Jc:=jc q.f q.v

theorem Ag7 {l:List Q4} {k:Nat} (h:k<l.length):(l.map Ap).getD k ((false,[],[]),[],[],(false,[],[]))=Ap (l.getD k (Q4.cst 0)):=by
 simp [QL,QM h]

structure B4h (l:List Q4) (K:Nat):Prop where
 f:∀ k,Sz (l.getD k (Q4.cst 0)).f 40
 v:∀ k,Sz (l.getD k (Q4.cst 0)).v K

theorem B0y {n K:Nat} {X V:List Rat} {l:List Q4} {x:Nod} (hx:D5 x l.length) (hd:x.1=2->x.2.2.2<X.length/\x.2.2.2<V.length) (hV:0<V.length) (hs:B4h l K) (hK:K<=90000000) (hn:68719476736<=n) :
  A8h n (0,vq V) x (vq X) (l.map Ap)=some ((if x.1=6/\(l.getD x.2.2.1.toNat (Q4.cst 0)).f=0 then (((false,[],[]),[],[],(false,[],[])),10) else if x.1=8/\B5 ((l.getD x.2.1.toNat (Q4.cst 0)).f ^ x.2.2.2.toNat)=false then (((false,[],[]),[],[],(false,[],[])),7) else (Ap (Au (Af X) (λ_=>0) (Af V) l x),0)),l.map Ap):=by
 obtain ⟨op,A,B,N⟩:=x;obtain ⟨⟨o1,o2⟩,hN,hA,hB⟩:=hx;unfold A8h;simp only [Xq,A0];unfold Jz at hN;unfold Dc at hA hB ⊢;unfold Au;dsimp only at *
 obtain rfl | rfl | rfl | rfl | rfl | rfl | rfl | rfl:op=1 \/ op=2 \/ op=3 \/ op=4 \/ op=5 \/ op=6 \/ op=7 \/ op=8:=by omega
 . simp only [Int.reduceEq,Qar,if_false,if_true,Int.reduceBEq,ZJ,QQ,Int.reduceLT,gt_iff_lt,decide_false,JB] at *
   rw [iW (by omega) hn,A0,B0z hV hn,A0];rfl
 . simp only [Int.reduceEq,Qar,if_false,if_true,Int.reduceBEq,ZJ,QQ,Int.reduceLT,gt_iff_lt,decide_false,JB] at *;have hd:=hd trivial
   rw [Bp,A3 (by simp;omega),Ff (by omega),B9s (V:=V) ⟨hN.1,hd.2⟩ hn,A0];rfl
 all_goals simp only [Int.reduceEq,Qar,or_true,true_or,if_false,if_true,Int.reduceBEq,ZJ,QQ,Int.reduceLT,gt_iff_lt,decide_true,JB,KP] at *
 all_goals (have lA:A.toNat<l.length:=by omega)
 all_goals (have lB:B.toNat<l.length:=by omega)
 all_goals (rw [ZG,A3 (by simp;omega),A3 (by simp;omega),A3 (by simp;omega),A3 (by simp;omega),Ag7 lA])
 all_goals (try rw [Ag7 lB])
 all_goals (have a1:=hs.f A.toNat;have a2:=hs.v A.toNat;have b1:=hs.f B.toNat;have b2:=hs.v B.toNat)
 all_goals (generalize hP:l.getD A.toNat (Q4.cst 0)=P at a1 a2 ⊢;generalize hQ:l.getD B.toNat (Q4.cst 0)=Q at b1 b2 ⊢)
 . have e:My n (Ap P) (Ap Q)=_:=Amj a1 b1 a2 b2 (by omega) (by omega) hn
   have e:My n (((Ap P).1.1,(Ap P).1.2.1,(Ap P).1.2.2),(Ap P).2.1,(Ap P).2.2.1,(Ap P).2.2.2.1,(Ap P).2.2.2.2.1,(Ap P).2.2.2.2.2) (((Ap Q).1.1,(Ap Q).1.2.1,(Ap Q).1.2.2),(Ap Q).2.1,(Ap Q).2.2.1,(Ap Q).2.2.2.1,(Ap Q).2.2.2.2.1,(Ap Q).2.2.2.2.2)=some _:=e;rw [e,A0];rfl
 . have e:Mx n (Ap Q) (rq (-1))=_:=B3v b1 b2 (C6 (a:=-1) (by omega) |>.mono (by omega)) (by omega) (by omega) hn
   have e:Mx n (((Ap Q).1.1,(Ap Q).1.2.1,(Ap Q).1.2.2),(Ap Q).2.1,(Ap Q).2.2.1,(Ap Q).2.2.2.1,(Ap Q).2.2.2.2.1,(Ap Q).2.2.2.2.2) (rq (-1))=some _:=e
   have e2:My n (Ap P) (jc (Q.f * -1) (Q.v * -1))=_:=Amj (L:=60) (K:=K+5) (a1.mono (by omega)) ((Ah b1 (C6 (a:=-1) (by omega))).mono (by omega)) (a2.mono (by omega)) ((Ah b2 (C6 (a:=-1) (by omega))).mono (by omega)) (by omega) (by omega) hn
   have e2:My n (((Ap P).1.1,(Ap P).1.2.1,(Ap P).1.2.2),(Ap P).2.1,(Ap P).2.2.1,(Ap P).2.2.2.1,(Ap P).2.2.2.2.1,(Ap P).2.2.2.2.2) (jc (Q.f * -1) (Q.v * -1))=some _:=e2;rw [iWm hn,A0,e,A0,e2,A0,JQ,JR,JQ,JR];rfl
 . have e:Mw n (Ap P) (Ap Q)=_:=Ag6 a1 b1 a2 b2 (by omega) (by omega) hn
   have e:Mw n (((Ap P).1.1,(Ap P).1.2.1,(Ap P).1.2.2),(Ap P).2.1,(Ap P).2.2.1,(Ap P).2.2.2.1,(Ap P).2.2.2.2.1,(Ap P).2.2.2.2.2) (((Ap Q).1.1,(Ap Q).1.2.1,(Ap Q).1.2.2),(Ap Q).2.1,(Ap Q).2.2.1,(Ap Q).2.2.2.1,(Ap Q).2.2.2.2.1,(Ap Q).2.2.2.2.2)=some _:=e;rw [e,A0];rfl
 . have z:f168 n (rq Q.f)=_:=Ag9;have z:f168 n ((rq Q.f).1,(rq Q.f).2.1,(rq Q.f).2.2)=_:=z;have z:f168 n ((Ap Q).1.1,(Ap Q).1.2.1,(Ap Q).1.2.2)=_:=z;rw [z,A0,QK];by_cases h0:Q.f=0
   . rw [QJ h0,QJ h0]
   . rw [QG h0,QG h0]
     have e:A0j n (Ap Q)=_:=B9t b1 h0 b2 (by omega) (by omega) hn
     have e:A0j n (((Ap Q).1.1,(Ap Q).1.2.1,(Ap Q).1.2.2),(Ap Q).2.1,(Ap Q).2.2.1,(Ap Q).2.2.2.1,(Ap Q).2.2.2.2.1,(Ap Q).2.2.2.2.2)=some _:=e
     have s1:Sz (1 / Q.f) (3+40+1):=Sn (C6 (a:=1) (by omega)) b1 h0
     have e2:Mw n (Ap P) (jc (1 / Q.f) (-(1 / Q.f*(1 / Q.f))*Q.v))=_:=Ag6 (L:=60) (K:=K+100) (a1.mono (by omega)) (s1.mono (by omega)) (a2.mono (by omega)) ((Ah (D9 (Ah s1 s1)) b2).mono (by omega)) (by omega) (by omega) hn
     have e2:Mw n (((Ap P).1.1,(Ap P).1.2.1,(Ap P).1.2.2),(Ap P).2.1,(Ap P).2.2.1,(Ap P).2.2.2.1,(Ap P).2.2.2.2.1,(Ap P).2.2.2.2.2) (jc (1 / Q.f) (-(1 / Q.f*(1 / Q.f))*Q.v))=some _:=e2;rw [e,A0,e2,A0]
     have c:P.v*(1 / Q.f)+P.f*(-(1 / Q.f*(1 / Q.f))*Q.v)=(Q4.mul P (Q4.inv Q)).v:=by
      simp only [Q4.mul,Q4.inv];generalize 1 / Q.f=r;grind
     rw [c];rfl
 . have e:Mx n (Ap P) (rq (-1))=_:=B3v a1 a2 (C6 (a:=-1) (by omega) |>.mono (by omega)) (by omega) (by omega) hn
   have e:Mx n (((Ap P).1.1,(Ap P).1.2.1,(Ap P).1.2.2),(Ap P).2.1,(Ap P).2.2.1,(Ap P).2.2.2.1,(Ap P).2.2.2.2.1,(Ap P).2.2.2.2.2) (rq (-1))=some _:=e;rw [iWm hn,A0,e,A0,JQ,JR,JQ,JR];rfl
 . obtain ⟨N',rfl⟩:∃ N':Nat,N=(N':Int):=⟨N.toNat,by omega⟩
   have e0:f170 n (rq P.f) (N':Int)=_:=M6 a1 (by omega) (by omega) hn
   have e0:f170 n ((Ap P).1.1,(Ap P).1.2.1,(Ap P).1.2.2) (N':Int)=some _:=e0
   have e:A0i n (Ap P) (N':Int)=_:=B0x a1 a2 (by omega) (by omega) (by omega) hn
   have e:A0i n (((Ap P).1.1,(Ap P).1.2.1,(Ap P).1.2.2),(Ap P).2.1,(Ap P).2.2.1,(Ap P).2.2.2.1,(Ap P).2.2.2.2.1,(Ap P).2.2.2.2.2) (N':Int)=some _:=e;rw [e0,A0,Mq,A0,QP]
   cases hfit:B5 (P.f ^ N') with
   | false=>simp only [ZW,ZJ,if_true]
   | true =>
    simp only [ZS,QQ,Bool.true_eq_false,if_false];rw [e,A0,Q4.pow_eq];rfl

structure Gi (q:Q4) (L:Nat):Prop where
 f:Sz q.f L
 a:Sz q.a L
 v:Sz q.v L
 c:Sz q.c L

theorem Gi.mono {q:Q4} {L K:Nat} (h:Gi q L) (hK:L<=K):Gi q K:=⟨h.f.mono hK,h.a.mono hK,h.v.mono hK,h.c.mono hK⟩

theorem Aoz {r:Rat} {L:Nat} (h:Sz r L) (h1:1<=L):Gi (Q4.cst r) L:=⟨h,C3.mono h1,C3.mono h1,C3.mono h1⟩

theorem B8y {p q:Q4} {L K:Nat} (hp:Gi p L) (hq:Gi q K):Gi (Q4.mul p q) (4*(L+K)+7):=by
 refine ⟨(Ah hp.f hq.f).mono (by omega),(Io (Ah hp.a hq.f) (Ah hp.f hq.a)).mono (by omega),(Io (Ah hp.v hq.f) (Ah hp.f hq.v)).mono (by omega),?_⟩
 exact (Io (Io (Ah hp.c hq.f) (Ah hp.f hq.c)) (Io (Ah hp.a hq.v) (Ah hp.v hq.a))).mono (by omega)

theorem Aox {p:Q4} {L:Nat} (hp:Gi p L):Gi (Q4.neg p) L:=⟨D9 hp.f,D9 hp.a,D9 hp.v,D9 hp.c⟩

theorem A8v {x:Rat} {L:Nat} (h:Sz x L) (h0:x ≠ 0):Sz (1 / x) (L+4):=(Sn (Lv (L:=1) (by omega)) h h0).mono (by omega)

theorem Aoy {p:Q4} {L:Nat} (hp:Gi p L) (h0:p.f ≠ 0):Gi (Q4.inv p) (8*L+60):=by
 have r:=A8v hp.f h0;have r2:=Ah r r;have r3:=Ah r2 r
 have t3:=Ah (show Sz 2 1 from A8u (c:=2) (by omega)) r3
 refine ⟨r.mono (by omega),(D9 (Ah hp.a r2)).mono (by omega),(D9 (Ah hp.v r2)).mono (by omega),?_⟩
 show Sz (_-_) _;rw [Rat.sub_eq_add_neg]
 exact (Io (Ah t3 (Ah hp.a hp.v)) (D9 (Ah hp.c r2))).mono (by omega)

abbrev Js:=Rt × Rt × Rt × Rt

def S4 (q:Q4):Js:=(rq q.f,rq q.a,rq q.v,rq q.c)

theorem sW0 {n:Nat} (hn:68719476736<=n):f131 n 0=some (rq 0):=A67 (a:=0) (by omega) (by omega)

theorem sW1 {n:Nat} (hn:68719476736<=n):f131 n 1=some (rq 1):=A67 (a:=1) (by omega) (by omega)

theorem sW2 {n:Nat} (hn:68719476736<=n):f131 n 2=some (rq 2):=A67 (a:=2) (by omega) (by omega)

theorem Af8 {n:Nat} {r:Rat} (hn:68719476736<=n):f188 n (rq r)=some (S4 (Q4.cst r)):=by
 unfold f188;rw [sW0 hn,A0,A0,A0];rfl

theorem At9 {n L K:Nat} {p q:Q4} (hp:Gi p L) (hq:Gi q K) (hL:L+K<=100000000) (hn:68719476736<=n):f189 n (S4 p) (S4 q)=some (S4 (Q4.add p q)):=by
 unfold f189 S4;dsimp only
 rw [sPl hp.f hq.f (by omega) hn,A0,sPl hp.a hq.a (by omega) hn,A0,sPl hp.v hq.v (by omega) hn,A0,sPl hp.c hq.c (by omega) hn,A0];rfl

theorem At8 {n:Nat} {p:Q4}:f190 n (S4 p)=some (S4 (Q4.neg p)):=by
 unfold f190 S4;dsimp only;rw [Sy,A0,Sy,A0,Sy,A0,Sy,A0];rfl

theorem Af7 {n L K:Nat} {p q:Q4} (hp:Gi p L) (hq:Gi q K) (hL:L+K<=100000000) (hn:68719476736<=n):f191 n (S4 p) (S4 q)=some (S4 (Q4.mul p q)):=by
 have e1:=Ah hp.a hq.f;have e2:=Ah hp.f hq.a;have e3:=Ah hp.v hq.f;have e4:=Ah hp.f hq.v;have e5:=Ah hp.c hq.f;have e6:=Ah hp.f hq.c;have e7:=Ah hp.a hq.v;have e8:=Ah hp.v hq.a;unfold f191 S4;dsimp only
 rw [L7 hp.f hq.f (by omega) hn,A0,L7 hp.a hq.f (by omega) hn,A0,L7 hp.f hq.a (by omega) hn,A0,sPl e1 e2 (by omega) hn,A0,
  L7 hp.v hq.f (by omega) hn,A0,L7 hp.f hq.v (by omega) hn,A0,sPl e3 e4 (by omega) hn,A0,
  L7 hp.c hq.f (by omega) hn,A0,L7 hp.f hq.c (by omega) hn,A0,sPl e5 e6 (by omega) hn,A0,
  L7 hp.a hq.v (by omega) hn,A0,L7 hp.v hq.a (by omega) hn,A0,sPl e7 e8 (by omega) hn,A0,sPl (Io e5 e6) (Io e7 e8) (by omega) hn,A0];rfl

theorem B9a {n L:Nat} {p:Q4} (hp:Gi p L) (h0:p.f ≠ 0) (hL:L<=10000000) (hn:68719476736<=n):f192 n (S4 p)=some (S4 (Q4.inv p)):=by
 have r:=A8v hp.f h0;have r2:=Ah r r;have r3:=Ah r2 r
 have k2:Sz 2 1:=A8u (c:=2) (by omega)
 have t3:=Ah k2 r3;unfold f192 S4;dsimp only
 rw [sW1 hn,A0,sOv (Lv (L:=1) (by omega)) hp.f h0 (by omega) hn,A0,L7 r r (by omega) hn,A0,sW2 hn,A0,L7 r2 r (by omega) hn,A0,L7 k2 r3 (by omega) hn,A0,
  L7 hp.a r2 (by omega) hn,A0,Sy,A0,L7 hp.v r2 (by omega) hn,A0,Sy,A0,L7 hp.a hp.v (by omega) hn,A0,L7 t3 (Ah hp.a hp.v) (by omega) hn,A0,
  L7 hp.c r2 (by omega) hn,A0,sLs (Ah t3 (Ah hp.a hp.v)) (Ah hp.c r2) (by omega) hn,A0];rfl

def I1 (q:Q4):Bool:=B5 q.f&&(B5 q.a&&(B5 q.v&&B5 q.c))

theorem B4p {n:Nat} {q:Q4}:f193 n (S4 q)=some (I1 q):=by
 unfold f193 S4 I1;dsimp only;rw [Ae3,A0,Ae3,Ae3,Ae3]
 cases B5 q.f <;> cases B5 q.a <;> cases B5 q.v <;> cases B5 q.c <;> rfl

theorem B16 {q:Q4}:I1 q=true ↔ Gi q 40:=by
 unfold I1;simp only [QF,K5];exact ⟨λ⟨a,b,c,d⟩=>⟨a,b,c,d⟩,λh=>⟨h.f,h.a,h.v,h.c⟩⟩

theorem Gj {l:List Q4} {k:Nat} (h:k<l.length):(l.map S4).getD k ((false,[],[]),(false,[],[]),(false,[],[]),(false,[],[]))=S4 (l.getD k (Q4.cst 0)):=by
 simp [QL,QM h]

def pz:Nat->Nat
 | 0=>1
 | j+1=>4*(pz j+40)+7

theorem Be4:∀ {j:Nat},j<=8->pz j<=4000000
 | 0,_=>by decide
 | 1,_=>by decide
 | 2,_=>by decide
 | 3,_=>by decide
 | 4,_=>by decide
 | 5,_=>by decide
 | 6,_=>by decide
 | 7,_=>by decide
 | 8,_=>by decide
 | j+9,h=>by omega

theorem Aow {p:Q4} (hp:Gi p 40):∀ j,Gi (Q4.pow p j) (pz j)
 | 0=>Aoz (Lv (L:=1) (by omega)) (QZ _)
 | j+1=>B8y (Aow hp j) hp

theorem A69 {α:Type} {n N A:Nat} {X U V:List Rt} {i op B:Int} {e:List Nod} {l:List Q4} (hA:A<l.length) (hP:Gi (l.getD A (Q4.cst 0)) 40) (hN:N<=8) (hn:68719476736<=n)
  {k0:List Rt->List Rt->List Rt->Int->List Nod->Bool->Bool->Bool->Bool->Bool->List Int->List Int->Bool->List Int->List Int->Bool->List Int->List Int->Bool->List Int->List Int->List Js->Option α}:∀ (m j:Nat) (q:Q4),q=Q4.pow (l.getD A (Q4.cst 0)) j->j<=N->N<j+m ->
  Uk n m X U V i (j:Int) e false false false false op (A:Int) B (N:Int) (S4 q).1.1 (S4 q).1.2.1 (S4 q).1.2.2 (S4 q).2.1.1 (S4 q).2.1.2.1 (S4 q).2.1.2.2 (S4 q).2.2.1.1 (S4 q).2.2.1.2.1 (S4 q).2.2.1.2.2 (S4 q).2.2.2.1 (S4 q).2.2.2.2.1 (S4 q).2.2.2.2.2 (l.map S4) k0 =
  (let r:=S4 (Q4.pow (l.getD A (Q4.cst 0)) N);k0 X U V i e false false false false r.1.1 r.1.2.1 r.1.2.2 r.2.1.1 r.2.1.2.1 r.2.1.2.2 r.2.2.1.1 r.2.2.1.2.1 r.2.2.1.2.2 r.2.2.2.1 r.2.2.2.2.1 r.2.2.2.2.2 (l.map S4))
 | 0,j,q,hq,hj,hm=>by omega
 | m+1,j,q,hq,hj,hm=>by
  rw [Arv];unfold Yr;rw [QK];by_cases h:j<N
  . rw [QJ (by omega),ZG,A3 (by simp;omega),QP,A3 (by simp;omega),Gj hA]
    dsimp only;have hz:=Aow hP j
    have hzl:=Be4 (show j<=8 by omega)
    have e1:f191 n (S4 q) (S4 (l.getD A (Q4.cst 0)))=some (S4 (Q4.mul q (l.getD A (Q4.cst 0)))):=Af7 (by rw [hq];exact hz) hP (by omega) hn
    have e1:f191 n (((S4 q).1.1,(S4 q).1.2.1,(S4 q).1.2.2),((S4 q).2.1.1,(S4 q).2.1.2.1,(S4 q).2.1.2.2),((S4 q).2.2.1.1,(S4 q).2.2.1.2.1,(S4 q).2.2.1.2.2),(S4 q).2.2.2.1,(S4 q).2.2.2.2.1,(S4 q).2.2.2.2.2) (S4 (l.getD A (Q4.cst 0)))=_:=e1
    rw [e1,A0,Aa (x:=(j:Int)+1) (by omega) (by omega)]
    exact A69 hA hP hN hn m (j+1) _ (by rw [hq];rfl) (by omega) (by omega)
  . obtain rfl:j=N:=by omega
    rw [QG (by omega),hq]

theorem B09 {α:Type} {n:Nat} {X U V:List Rat} {e:List Nod} {l:List Q4} {x:Nod} (hx:D5 x l.length) (he:e.getD l.length (0,0,0,0)=x) (hl:l.length<e.length) (hl2:l.length<=1000) (hd:x.1=2->x.2.2.2<X.length) (hU:U.length=X.length) (hV:V.length=X.length)
  (hs:∀ k,k<l.length->Gi (l.getD k (Q4.cst 0)) 40) (hn:68719476736<=n)
  {f:List Rt->List Rt->List Rt->Int->List Nod->Bool->Bool->Bool->Bool->List Js->Option α} {k0:Int->Bool->Bool->Bool->Bool->Option α} {k1:Bool->Bool->Bool->Bool->List Js->Option α} :
  Pa n (vq X) (vq U) (vq V) (l.length:Int) e false false false false (l.map S4) f k0 k1 =
   if Dl l x then k0 10 false false false false else if I1 (Au (Af X) (Af U) (Af V) l x)=true then f (vq X) (vq U) (vq V) ((l.length+1:Nat):Int) e false false false false ((l++[Au (Af X) (Af U) (Af V) l x]).map S4) else k0 7 false false false false:=by
 have J : ∀ q : Q4, (ob (f193 n (S4 q)) fun r_74 =>
       bif (!r_74) then
        k0 7 false false false false
       else
        gd (decide (((l.map S4).length+1)*224<=140737488355328)) (
         f (vq X) (vq U) (vq V) (W ((l.length:Int)+1)) e false false false false (l.map S4++[S4 q])))=if I1 q=true then f (vq X) (vq U) (vq V) ((l.length+1:Nat):Int) e false false false false ((l++[q]).map S4) else k0 7 false false false false:=by
  intro q
  rw [B4p,A0,Aa (by omega) (by omega)]
  cases hf:I1 q with
  | false=>rfl
  | true =>
   rw [ZS,QQ,A3 (by simp;omega),KM]
   simp only [if_true];rfl
 obtain ⟨op,A,B,N⟩:=x;obtain ⟨⟨o1,o2⟩,hN,hA,hB⟩:=hx;unfold Pa Dl
 rw [QK,QJ (by omega),A3 (by simp;omega),QP,he,sW0 hn,A0,Af8 hn,A0]
 unfold Jz at hN;unfold Dc at hA hB;unfold Au;dsimp only at *
 obtain rfl | rfl | rfl | rfl | rfl | rfl | rfl | rfl:op=1 \/ op=2 \/ op=3 \/ op=4 \/ op=5 \/ op=6 \/ op=7 \/ op=8:=by omega
 all_goals simp only [Int.reduceEq,Qar,or_true,true_or,if_false,if_true,Int.reduceBEq,ZJ,QQ,Int.reduceLT,gt_iff_lt,decide_true,decide_false,JB,KP] at *
 . rw [A67 (by omega) (by omega),A0,Af8 hn,A0]
   exact J _
 . have hd:=hd trivial
   rw [Bp,Bp,Bp,A3 (by simp;omega),A3 (by simp;omega),A3 (by simp;omega),Ff (by omega),Ff (by omega),Ff (by omega)]
   exact J ⟨Af X N.toNat,Af U N.toNat,Af V N.toNat,0⟩
 all_goals (have lA:A.toNat<l.length:=by omega)
 . have lB:B.toNat<l.length:=by omega
   rw [ZG,A3 (by simp;omega),A3 (by simp;omega),A3 (by simp;omega),A3 (by simp;omega),Gj lA,Gj lB,At9 (hs _ lA) (hs _ lB) (by omega) hn,A0]
   have:=J (Q4.add (l.getD A.toNat (Q4.cst 0)) (l.getD B.toNat (Q4.cst 0)));rw [ZG] at this;exact this
 . have lB:B.toNat<l.length:=by omega
   rw [ZG,A3 (by simp;omega),A3 (by simp;omega),A3 (by simp;omega),A3 (by simp;omega),Gj lA,Gj lB,At8,A0,At9 (hs _ lA) (Aox (hs _ lB)) (by omega) hn,A0]
   have:=J (Q4.add (l.getD A.toNat (Q4.cst 0)) (Q4.neg (l.getD B.toNat (Q4.cst 0))));rw [ZG] at this;exact this
 . have lB:B.toNat<l.length:=by omega
   rw [ZG,A3 (by simp;omega),A3 (by simp;omega),A3 (by simp;omega),A3 (by simp;omega),Gj lA,Gj lB,Af7 (hs _ lA) (hs _ lB) (by omega) hn,A0]
   have:=J (Q4.mul (l.getD A.toNat (Q4.cst 0)) (l.getD B.toNat (Q4.cst 0)));rw [ZG] at this;exact this
 . have lB:B.toNat<l.length:=by omega
   rw [ZG,A3 (by simp;omega),A3 (by simp;omega),Gj lB,show f141 n (S4 (l.getD B.toNat (Q4.cst 0))).1=some (decide ((l.getD B.toNat (Q4.cst 0)).f=0)) from B95,A0,QK]
   by_cases h0:(l.getD B.toNat (Q4.cst 0)).f=0
   . rw [QJ h0,QJ h0]
   . rw [QG h0,QG h0,A3 (by simp;omega),A3 (by simp;omega),A3 (by simp;omega),A3 (by simp;omega),Gj lA,B9a (hs _ lB) h0 (by omega) hn,A0,Af7 (hs _ lA) (Aoy (hs _ lB) h0) (by omega) hn,A0]
     have:=J (Q4.mul (l.getD A.toNat (Q4.cst 0)) (Q4.inv (l.getD B.toNat (Q4.cst 0))));rw [ZG] at this;exact this
 . rw [ZG,A3 (by simp;omega),A3 (by simp;omega),Gj lA,At8,A0]
   have:=J (Q4.neg (l.getD A.toNat (Q4.cst 0)));rw [ZG] at this;exact this
 . obtain ⟨N',rfl⟩:∃ N':Nat,N=(N':Int):=⟨N.toNat,by omega⟩
   obtain ⟨A',rfl⟩:∃ A':Nat,A=(A':Int):=⟨A.toNat,by omega⟩
   rw [QP] at lA;rw [sW1 hn,A0,Af8 hn,A0]
   have hp:=A69 (n:=n) (N:=N') (A:=A') (X:=vq X) (U:=vq U) (V:=vq V) (i:=(l.length:Int)) (op:=8) (B:=B) (e:=e) (l:=l) lA (hs _ lA) (by omega) hn
    (k0:=λz_30 z_31 z_32 z_33 z_34 z_35 z_36 z_37 z_38 z_39 z_40 z_41 z_42 z_43 z_44 z_45 z_46 z_47 z_48 z_49 z_50 z_51 =>
     (ob (f193 n ((z_39,z_40,z_41),(z_42,z_43,z_44),(z_45,z_46,z_47),z_48,z_49,z_50)) λr_74 =>
     bif (!r_74) then
      k0 7 false false false false
     else
      gd (decide ((z_51.length+1)*224<=140737488355328)) (
       f z_30 z_31 z_32 (W (z_33+1)) z_34 z_35 z_36 z_37 z_38 (z_51++[((z_39,z_40,z_41),(z_42,z_43,z_44),(z_45,z_46,z_47),z_48,z_49,z_50)])))) n 0 (Q4.cst 1) rfl (by omega) (by omega)
   refine hp.trans ?_;exact J (Q4.pow (l.getD A' (Q4.cst 0)) N')

def allP (e:List Nod) (d:Int):Prop:=∀ k,k<e.length->D5 (e.getD k (0,0,0,0)) k/\((e.getD k (0,0,0,0)).1=2->(e.getD k (0,0,0,0)).2.2.2<d)

theorem N0 {e:List Nod} {i:Nat} (h:i<e.length):e.drop i=e.getD i (0,0,0,0)::e.drop (i+1):=by
 rw [XQ h,QL,QM h];rfl

theorem Alx {α:Type} {n:Nat} {X U V:List Rat} {e:List Nod} (hp:allP e X.length) (he:e.length<=60) (hU:U.length=X.length) (hV:V.length=X.length) (hn:68719476736<=n)
  {k0:Int->Bool->Bool->Bool->Bool->Option α} {k1:Bool->Bool->Bool->Bool->List Js->Option α}:∀ (m:Nat) (l:List Q4),(∀ k,k<l.length->Gi (l.getD k (Q4.cst 0)) 40)->l.length<=e.length->e.length<l.length+m ->
  A0p n m (vq X) (vq U) (vq V) (l.length:Int) e false false false false (l.map S4) k0 k1=match F1 I1 (Af X) (Af U) (Af V) (e.drop l.length) l with
   | .inl l'=>k1 false false false false (l'.map S4)
   | .inr c=>k0 c false false false false
 | 0,l,hs,hl,hm=>by omega
 | m+1,l,hs,hl,hm=>by
  rw [Ay5];by_cases h:l.length<e.length
  . obtain ⟨h1,h2⟩:=hp _ h
    rw [B09 h1 rfl h (by omega) h2 hU hV hs hn,N0 h,F1]
    by_cases hb:Dl l (e.getD l.length (0,0,0,0))
    . rw [QJ hb,QJ hb]
    . rw [QG hb,QG hb];generalize hq:Au (Af X) (Af U) (Af V) l (e.getD l.length (0,0,0,0))=q;by_cases hf:I1 q=true
      . rw [QJ hf,QJ hf]
        have:=Alx hp he hU hV hn (k0:=k0) (k1:=k1) m (l++[q]) (λk hk=>by
         simp only [ZF,ZH,XA] at hk;rcases ZT k l.length with h3 | h3
         . rw [QL,ZB h3,<- QL];exact hs k h3
         . obtain rfl:k=l.length:=by omega
           rw [QL,ZC (QZ _)];simpa using B16.1 hf) (by simp;omega) (by simp;omega)
        rw [ZF] at this;exact this
      . rw [QG hf,QG hf]
  . have h0:l.length=e.length:=by omega
    unfold Pa
    rw [QK,QG (by omega),QW (by omega)]
    rfl

theorem Aly {n:Nat} {X U V:List Rat} {e:List Nod} (hp:allP e X.length) (h1:1<=e.length) (he:e.length<=60) (hU:U.length=X.length) (hV:V.length=X.length) (hn:68719476736<=n) :
  f126 n e (vq X) (vq U) (vq V)=some (match F1 I1 (Af X) (Af U) (Af V) e [] with
   | .inl l=>(S4 (l.getD (e.length-1) (Q4.cst 0)),0)
   | .inr c=>(((false,[],[]),(false,[],[]),(false,[],[]),(false,[],[])),c)):=by
 unfold f126
 have:=Alx (n:=n) hp he hU hV hn (k0:=λz_76 z_77 z_78 z_79 z_80=>(
   some ((((z_77,[],[]),(z_78,[],[]),(z_79,[],[]),z_80,[],[]),z_76):Js × Int)))
  (k1:=λz_81 z_82 z_83 z_84 z_85=>(
   gd (decide (0<=(W ((z_85.length:Int)-1)))&&decide ((W ((z_85.length:Int)-1))<(z_85.length:Int))) (
    gd (decide ((W ((z_85.length:Int)-1)).toNat<z_85.length)) (
     let x_86:=z_85.getD ((W ((z_85.length:Int)-1)).toNat) ((false,[],[]),(false,[],[]),(false,[],[]),(false,[],[]))
     some (x_86,0))))) n [] (by simp) (by simp) (by simp;omega)
 refine Eq.trans this ?_;rw [XA,ZQ]
 cases hev:F1 I1 (Af X) (Af U) (Af V) e [] with
 | inr c=>rfl
 | inl l =>
  have hl:=(Sd e [] l (λk hk=>by simp at hk) hev).2
  have hlen:l.length=e.length:=by rw [hl,Ey];simp
  simp only [ZG,hlen]
  rw [Aa (by omega) (by omega),A3 (by simp;omega),A3 (by simp;omega),show ((e.length:Int)-1).toNat=e.length-1 by omega,Gj (by omega)]

def Cl (q:Q4):Bool:=B5 q.f&&B5 q.v

theorem Ve {l:List Q4} {q:Q4} {k:Nat} (h:k<l.length):(l++[q]).getD k (Q4.cst 0)=l.getD k (Q4.cst 0):=by
 simp only [QL,ZB h]

theorem Vf {l:List Q4} {q:Q4}:(l++[q]).getD l.length (Q4.cst 0)=q:=by
 rw [QL,ZC (QZ _)];simp

theorem Fb {l:List Q4} {k:Nat} (h:l.length<=k):l.getD k (Q4.cst 0)=Q4.cst 0:=by
 rw [QL,KV h];rfl

theorem A2i {x u w:Nat->Rat} {l:List Q4} {n:Nod} (h:n.1=8):(Au x u w l n).f=(l.getD n.2.1.toNat (Q4.cst 0)).f ^ n.2.2.2.toNat:=by
 unfold Au
 rw [QG (by omega),QG (by omega),QG (by omega),QG (by omega),QG (by omega),QG (by omega),QG (by omega),Q4.pow_eq]

theorem Bdx {l:List Q4} (h:∀ k,k<l.length->Cl (l.getD k (Q4.cst 0))=true):B4g l 40:=by
 have key:∀ k,Sz (l.getD k (Q4.cst 0)).f 40/\Sz (l.getD k (Q4.cst 0)).v 40:=λk=>by
  rcases ZT k l.length with h1 | h1
  . have:=h k h1;unfold Cl at this;simp only [QF,K5] at this;exact this
  . rw [Fb h1];exact ⟨C3.mono (by omega),C3.mono (by omega)⟩
 exact ⟨λk=>(key k).1,λk=>(key k).2⟩

theorem Ami {α:Type} {n:Nat} {X V:List Rat} {e:List Nod} (hp:allP e X.length) (he:e.length<=60) (hVX:V.length=X.length) (hn:68719476736<=n)
  {k0:Int->Option α} {k1:List Jn->Option α}:∀ (m:Nat) (l:List Q4),(∀ k,k<l.length->Cl (l.getD k (Q4.cst 0))=true)->l.length<=e.length->e.length<l.length+m ->
  S8 n m (vq X) e (e.length:Int) (l.length:Int) 0 (l.map As) k0 k1=match F1 Cl (Af X) (λ_=>0) (λ_=>0) (e.drop l.length) l with
   | .inl l'=>k1 (l'.map As)
   | .inr c=>k0 c
 | 0,l,hs,hl,hm=>by omega
 | m+1,l,hs,hl,hm=>by
  rw [Ad9];unfold Uu;rw [QK];by_cases h:l.length<e.length
  . obtain ⟨h1,h2⟩:=hp _ h
    rw [QJ (by omega),A3 (by simp;omega),QP,N0 h,F1]
    generalize hx:e.getD l.length (0,0,0,0)=x at h1 h2
    have hg:=B0v (n:=n) (X:=X) (V:=V) h1 (λh=>⟨h2 h,by rw [hVX];exact h2 h⟩) (Bdx hs) (by omega) hn
    dsimp only
    rw [hg,A0,A3 (by simp)]
    generalize hq:Au (Af X) (λ_=>0) (λ_=>0) l x=q;by_cases hb:Dl l x
    . have hb':x.1=6/\(l.getD x.2.2.1.toNat (Q4.cst 0)).f=0:=hb;rw [QJ hb,QJ hb'];rfl
    . have hb':¬ (x.1=6/\(l.getD x.2.2.1.toNat (Q4.cst 0)).f=0):=hb;rw [QG hb,QG hb'];by_cases h8:x.1=8/\B5 ((l.getD x.2.1.toNat (Q4.cst 0)).f ^ x.2.2.2.toNat)=false
      . rw [QJ h8]
        have:Cl q=false:=by
         unfold Cl;rw [<- hq,A2i h8.1,h8.2];rfl
        rw [this,QG (by simp)];rfl
      . rw [QG h8];show (ob (f180 n (jn q.f q.v)) λr_3=>_)=_;rw [B56 hn,A0]
        show (bif (!Cl q) then k0 7 else _)=_
        cases hf:Cl q with
        | false=>rfl
        | true =>
         rw [ZS,QQ,A3 (by simp;omega),Aa (by omega) (by omega)]
         simp only [if_true]
         have:=Ami hp he hVX hn (k0:=k0) (k1:=k1) m (l++[q]) (λk hk=>by
          simp only [ZF,ZH,XA] at hk;rcases ZT k l.length with h3 | h3
          . rw [Ve h3];exact hs k h3
          . obtain rfl:k=l.length:=by omega
            rw [Vf];exact hf) (by simp;omega) (by simp;omega)
         rw [ZF,KM] at this;exact this
  . have h0:l.length=e.length:=by omega
    rw [QG (by omega),QW (by omega)]
    rfl

theorem B55 {n:Nat} {X V:List Rat} {e:List Nod} (hp:allP e X.length) (he:e.length<=60) (hVX:V.length=X.length) (hn:68719476736<=n) :
  f113 n (0,()) e (vq X)=some (match F1 Cl (Af X) (λ_=>0) (λ_=>0) e [] with
   | .inl l=>(l.map As,0)
   | .inr c=>([],c)):=by
 unfold f113
 have:=Ami (n:=n) hp he hVX hn (k0:=λz_4=>(some (([],z_4):List Jn × Int))) (k1:=λz_5=>some (z_5,0)) n [] (by simp) (by simp) (by simp;omega)
 refine Eq.trans this ?_;rw [XA,ZQ]
 cases F1 Cl (Af X) (λ_=>0) (λ_=>0) e [] <;> rfl

theorem Be7 {n:Nat} {X V:List Rat} {e:List Nod} (hp:allP e X.length) (h1:1<=e.length) (he:e.length<=60) (hVX:V.length=X.length) (hn:68719476736<=n) :
  f68 n (0,()) e (vq X)=some (match F1 Cl (Af X) (λ_=>0) (λ_=>0) e [] with
   | .inl l=>(As (l.getD (e.length-1) (Q4.cst 0)),0)
   | .inr c=>(((false,[],[]),[],(),(false,[],[])),c)):=by
 unfold f68;rw [B55 hp he hVX hn,A0]
 cases hev:F1 Cl (Af X) (λ_=>0) (λ_=>0) e [] with
 | inr c =>
  have hc:(c != 0)=true:=by rcases A5r _ _ _ hev with rfl | rfl <;> rfl
  dsimp only;rw [hc];rfl
 | inl l =>
  have hl:=(Sd e [] l (λk hk=>by simp at hk) hev).2
  have hlen:l.length=e.length:=by rw [hl,Ey];simp
  simp only [ZG,hlen]
  rw [Aa (by omega) (by omega),show ((0:Int) != 0)=false from rfl,QQ,A3 (by simp;omega),show ((e.length:Int)-1).toNat=e.length-1 by omega,Ag4 (by omega)]

theorem Bdy {l:List Q4} (h:∀ k,k<l.length->Cl (l.getD k (Q4.cst 0))=true):B4h l 40:=by
 have key:∀ k,Sz (l.getD k (Q4.cst 0)).f 40/\Sz (l.getD k (Q4.cst 0)).v 40:=λk=>by
  rcases ZT k l.length with h1 | h1
  . have:=h k h1;unfold Cl at this;simp only [QF,K5] at this;exact this
  . rw [Fb h1];exact ⟨C3.mono (by omega),C3.mono (by omega)⟩
 exact ⟨λk=>(key k).1,λk=>(key k).2⟩

theorem Amk {α:Type} {n:Nat} {X V:List Rat} {e:List Nod} (hp:allP e X.length) (he:e.length<=60) (hVX:V.length=X.length) (hV:0<V.length) (hn:68719476736<=n)
  {k0:Int->Option α} {k1:List Jc->Option α}:∀ (m:Nat) (l:List Q4),(∀ k,k<l.length->Cl (l.getD k (Q4.cst 0))=true)->l.length<=e.length->e.length<l.length+m ->
  Us n m (vq X) e (e.length:Int) (l.length:Int) 0 (vq V) (l.map Ap) k0 k1=match F1 Cl (Af X) (λ_=>0) (Af V) (e.drop l.length) l with
   | .inl l'=>k1 (l'.map Ap)
   | .inr c=>k0 c
 | 0,l,hs,hl,hm=>by omega
 | m+1,l,hs,hl,hm=>by
  rw [As6];unfold Yz;rw [QK];by_cases h:l.length<e.length
  . obtain ⟨h1,h2⟩:=hp _ h
    rw [QJ (by omega),A3 (by simp;omega),QP,N0 h,F1]
    generalize hx:e.getD l.length (0,0,0,0)=x at h1 h2
    have hg:=B0y (n:=n) (X:=X) (V:=V) h1 (λh=>⟨h2 h,by rw [hVX];exact h2 h⟩) hV (Bdy hs) (by omega) hn
    dsimp only
    rw [hg,A0,A3 (by simp)]
    generalize hq:Au (Af X) (λ_=>0) (Af V) l x=q;by_cases hb:Dl l x
    . have hb':x.1=6/\(l.getD x.2.2.1.toNat (Q4.cst 0)).f=0:=hb;rw [QJ hb,QJ hb'];rfl
    . have hb':¬ (x.1=6/\(l.getD x.2.2.1.toNat (Q4.cst 0)).f=0):=hb;rw [QG hb,QG hb'];by_cases h8:x.1=8/\B5 ((l.getD x.2.1.toNat (Q4.cst 0)).f ^ x.2.2.2.toNat)=false
      . rw [QJ h8]
        have:Cl q=false:=by
         unfold Cl;rw [<- hq,A2i h8.1,h8.2];rfl
        rw [this,QG (by simp)];rfl
      . rw [QG h8];show (ob (A7o n (jc q.f q.v)) λr_3=>_)=_;rw [B58 hn,A0]
        show (bif (!Cl q) then k0 7 else _)=_
        cases hf:Cl q with
        | false=>rfl
        | true =>
         rw [ZS,QQ,A3 (by simp;omega),Aa (by omega) (by omega)]
         simp only [if_true]
         have:=Amk hp he hVX hV hn (k0:=k0) (k1:=k1) m (l++[q]) (λk hk=>by
          simp only [ZF,ZH,XA] at hk;rcases ZT k l.length with h3 | h3
          . rw [Ve h3];exact hs k h3
          . obtain rfl:k=l.length:=by omega
            rw [Vf];exact hf) (by simp;omega) (by simp;omega)
         rw [ZF,KM] at this;exact this
  . have h0:l.length=e.length:=by omega
    rw [QG (by omega),QW (by omega)]
    rfl

theorem B57 {n:Nat} {X V:List Rat} {e:List Nod} (hp:allP e X.length) (he:e.length<=60) (hVX:V.length=X.length) (hV:0<V.length) (hn:68719476736<=n) :
  Aei n (0,vq V) e (vq X)=some (match F1 Cl (Af X) (λ_=>0) (Af V) e [] with
   | .inl l=>(l.map Ap,0)
   | .inr c=>([],c)):=by
 unfold Aei
 have:=Amk (n:=n) hp he hVX hV hn (k0:=λz_4=>(some (([],z_4):List Jc × Int))) (k1:=λz_5=>some (z_5,0)) n [] (by simp) (by simp) (by simp;omega)
 refine Eq.trans this ?_;rw [XA,ZQ]
 cases F1 Cl (Af X) (λ_=>0) (Af V) e [] <;> rfl

theorem Be8 {n:Nat} {X V:List Rat} {e:List Nod} (hp:allP e X.length) (h1:1<=e.length) (he:e.length<=60) (hVX:V.length=X.length) (hV:0<V.length) (hn:68719476736<=n) :
  Aq4 n (0,vq V) e (vq X)=some (match F1 Cl (Af X) (λ_=>0) (Af V) e [] with
   | .inl l=>(Ap (l.getD (e.length-1) (Q4.cst 0)),0)
   | .inr c=>(((false,[],[]),[],[],(false,[],[])),c)):=by
 unfold Aq4;rw [B57 hp he hVX hV hn,A0]
 cases hev:F1 Cl (Af X) (λ_=>0) (Af V) e [] with
 | inr c =>
  have hc:(c != 0)=true:=by rcases A5r _ _ _ hev with rfl | rfl <;> rfl
  dsimp only;rw [hc];rfl
 | inl l =>
  have hl:=(Sd e [] l (λk hk=>by simp at hk) hev).2
  have hlen:l.length=e.length:=by rw [hl,Ey];simp
  simp only [ZG,hlen]
  rw [Aa (by omega) (by omega),show ((0:Int) != 0)=false from rfl,QQ,A3 (by simp;omega),show ((e.length:Int)-1).toNat=e.length-1 by omega,Ag7 (by omega)]

theorem Adn {x:Nod} {i:Int} (h:Em x i):D5 x i:=by
 obtain ⟨h1,h2⟩:=h;unfold D5 Jz Dc;grind

theorem A6a:∀ (r:List Nod) (bs ds:List Int) (p:List Int × List Int),Cb bs ds r=some p->∀ j,j<r.length->D5 (r.getD j (0,0,0,0)) ((bs.length+j:Nat):Int)
 | [],bs,ds,p,h,j,hj=>by simp at hj
 | x::r,bs,ds,p,h,j,hj=>by
  simp only [Cb] at h;split at h
  . rename_i hok
    cases j with
    | zero=>exact Adn hok.1
    | succ j =>
     have:=A6a r _ _ p h j (by simpa using hj)
     simp only [ZF,ZH,XA] at this;simp only [Qad]
     rw [show bs.length+(j+1)=bs.length+1+j by omega]
     exact this
  . cases h

def Ky (e:List Nod):Bool:=decide (1<=e.length/\e.length<=60)&&match Cb [] [] e with
 | none=>false
 | some (bs,ds)=>decide (bs.getD (e.length-1) 0=0)&&ds.all λx=>decide (x<=12)

theorem Lr {e:List Nod}:Ky e=true ↔ E9 e:=by
 unfold Ky E9
 cases h:Cb [] [] e with
 | none=>simp
 | some p =>
  obtain ⟨bs,ds⟩:=p;simp only [QF,QO,QH]
  exact ⟨λ⟨h1,h2,h3⟩=>⟨h1,bs,ds,rfl,h2,h3⟩,λ⟨h1,b2,d2,hq,h2,h3⟩=>by
   obtain ⟨rfl,rfl⟩:=KD (QA hq)
   exact ⟨h1,h2,h3⟩⟩

def Vb (e:List Nod) (l:List Rt):Int:=if 4096<l.length then 2 else if Ky e=true/\Jp l=true then (if (l.length:Int)<Pk 0 e then 8 else 0) else 1

open Classical in
theorem A9u {n:Nat} {e:List Nod} {l:List Rt} (hN:e.length<=1048576) (hn:1048577<=n):f67 n e l=some (Vb e l):=by
 unfold f67 f60 Vb
 rw [Amu (by simp) hn,A0,B8j hN hn,A0,Gc,A0,A0,Aar hn,A0,Gc,A0,Ob (by simp) hn,A0]
 have hL:Afy [l]=decide (4096<l.length):=by simp [Afy]
 rw [hL]
 have hB:∀ d:Decidable (E9 e),@decide (E9 e) d=Ky e:=λd=>by
  cases hb:Ky e with
  | true=>exact QY (Lr.1 hb)
  | false=>exact QT λh=>by rw [Lr.2 h] at hb;cases hb
 rw [hB];by_cases h1:4096<l.length
 . simp only [h1,decide_true,if_true]
   rw [show M7 [2,if Ky e=true then 0 else 1,if Jp l=true then 0 else 1]=2 from rfl,show ((2:Int) != 0)=true from rfl,ZJ,Gc,A0,Ob (by simp) hn];rfl
 . simp only [h1,decide_false,if_false,XY]
   cases h2:Ky e with
   | true =>
    cases h3:Jp l with
    | true =>
     simp only [if_true,JF]
     rw [show M7 [0,0,0]=0 from rfl,show ((0:Int) != 0)=false from rfl,QQ,B8c hN hn,A0,Gc,A0,Ob (by simp) hn,A0]
     by_cases h4:(l.length:Int)<Pk 0 e
     . rw [QJ h4,QG (by simp;omega)];rfl
     . rw [QG h4,QJ (by simp;omega)];rfl
    | false =>
     simp only [if_true,XY,if_false,and_false]
     rw [show M7 [0,0,1]=1 from rfl,show ((1:Int) != 0)=true from rfl,ZJ,Gc,A0,Ob (by simp) hn];rfl
   | false =>
    simp only [if_false,XY,JB]
    rw [show ∀ b:Int,M7 [0,1,b]=1 from λ_=>rfl,show ((1:Int) != 0)=true from rfl,ZJ,Gc,A0,Ob (by simp) hn];rfl

open Classical in
theorem Amt {n:Nat} {e:List Nod} {l:List Rt} (hN:e.length<=1048576) (hn:1048577<=n):f74 n e l=some (Vb e l):=by
 unfold f74 Vb;rw [QK];by_cases h1:4096<l.length
 . rw [QJ (by omega),QJ h1]
 . rw [QG (by omega),QG h1,B85 hN hn,A0]
   dsimp only
   have hB:∀ d:Decidable (E9 e),@decide (E9 e) d=Ky e:=λd=>by
    cases hb:Ky e with
    | true=>exact QY (Lr.1 hb)
    | false=>exact QT λh=>by rw [Lr.2 h] at hb;cases hb
   rw [hB]
   cases h2:Ky e with
   | true =>
    simp only [ZS,QQ];rw [B8f hn,A0]
    cases h3:Jp l with
    | true =>
     simp only [ZS,QQ,JF,if_true];rw [B83 hN hn,A0,QK];by_cases h4:(l.length:Int)<Pk 0 e
     . rw [QJ h4,QJ h4]
     . rw [QG h4,QG h4]
    | false=>simp
   | false=>simp

theorem B3k {n:Nat} {x:Rat} {L:Nat} (h:Sz x L) (hL:L<=1000000000):f127 n (rq x)=some (rq x):=by
 obtain ⟨h1,h2⟩:=h;unfold f127
 rw [A3 (by show decide ((0+(dg x.num.natAbs).length)*8<=_)=true;simp;omega),A3 (by show decide ((0+(dg x.den).length)*8<=_)=true;simp;omega)]

theorem Zg (m:Nat):Af (List.replicate m 0)=λ_=>0:=by
 funext k;unfold Af;rw [QL,XK];split <;> rfl

def Ap3 (x v:List Rt):Int:=if Jp v=true then (if v.length=x.length then 0 else 8) else 1

def slopC (e:List Nod) (x v:List Rt):Int:=if 4096<x.length \/ 4096<v.length then 2 else if Vb e x ≠ 0 then Vb e x else Ap3 x v

theorem B5k {n:Nat} {x v:List Rt} (hn:1048577<=n):f72 n x v=some (Ap3 x v):=by
 unfold f72 Ap3
 rw [Aar hn,A0,Gc,A0,Gc,A0,Ob (by simp) hn,A0]
 cases h1:Jp v with
 | false=>rfl
 | true =>
  simp only [if_true];by_cases h2:v.length=x.length
  . rw [QJ h2,QJ (by simp [h2])];rfl
  . rw [QG h2,QG (by simp;omega)];rfl

theorem Bfs {x v:List Rt}:Afy [x,v]=decide (4096<x.length \/ 4096<v.length):=by
 unfold Afy;by_cases h1:4096<x.length <;> by_cases h2:4096<v.length <;> simp [h1,h2]

theorem Ap7 {n:Nat} {e:List Nod} {x v:List Rt} (hN:e.length<=1048576) (hn:1048577<=n) {α:Type} {k:Int->Option α} :
  (ob (f71 n [x,v]) λr_1=>ob (f67 n e x) λr_2=>ob (f72 n x v) λr_3=>ob (f70 n [r_1,r_2,r_3]) λr_4=>k r_4)=k (slopC e x v):=by
 rw [Amu (by simp) hn,A0,A9u hN hn,A0,B5k hn,A0,Ob (by simp) hn,A0,Bfs]
 congr 1;unfold slopC M7 M7 M7;by_cases h1:4096<x.length \/ 4096<v.length
 . simp [h1]
 . simp only [h1,decide_false,if_false,XY,if_true];by_cases h2:Vb e x=0
   . simp only [h2,if_true,not_true_eq_false,ne_eq,if_false];unfold M7;split <;> simp_all
   . simp [h2]

theorem div_one {x y:Rat}:x / y=x*(1 / y):=by rw [Rat.div_def,Rat.div_def,Rat.one_mul]

def Bfx (q:Q4):Bool:=B5 q.f

theorem Be5 {f d:Nat->Rat} {n:Nod} (hf:∀ k,Sz (f k) 40) (h6:n.1=6->f n.2.2.1.toNat ≠ 0) (h8:n.1=8->n.2.2.2.toNat<=8):Sz (Lz f d n).a 330/\Sz (Lz f d n).b 330:=by
 have z:Sz 0 330:=C3.mono (by omega)
 have o:Sz 1 330:=Lv (by omega)
 have m:Sz (-1) 330:=D9 o;unfold Lz;dsimp only;split
 . exact ⟨o,o⟩
 split
 . exact ⟨o,m⟩
 split
 . exact ⟨(hf _).mono (by omega),(hf _).mono (by omega)⟩
 split
 . rename_i h;have r:=A8v (hf n.2.2.1.toNat) (h6 h)
   exact ⟨r.mono (by omega),(D9 (Ah (hf n.2.1.toNat) (Ah r r))).mono (by omega)⟩
 split
 . exact ⟨m,z⟩
 split
 . rename_i h
   exact ⟨(Aem (hf n.2.1.toNat) (h8 h)).mono (by omega),z⟩
 . exact ⟨z,z⟩

def bigH:Nat:=10000 ^ 400

set_option exponentiation.threshold 100000 in
theorem Asr {x:Rat} {L:Nat} (h:Sz x L) (hL:L<=400):Hb x bigH:=by
 have e:10000 ^ L<=bigH:=XW (by omega) hL
 exact ⟨by have:=Id h.1;omega,by have:=Id h.2;omega⟩

set_option exponentiation.threshold 100000 in
theorem B35:1<=bigH:=Qbr (by omega)

def Zb (i:Nat):Nat:=10000 ^ (801*i)

set_option exponentiation.threshold 100000 in
theorem Aju (i:Nat):2*(bigH*bigH*Zb i)<=Zb (i+1):=by
 unfold bigH Zb;rw [<- Nat.pow_add,<- Nat.pow_add,Nat.mul_succ]
 have:(10000:Nat) ^ (801*i+801)=10000 ^ (400+400+801*i)*10000:=by rw [<- YG];congr 1;omega
 rw [this,KC 2]
 exact XS _ (by omega)

set_option exponentiation.threshold 100000 in
theorem Bdz {x:Rat} {i:Nat} (h:Hb x (Zb i)) (hi:i<=60):Sz x 48061:=by
 have e:Zb i<10000 ^ 48061:=by
  unfold Zb
  exact Nat.pow_lt_pow_right (by omega) (by omega)
 exact ⟨D7 (JM h.1 e),D7 (JM h.2 e)⟩

structure Qw (X V:List Rat) (e:List Nod):Prop where
 all:allP e X.length
 len:e.length<=60
 vx:V.length=X.length
 sX:Sv X 40
 sV:Sv V 40
 fit:∀ k,Sz ((evs (Af X) (λ_=>0) (Af V) e []).getD k (Q4.cst 0)).f 40
 ok:∀ i,i<e.length->¬ Dl (evs (Af X) (λ_=>0) (Af V) (e.take i) []) (e.getD i (0,0,0,0))

theorem Qw.of {X V:List Rat} {e:List Nod} {l:List Q4} (ha:allP e X.length) (hl:e.length<=60) (hv:V.length=X.length) (sX:Sv X 40) (sV:Sv V 40) (h:F1 Bfx (Af X) (λ_=>0) (λ_=>0) e [] = .inl l):Qw X V e:=by
 obtain ⟨h1,h2⟩:=Sd e [] l (λk hk=>by simp at hk) h
 refine ⟨ha,hl,hv,sX,sV,λk=>?_,λi hi hb=>?_⟩
 . rw [Ae5 (Af X) (λ_=>0) (Af V) (λ_=>0) (λ_=>0) e k,<- h2];rcases ZT k l.length with h3 | h3
   . exact K5.1 (h1 k h3)
   . rw [Fb h3];exact C3.mono (by omega)
 . refine Aoo e [] l h i hi ⟨hb.1,?_⟩;rw [Ae5 (Af X) (λ_=>0) (λ_=>0) (λ_=>0) (Af V)];exact hb.2

theorem Qw.pre {X V:List Rat} {e:List Nod} (h:Qw X V e) {i:Nat} (hi:i<=e.length) (k:Nat):Sz ((evs (Af X) (λ_=>0) (Af V) (e.take i) []).getD k (Q4.cst 0)).f 40:=by
 rcases ZT k i with h1 | h1
 . rw [Aom _ _ _ e h1 hi];exact h.fit k
 . rw [Fb (by rw [Ey];simp;omega)];exact C3.mono (by omega)

theorem Qw.cd {X V:List Rat} {e:List Nod} (h:Qw X V e):∀ {i:Nat},i<=e.length->CD ((evs (Af X) (λ_=>0) (Af V) (e.take i) []).map Q4.v) (Zb i)
 | 0,_=>by simpa [evs,Zb] using Bdt
 | i+1,hi=>by
  have ih:=h.cd (i:=i) (by omega)
  have hi':i<e.length:=by omega
  obtain ⟨hp,hd⟩:=h.all i hi';have hbad:=h.ok i hi'
  have hf:=h.pre (i:=i) (by omega)
  rw [Aj9 _ _ _ _ hi',KM];generalize hl:evs (Af X) (λ_=>0) (Af V) (e.take i) []=l at *;generalize hx:e.getD i (0,0,0,0)=x at *;by_cases h2:x.1=2
  . have hv:(Au (Af X) (λ_=>0) (Af V) l x).v=Af V x.2.2.2.toNat:=by unfold Au;rw [QG (by omega),QJ h2]
    simp only [QS,XP,hv];have hN:=hp.2.1;unfold Jz at hN
    rw [QG (by omega),QJ h2] at hN
    have:=hd h2
    have sv:Sz (Af V x.2.2.2.toNat) 40:=h.sV.get (by have:=h.vx;omega)
    exact (ih.one (Asr sv (by omega)) B35).mono (Aju i)
  . have hq:=(B4w (Af X) (λ_=>0) (Af V) (λk=>l.getD k (Q4.cst 0)) x hp.1 h2).2.1;rw [<- B4v] at hq;simp only [QS,XP]
    obtain ⟨sa,sb⟩:=Be5 (f:=λk=>(l.getD k (Q4.cst 0)).f) (d:=λk=>(l.getD k (Q4.cst 0)).v) (n:=x) hf (λh6 h0=>hbad ⟨h6,h0⟩) (λh8=>by
     have hN:=hp.2.1;unfold Jz at hN
     rw [QG (by omega),QG (by omega),QJ h8] at hN;omega)
    have mem:∀ k,(l.getD k (Q4.cst 0)).v ∈ l.map Q4.v \/ (l.getD k (Q4.cst 0)).v=0:=λk=>by
     rcases ZT k l.length with h3 | h3
     . left;rw [QL,QM h3];exact ZK.2 ⟨_,KQ h3,rfl⟩
     . right;rw [Fb h3];rfl
    exact (ih.step (Asr sa (by omega)) (Asr sb (by omega)) (mem _) (mem _) hq).mono (Aju i)

theorem Qw.sv {X V:List Rat} {e:List Nod} (h:Qw X V e) {i:Nat} (hi:i<=e.length) (k:Nat):Sz ((evs (Af X) (λ_=>0) (Af V) (e.take i) []).getD k (Q4.cst 0)).v 48061:=by
 generalize hl:evs (Af X) (λ_=>0) (Af V) (e.take i) []=l;rcases ZT k l.length with h3 | h3
 . have:=h.cd hi;rw [hl] at this
   have hm:(l.getD k (Q4.cst 0)).v ∈ l.map Q4.v:=by
    rw [QL,QM h3];exact ZK.2 ⟨_,KQ h3,rfl⟩
   exact Bdz (this.hb hm) (by have:=h.len;omega)
 . rw [Fb h3];exact C3.mono (by omega)

def rA (A:Nat) (g:Nat->Rat):List Rt:=(List.range A).map λi=>rq (g i)

theorem Cf (A:Nat) (g:Nat->Rat):(rA A g).length=A:=by simp [rA]

theorem Et {A i:Nat} {g:Nat->Rat} (h:i<A):(rA A g).getD i (false,[],[])=rq (g i):=by
 simp [rA,QL,h]

theorem Ws (i:Nat) (g:Nat->Rat):rA i g++[rq (g i)]=rA (i+1) g:=by simp [rA,Qbk]

theorem A2h {A:Nat} {g h:Nat->Rat} (e:∀ i,i<A->g i=h i):rA A g=rA A h:=by
 unfold rA
 exact ZD λi hi=>by rw [e i (XU.1 hi)]

theorem B4u (A:Nat):rA A (λ_=>0)=vq (List.replicate A 0):=by
 unfold rA vq;rw [List.map_replicate];apply List.ext_getElem
 . simp
 . intro i h1 h2;simp

theorem B9h {A k:Nat} {g:Nat->Rat} {y:Rat}:(rA A g).set k (rq y)=rA A (λi=>if k=i then y else g i):=by
 apply List.ext_getElem
 . simp [rA]
 . intro i h1 h2;simp only [rA,List.length_set,ZG,JT] at h1;rw [List.getElem_set];simp only [rA,List.getElem_map,List.getElem_range];by_cases e:k=i
   . rw [QJ e,QJ e]
   . rw [QG e,QG e]

def gn (A:Nat) (f v:Rat) (a:Nat->Rat):Jn:=(rq f,rA A a,(),rq v)

theorem Bed {n A:Nat} (hA:A<=100) (hn:68719476736<=n):f64 n (A:Int)=some (rA A λ_=>0):=by
 have loop:∀ {α:Type} {k0:List Rt->Option α} (m i:Nat),i<=A->A<i+m->A74 n m (A:Int) (i:Int) (rA i λ_=>0) k0=k0 (rA A λ_=>0):=by
  intro α k0 m
  induction m with
  | zero=>intro i h1 h2;omega
  | succ m ih =>
   intro i h1 h2;rw [B1n];unfold A9x;rw [QK];by_cases h:i<A
   . rw [QJ (by omega),iW0 hn,A0,A3 (by rw [Cf];simp;omega),Aa (by omega) (by omega)]
     rw [show rA i (λ_=>0)++[rq 0]=rA (i+1) (λ_=>0) from Ws i _]
     exact ih (i+1) (by omega) (by omega)
   . obtain rfl:i=A:=by omega
     rw [QG (by omega)]
 unfold f64
 exact loop (k0:=λz_2=>some z_2) n 0 (by omega) (by omega)

theorem B9x {n A:Nat} (hA:A<=100) (hn:68719476736<=n):Xo n (A:Int)=some (rA A λ_=>0):=by
 rw [B13 (by omega) (by omega),B4u]

theorem Xj {α:Type} {n A L:Nat} {f v g w:Rat} {a b c d a2 c2:Nat->Rat} (sa:∀ i,Sz (a i) L) (sb:∀ i,Sz (b i) L) (sc:∀ i,Sz (c i) L) (sd:∀ i,Sz (d i) L) (hA:A<=100) (hL:L<=100000) (hn:68719476736<=n) (ha:∀ i,a2 i=a i+b i) (hc:∀ i,c2 i=c i+d i) {R S:Rt} {k0:Bool->Bool->Bool->List Int->List Int->Bool->List Int->List Int->List Rt->Option α}:∀ (m i:Nat),i<=A->A<i+m ->
  A0l n m (rA A a) (A:Int) (i:Int) (rq f).1 (rq f).2.1 (rq f).2.2 (rA A a) (rq v).1 (rq v).2.1 (rq v).2.2 (rq g).1 (rq g).2.1 (rq g).2.2 (rA A b) (rq w).1 (rq w).2.1 (rq w).2.2 false false R.1 R.2.1 R.2.2 S.1 S.2.1 S.2.2 (rA i a2) k0=k0 false false R.1 R.2.1 R.2.2 S.1 S.2.1 S.2.2 (rA A a2)
 | 0,i,hi,hm=>by omega
 | m+1,i,hi,hm=>by
  rw [Awz];unfold A4g;rw [QK];by_cases h:i<A
  . rw [QJ (by omega),Cf,A3 (by simp;omega),QP,Et h]
    dsimp only
    rw [Cf,A3 (by simp;omega),Et h,Rg (sa i) (sb i) (by omega) hn,A0,A3 (by rw [Cf];simp;omega),Aa (by omega) (by omega),<- ha i,Ws]
    exact Xj (f:=f) (v:=v) (g:=g) (w:=w) (a:=a) (b:=b) (c:=c) (d:=d) (a2:=a2) (c2:=c2) sa sb sc sd hA hL hn ha hc m (i+1) (by omega) (by omega)
  . obtain rfl:i=A:=by omega
    rw [QG (by omega)]

theorem B5h {n A L:Nat} {f v g w:Rat} {a b c d:Nat->Rat} (sf:Sz f L) (sg:Sz g L) (sv:Sz v L) (sw:Sz w L) (sa:∀ i,Sz (a i) L) (sb:∀ i,Sz (b i) L) (sc:∀ i,Sz (c i) L) (sd:∀ i,Sz (d i) L) (hA:A<=100) (hL:L<=100000) (hn:68719476736<=n) :
  f165 n (gn A f v a) (gn A g w b)=some (gn A (f+g) (v+w) (λi=>a i+b i)):=by
 unfold f165 gn;dsimp only
 rw [Rg sf sg (by omega) hn,A0,Rg sv sw (by omega) hn,A0,Cf,QK]
 by_cases h:0<A
 . rw [QJ (by omega),A3 (by simp;omega),Et h,Cf,A3 (by simp;omega),Et h,Rg (sa 0) (sb 0) (by omega) hn,A0]
   have hl:=Xj (n:=n) (A:=A) (f:=f) (v:=v) (g:=g) (w:=w) sa sb sc sd hA hL hn (a2:=(λi=>a i+b i)) (c2:=(λi=>c i+d i)) (λ_=>rfl) (λ_=>rfl) (R:=rq (f+g)) (S:=rq (v+w))
    (k0:=λz_9 z_10 z_11 z_12 z_13 z_14 z_15 z_16 z_17=>(some (((z_11,z_12,z_13),z_17,(),z_14,z_15,z_16):Jn))) n 1 (by omega) (by omega)
   exact hl
 . obtain rfl:A=0:=by omega
   rw [QG (by omega)];rfl

theorem Vs {α:Type} {n A L:Nat} {f v g w:Rat} {a b c d a2 c2:Nat->Rat} (sf:Sz f L) (sg:Sz g L) (sv:Sz v L) (sw:Sz w L) (sa:∀ i,Sz (a i) L) (sb:∀ i,Sz (b i) L) (sc:∀ i,Sz (c i) L) (sd:∀ i,Sz (d i) L) (hA:A<=100) (hL:L<=100000) (hn:68719476736<=n) (ha:∀ i,a2 i=a i*g+f*b i) (hc:∀ i,c2 i=c i*g+a i*w+v*b i+f*d i) {R S:Rt} {k0:Bool->Bool->Bool->List Int->List Int->Bool->List Int->List Int->List Rt->Option α}:∀ (m i:Nat),i<=A->A<i+m ->
  A0k n m (rA A a) (A:Int) (i:Int) (rq f).1 (rq f).2.1 (rq f).2.2 (rA A a) (rq v).1 (rq v).2.1 (rq v).2.2 (rq g).1 (rq g).2.1 (rq g).2.2 (rA A b) (rq w).1 (rq w).2.1 (rq w).2.2 false false R.1 R.2.1 R.2.2 S.1 S.2.1 S.2.2 (rA i a2) k0=k0 false false R.1 R.2.1 R.2.2 S.1 S.2.1 S.2.2 (rA A a2)
 | 0,i,hi,hm=>by omega
 | m+1,i,hi,hm=>by
  rw [Awt];unfold A4d;rw [QK];by_cases h:i<A
  . rw [QJ (by omega),Cf,A3 (by simp;omega),QP,Et h]
    dsimp only
    have tm:∀ {x y:Rat},Sz x L->Sz y L->f162 n ((rq x).1,(rq x).2.1,(rq x).2.2) (rq y)=some (rq (x*y)):=λhx hy=>Ck hx hy (by omega) hn
    have tm2:∀ {x y:Rat},Sz x L->Sz y L->f162 n (rq x) ((rq y).1,(rq y).2.1,(rq y).2.2)=some (rq (x*y)):=λhx hy=>Ck hx hy (by omega) hn
    have tm0:∀ {x y:Rat},Sz x L->Sz y L->f162 n (rq x) (rq y)=some (rq (x*y)):=λhx hy=>Ck hx hy (by omega) hn
    rw [Cf,A3 (by simp;omega),Et h,tm2 (sa i) sg,A0,tm sf (sb i),A0,Rg (Ah (sa i) sg) (Ah sf (sb i)) (by omega) hn,A0,A3 (by rw [Cf];simp;omega),Aa (by omega) (by omega),<- ha i,Ws]
    exact Vs (c:=c) (d:=d) (c2:=c2) sf sg sv sw sa sb sc sd hA hL hn ha hc m (i+1) (by omega) (by omega)
  . obtain rfl:i=A:=by omega
    rw [QG (by omega)]

theorem B14 {n A L:Nat} {f v g w:Rat} {a b c d:Nat->Rat} (sf:Sz f L) (sg:Sz g L) (sv:Sz v L) (sw:Sz w L) (sa:∀ i,Sz (a i) L) (sb:∀ i,Sz (b i) L) (sc:∀ i,Sz (c i) L) (sd:∀ i,Sz (d i) L) (hA:A<=100) (hL:L<=100000) (hn:68719476736<=n) :
  f167 n (gn A f v a) (gn A g w b)=some (gn A (f*g) (v*g+f*w) (λi=>a i*g+f*b i)):=by
 have tm0:∀ {x y:Rat},Sz x L->Sz y L->f162 n (rq x) (rq y)=some (rq (x*y)):=λhx hy=>Ck hx hy (by omega) hn
 unfold f167 gn;dsimp only
 rw [tm0 sf sg,A0,tm0 sv sg,A0,tm0 sf sw,A0,Rg (Ah sv sg) (Ah sf sw) (by omega) hn,A0,Cf,QK]
 by_cases h:0<A
 . rw [QJ (by omega),A3 (by simp;omega),Et h,Cf,A3 (by simp;omega),Et h,tm0 (sa 0) sg,A0,tm0 sf (sb 0),A0,Rg (Ah (sa 0) sg) (Ah sf (sb 0)) (by omega) hn,A0]
   have hl:=Vs (n:=n) (A:=A) sf sg sv sw sa sb sc sd hA hL hn (a2:=(λi=>a i*g+f*b i)) (c2:=(λi=>c i*g+a i*w+v*b i+f*d i)) (λ_=>rfl) (λ_=>rfl) (R:=rq (f*g)) (S:=rq (v*g+f*w))
    (k0:=λz_9 z_10 z_11 z_12 z_13 z_14 z_15 z_16 z_17=>(some (((z_11,z_12,z_13),z_17,(),z_14,z_15,z_16):Jn))) n 1 (by omega) (by omega)
   exact hl
 . obtain rfl:A=0:=by omega
   rw [QG (by omega)];rfl

theorem A6u {α:Type} {n A L:Nat} {f v k:Rat} {a c a2 c2:Nat->Rat} {s4:(Bool × List Int × List Int × List Rt × Unit × Bool × List Int × List Int) × Rt} (sk:Sz k L) (sa:∀ i,Sz (a i) L) (sc:∀ i,Sz (c i) L) (hA:A<=100) (hL:L<=100000) (hn:68719476736<=n) (ha:∀ i,a2 i=a i*k) (hc:∀ i,c2 i=c i*k) {R S:Rt} {k0:Bool->Bool->Bool->List Int->List Int->Bool->List Int->List Int->List Rt->Option α}:∀ (m i:Nat),i<=A->A<i+m ->
  G1 n m (rq k) s4 (rA A a) (A:Int) (i:Int) (rq f).1 (rq f).2.1 (rq f).2.2 (rA A a) (rq v).1 (rq v).2.1 (rq v).2.2 false false R.1 R.2.1 R.2.2 S.1 S.2.1 S.2.2 (rA i a2) k0=k0 false false R.1 R.2.1 R.2.2 S.1 S.2.1 S.2.2 (rA A a2)
 | 0,i,hi,hm=>by omega
 | m+1,i,hi,hm=>by
  rw [A1b];unfold I7;rw [QK];by_cases h:i<A
  . rw [QJ (by omega),Cf,A3 (by simp;omega),QP,Et h]
    dsimp only
    have e221:f208 n (rq (a i)) (rq k)=some (rq (a i*k)):=by unfold f208;rw [Ck (sa i) sk (by omega) hn,A0]
    rw [e221,A0,A3 (by rw [Cf];simp;omega),Aa (by omega) (by omega),<- ha i,Ws]
    exact A6u (f:=f) (v:=v) (c:=c) (c2:=c2) sk sa sc hA hL hn ha hc m (i+1) (by omega) (by omega)
  . obtain rfl:i=A:=by omega
    rw [QG (by omega)]

theorem Bef {n A L:Nat} {f v k:Rat} {a c:Nat->Rat} (sf:Sz f L) (sv:Sz v L) (sk:Sz k L) (sa:∀ i,Sz (a i) L) (sc:∀ i,Sz (c i) L) (hA:A<=100) (hL:L<=100000) (hn:68719476736<=n) :
  f166 n (gn A f v a) (rq k)=some (gn A (f*k) (v*k) (λi=>a i*k)):=by
 have e221:f208 n (rq (a 0)) (rq k)=some (rq (a 0*k)):=by unfold f208;rw [Ck (sa 0) sk (by omega) hn,A0]
 unfold f166 gn;dsimp only
 rw [Ck sf sk (by omega) hn,A0,Ck sv sk (by omega) hn,A0]
 unfold Or;dsimp only;rw [Cf,QK];by_cases h:0<A
 . rw [QJ (by omega),A3 (by simp;omega),Et h,e221,A0]
   have hl:=A6u (n:=n) (A:=A) (f:=f) (v:=v) (s4:=(((rq f).1,(rq f).2.1,(rq f).2.2,rA A a,(),(rq v).1,(rq v).2.1,(rq v).2.2),rq k)) sk sa sc hA hL hn (a2:=(λi=>a i*k)) (c2:=(λi=>c i*k)) (λ_=>rfl) (λ_=>rfl) (R:=rq (f*k)) (S:=rq (v*k))
    (k0:=λz_9 z_10 z_11 z_12 z_13 z_14 z_15 z_16 z_17=>(some (((z_11,z_12,z_13),z_17,(),z_14,z_15,z_16):Jn))) n 1 (by omega) (by omega)
   exact XC (λz=>ob z λr_3=>some r_3) hl
 . obtain rfl:A=0:=by omega
   rw [QG (by omega),A0];rfl

theorem Vt {α:Type} {n A L:Nat} {f v d e:Rat} {a c a2 c2:Nat->Rat} {s4:Rt × (Bool × List Int × List Int × List Rt × Unit × Bool × List Int × List Int) × Rt} (sd:Sz d L) (se:Sz e L) (sv:Sz v L) (sa:∀ i,Sz (a i) L) (sc:∀ i,Sz (c i) L) (hA:A<=100) (hL:L<=100000) (hn:68719476736<=n) (ha:∀ i,a2 i=d*a i) (hc:∀ i,c2 i=e*a i*v+d*c i) {R S:Rt} {k0:Bool->Bool->Bool->List Int->List Int->Bool->List Int->List Int->List Rt->Option α}:∀ (m i:Nat),i<=A->A<i+m ->
  G0 n m (rq d) s4 (rA A a) (A:Int) (i:Int) (rq f).1 (rq f).2.1 (rq f).2.2 (rA A a) (rq v).1 (rq v).2.1 (rq v).2.2 false false R.1 R.2.1 R.2.2 S.1 S.2.1 S.2.2 (rA i a2) k0=k0 false false R.1 R.2.1 R.2.2 S.1 S.2.1 S.2.2 (rA A a2)
 | 0,i,hi,hm=>by omega
 | m+1,i,hi,hm=>by
  rw [A17];unfold I4;rw [QK];by_cases h:i<A
  . rw [QJ (by omega),Cf,A3 (by simp;omega),QP,Et h]
    dsimp only
    have e232:f221 n (rq (a i)) (rq d)=some (rq (d*a i)):=by unfold f221;rw [Ck sd (sa i) (by omega) hn,A0]
    rw [e232,A0,A3 (by rw [Cf];simp;omega),Aa (by omega) (by omega),<- ha i,Ws]
    exact Vt (f:=f) (c:=c) (c2:=c2) sd se sv sa sc hA hL hn ha hc m (i+1) (by omega) (by omega)
  . obtain rfl:i=A:=by omega
    rw [QG (by omega)]

theorem Aga {n A L:Nat} {f v g d e:Rat} {a c:Nat->Rat} (sv:Sz v L) (sd:Sz d L) (se:Sz e L) (sa:∀ i,Sz (a i) L) (sc:∀ i,Sz (c i) L) (hA:A<=100) (hL:L<=100000) (hn:68719476736<=n) :
  f210 n (gn A f v a) (rq g) (rq d) (rq e)=some (gn A g (d*v) (λi=>d*a i)):=by
 have e232:f221 n (rq (a 0)) (rq d)=some (rq (d*a 0)):=by unfold f221;rw [Ck sd (sa 0) (by omega) hn,A0]
 unfold f210 gn;dsimp only
 rw [Ck sd sv (by omega) hn,A0]
 unfold Ol;dsimp only;rw [Cf,QK];by_cases h:0<A
 . rw [QJ (by omega),A3 (by simp;omega),Et h,e232,A0]
   have hl:=Vt (n:=n) (A:=A) (f:=f) (s4:=(rq e,((rq f).1,(rq f).2.1,(rq f).2.2,rA A a,(),rq v),rq d)) sd se sv sa sc hA hL hn (a2:=(λi=>d*a i)) (c2:=(λi=>e*a i*v+d*c i)) (λ_=>rfl) (λ_=>rfl) (R:=rq g) (S:=rq (d*v))
    (k0:=λz_9 z_10 z_11 z_12 z_13 z_14 z_15 z_16 z_17=>(some (((z_11,z_12,z_13),z_17,(),z_14,z_15,z_16):Jn))) n 1 (by omega) (by omega)
   exact XC (λz=>ob z λr_2=>some r_2) hl
 . obtain rfl:A=0:=by omega
   rw [QG (by omega),A0];rfl

def B2 (A i:Nat):Nat->Rat:=λk=>if k=i/\i<A then 1 else 0

structure Mh (R:Nat->Q4) (L:Nat):Prop where
 f:∀ i,(R i).f=(R 0).f
 v:∀ i,(R i).v=(R 0).v
 s:∀ i,Gi (R i) L

theorem Mh.mono {R:Nat->Q4} {L K:Nat} (h:Mh R L) (hK:L<=K):Mh R K:=⟨h.f,h.v,λi=>(h.s i).mono hK⟩

theorem Ap1 {r:Rat} {L:Nat} (h:Sz r L) (h1:1<=L):Mh (λ_=>Q4.cst r) L:=⟨λ_=>rfl,λ_=>rfl,λ_=>Aoz h h1⟩

def Zd (A:Nat) (p:Nat->Bool):Bool:=(List.range A).all p

theorem Bdo {A:Nat} {g:Nat->Rat}:((List.range A).map g).all B5=Zd A λi=>B5 (g i):=by simp [Zd,YA,JU]

theorem B5g {n A:Nat} {g:Nat->Rat} (hA:A<=100) (hn:68719476736<=n):∃ l,f51 n (rA A g)=some (l,if Zd A (λi=>B5 (g i))=true then 0 else 7):=by
 have e:rA A g=vq ((List.range A).map g):=by simp [rA,vq,JU]
 rw [e,Aub (by simp;omega) (by omega),Bdo]
 by_cases h:Zd A (λi=>B5 (g i))=true
 . rw [QJ h,QJ h];exact ⟨_,rfl⟩
 . rw [QG h,QG h];exact ⟨_,rfl⟩

theorem B0e {A:Nat} {x w:Nat->Rat} {ls:Nat->List Q4} (hf:∀ k i,((ls i).getD k (Q4.cst 0)).f=((ls 0).getD k (Q4.cst 0)).f/\((ls i).getD k (Q4.cst 0)).v=((ls 0).getD k (Q4.cst 0)).v) (n:Nod) (i:Nat) :
  (Au x (B2 A i) w (ls i) n).f=(Au x (B2 A 0) w (ls 0) n).f/\(Au x (B2 A i) w (ls i) n).v=(Au x (B2 A 0) w (ls 0) n).v:=by
 have h:Dm x (λb:Bool=>bif b then B2 A i else B2 A 0) (λ_=>w) (λp=>(p true).f=(p false).f/\(p true).v=(p false).v):=by
  refine ⟨λ_=>⟨rfl,rfl⟩,λ_=>⟨rfl,rfl⟩,λh1 h2=>?_,λh1=>?_,λh1 h2=>?_,λh1=>?_⟩ <;> simp only [Q4.add,Q4.neg,Q4.mul,Q4.inv,h1] <;> (try simp only [h2]) <;> (try simp only [JF])
 exact h.of (l:=λb=>bif b then ls i else ls 0) (λk=>hf k i) n

def Aj (A:Nat) (R:Nat->Q4):Jn:=gn A (R 0).f (R 0).v (λi=>(R i).a)

theorem A6o {A:Nat} {f v:Rat} {a:Nat->Rat} {R:Nat->Q4} (hf:f=(R 0).f) (hv:v=(R 0).v) (ha:∀ i,a i=(R i).a):gn A f v a=Aj A R:=by
 unfold Aj gn;rw [hf,hv,A2h λi _=>ha i]

theorem Au7 {n A:Nat} {f:Rat} (hA:A<=100) (hn:68719476736<=n):f163 n ((A:Int),()) (rq f)=some (Aj A λ_=>Q4.cst f):=by
 unfold f163;dsimp only;rw [Bed hA hn,A0,iW0 hn,A0];rfl

theorem Ag1 {n A L:Nat} {P Q:Nat->Q4} (hP:Mh P L) (hQ:Mh Q L) (hA:A<=100) (hL:L<=100000) (hn:68719476736<=n):f165 n (Aj A P) (Aj A Q)=some (Aj A λi=>Q4.add (P i) (Q i)) :=
 B5h (hP.s 0).f (hQ.s 0).f (hP.s 0).v (hQ.s 0).v (λi=>(hP.s i).a) (λi=>(hQ.s i).a) (λi=>(hP.s i).c) (λi=>(hQ.s i).c) hA hL hn

theorem Amf {n A L:Nat} {P:Nat->Q4} (hP:Mh P L) (h2:2<=L) (hA:A<=100) (hL:L<=100000) (hn:68719476736<=n):f166 n (Aj A P) (rq (-1))=some (Aj A λi=>Q4.neg (P i)):=by
 have h:=Bef (n:=n) (A:=A) (hP.s 0).f (hP.s 0).v (k:=-1) (D9 (Lv (by omega))) (λi=>(hP.s i).a) (λi=>(hP.s i).c) hA hL hn
 refine Eq.trans h (XC some ?_);refine A6o ?_ ?_ (λi=>?_) <;> simp only [Q4.neg] <;> grind

theorem Abr {n A L:Nat} {P Q:Nat->Q4} (hP:Mh P L) (hQ:Mh Q L) (hA:A<=100) (hL:L<=100000) (hn:68719476736<=n):f167 n (Aj A P) (Aj A Q)=some (Aj A λi=>Q4.mul (P i) (Q i)):=by
 have h:=B14 (n:=n) (A:=A) (hP.s 0).f (hQ.s 0).f (hP.s 0).v (hQ.s 0).v (λi=>(hP.s i).a) (λi=>(hQ.s i).a) (λi=>(hP.s i).c) (λi=>(hQ.s i).c) hA hL hn;refine Eq.trans h (XC some ?_);refine A6o ?_ ?_ (λi=>?_)
 . rfl
 . rfl
 . simp only [Q4.mul,hP.f i,hQ.f i]

theorem B54 {n A L:Nat} {P:Nat->Q4} (hP:Mh P L) (h0:(P 0).f ≠ 0) (hA:A<=100) (hL:L<=10000) (hn:68719476736<=n):f169 n (Aj A P)=some (Aj A λi=>Q4.inv (P i)):=by
 have r:=A8v (hP.s 0).f h0;have r2:=Ah r r;have r3:=Ah r2 r
 have k2:Sz 2 1:=A8u (c:=2) (by omega)
 unfold f169
 rw [iW1 hn,A0,show (Aj A P).1=rq (P 0).f from rfl,iOv (Lv (L:=1) (by omega)) (hP.s 0).f h0 (by omega) hn,A0,Ck r r (by omega) hn,A0,iNg r2 (by omega),A0,Ck r2 r (by omega) hn,A0,iW2 hn,A0,Ck r3 k2 (by omega) hn,A0]
 have h:=Aga (n:=n) (A:=A) (L:=8*L+100) (f:=(P 0).f) (g:=1 / (P 0).f) (d:=-(1 / (P 0).f*(1 / (P 0).f))) (e:=1 / (P 0).f*(1 / (P 0).f)*(1 / (P 0).f)*2) ((hP.s 0).v.mono (by omega)) ((D9 r2).mono (by omega)) ((Ah r3 k2).mono (by omega)) (λi=>(hP.s i).a.mono (by omega)) (λi=>(hP.s i).c.mono (by omega)) hA (by omega) hn
 have h:f210 n (rq (P 0).f,(Aj A P).2.1,(),(Aj A P).2.2.2) (rq (1 / (P 0).f)) (rq (-(1 / (P 0).f*(1 / (P 0).f)))) (rq (1 / (P 0).f*(1 / (P 0).f)*(1 / (P 0).f)*2))=_:=h;rw [h,A0];refine XC some (A6o ?_ ?_ (λi=>?_))
 . rfl
 . simp only [Q4.inv];grind
 . simp only [Q4.inv,hP.f i];grind

theorem Apq {n A L k:Nat} {P:Nat->Q4} (hP:Mh P L) (hL:L<=1000) (hk:k<=8) (hn:68719476736<=n):f161 n (Aj A P) (k:Int)=some (rq (Q4.d1 (P 0).f k),rq (Q4.d2 (P 0).f k)):=by
 have:=Abt (n:=n) (f:=(P 0).f) (v:=0) (hP.s 0).f hL hk hn;exact this

theorem Au5 {n A L k:Nat} {P:Nat->Q4} (hP:Mh P L) (hA:A<=100) (hL:L<=1000) (hk:k<=8) (hn:68719476736<=n):f171 n (Aj A P) (k:Int)=some (Aj A λi=>Q4.pow (P i) k):=by
 unfold f171
 rw [Apq hP hL hk hn,A0,show (Aj A P).1=rq (P 0).f from rfl,M6 (hP.s 0).f (by omega) (by omega) hn,A0]
 have h:=Aga (n:=n) (A:=A) (L:=8*L+100) (f:=(P 0).f) (g:=(P 0).f ^ k) (d:=Q4.d1 (P 0).f k) (e:=Q4.d2 (P 0).f k) ((hP.s 0).v.mono (by omega)) ((Aem (hP.s 0).f hk).mono (by omega)) ((Bff (hP.s 0).f hk).mono (by omega)) (λi=>(hP.s i).a.mono (by omega)) (λi=>(hP.s i).c.mono (by omega)) hA (by omega) hn
 dsimp only;have h:f210 n (Aj A P) (rq ((P 0).f ^ k)) (rq (Q4.d1 (P 0).f k)) (rq (Q4.d2 (P 0).f k))=_:=h;rw [h,A0];refine XC some (A6o ?_ ?_ (λi=>?_))
 . simp only [Q4.pow_eq]
 . simp only [Q4.pow_eq]
 . simp only [Q4.pow_eq,hP.f i]

def Oa (A:Nat) (R:Nat->Q4):Bool:=B5 (R 0).f&&(B5 (R 0).v&&(Zd A (λi=>B5 (R i).a)))

theorem B0r {n A:Nat} {R:Nat->Q4} (hA:A<=100) (hn:68719476736<=n):f180 n (Aj A R)=some (Oa A R):=by
 obtain ⟨l1,e1⟩:=B5g (n:=n) (A:=A) (g:=λi=>(R i).a) hA hn

 unfold f180 Aj gn;dsimp only;rw [e1,A0,A2m hn,A0,Mq,A0,Mq];unfold Oa
 cases B5 (R 0).f
 . rfl
 cases B5 (R 0).v
 . rfl
 cases Zd A (λi=>B5 (R i).a)
 . rfl
 rfl

theorem B53 {n A:Nat} {f:Rat} {k:Int} {V:List Rat} (hk:0<=k/\k<V.length) (hA:A<=100) (hn:68719476736<=n):f164 n ((A:Int),()) (rq f) k=some (Aj A λi=>⟨f,B2 A i k.toNat,0,0⟩):=by
 unfold f164 Aef;dsimp only;rw [B9x hA hn,A0,iW0 hn,A0,A0,QK];dsimp only;by_cases h:k<(A:Int)
 . rw [QJ h,iW1 hn,A0,Cf,A3 (by simp;omega),A3 (by simp;omega),B9h]
   refine XC some ?_;unfold Aj gn
   rw [A2h (h:=λi=>B2 A i k.toNat) (g:=λi=>if k.toNat=i then 1 else 0) λi hi=>by unfold B2;by_cases e:k.toNat=i <;> simp [e,hi]]
   try rfl
 . rw [QG h];refine XC some ?_;unfold Aj gn
   rw [A2h (h:=λi=>B2 A i k.toNat) (g:=λ_=>0) λi hi=>by unfold B2;rw [QG (by omega)]]

theorem Amg {A N k:Nat} {ls:Nat->List Q4} (h:k<N):((List.range N).map λk=>Aj A λi=>(ls i).getD k (Q4.cst 0)).getD k ((false,[],[]),[],(),(false,[],[]))=Aj A λi=>(ls i).getD k (Q4.cst 0):=by
 simp [QL,h]

theorem Au6 {n A N:Nat} {X V:List Rat} {ls:Nat->List Q4} {x:Nod} (hl:∀ i,(ls i).length=N) (hx:D5 x N) (hd:x.1=2->x.2.2.2<X.length/\x.2.2.2<V.length) (hs:∀ k,Mh (λi=>(ls i).getD k (Q4.cst 0)) 40) (hA:A<=100) (hn:68719476736<=n) :
  A0v n ((A:Int),()) x (vq X) ((List.range N).map λk=>Aj A λi=>(ls i).getD k (Q4.cst 0))=some ((if x.1=6/\((ls 0).getD x.2.2.1.toNat (Q4.cst 0)).f=0 then (((false,[],[]),[],(),(false,[],[])),10) else if x.1=8/\B5 (((ls 0).getD x.2.1.toNat (Q4.cst 0)).f ^ x.2.2.2.toNat)=false then (((false,[],[]),[],(),(false,[],[])),7) else (Aj A (λi=>Au (Af X) (B2 A i) (λ_=>0) (ls i) x),0)),(List.range N).map λk=>Aj A λi=>(ls i).getD k (Q4.cst 0)):=by
 obtain ⟨op,a,b,m⟩:=x;obtain ⟨⟨o1,o2⟩,hN,ha,hb⟩:=hx
 have hll:((List.range N).map λk=>Aj A λi=>(ls i).getD k (Q4.cst 0)).length=N:=by simp
 unfold A0v;simp only [Xq,A0];unfold Jz at hN;unfold Dc at ha hb ⊢;dsimp only at *;generalize hJ:((List.range N).map λk=>Aj A λi=>(ls i).getD k (Q4.cst 0))=J at hll ⊢
 have get:∀ {k:Nat},k<N->J.getD k ((false,[],[]),[],(),(false,[],[]))=Aj A λi=>(ls i).getD k (Q4.cst 0):=λ{k} hk=>by rw [<- hJ];exact Amg hk
 obtain rfl | rfl | rfl | rfl | rfl | rfl | rfl | rfl:op=1 \/ op=2 \/ op=3 \/ op=4 \/ op=5 \/ op=6 \/ op=7 \/ op=8:=by omega
 . simp only [Au,Int.reduceEq,Qar,if_false,if_true,Int.reduceBEq,ZJ,QQ,Int.reduceLT,gt_iff_lt,decide_false,JB] at *
   rw [iW (by omega) hn,A0,Au7  hA hn,A0]
 . simp only [Au,Int.reduceEq,Qar,if_false,if_true,Int.reduceBEq,ZJ,QQ,Int.reduceLT,gt_iff_lt,decide_false,JB] at *;have hd:=hd trivial
   rw [Bp,A3 (by simp;omega),Ff (by omega),B53 (V:=V) ⟨hN.1,hd.2⟩ hA hn,A0];rfl
 all_goals simp only [Au,Int.reduceEq,Qar,or_true,true_or,if_false,if_true,Int.reduceBEq,ZJ,QQ,Int.reduceLT,gt_iff_lt,decide_true,JB,KP] at *
 all_goals (have lA:a.toNat<N:=by omega)
 all_goals (have lB:b.toNat<N:=by omega)
 all_goals (rw [hll,A3 (by simp;omega),A3 (by simp;omega),A3 (by simp;omega),A3 (by simp;omega),get lA])
 all_goals (try rw [get lB])
 all_goals (have a1:=hs a.toNat;have b1:=hs b.toNat)
 all_goals (generalize hP:(λi=>(ls i).getD a.toNat (Q4.cst 0))=P at a1 ⊢;generalize hQ:(λi=>(ls i).getD b.toNat (Q4.cst 0))=Q at b1 ⊢)
 all_goals (have eP:∀ i,(ls i).getD a.toNat (Q4.cst 0)=P i:=λi=>congrFun hP i)
 all_goals (have eQ:∀ i,(ls i).getD b.toNat (Q4.cst 0)=Q i:=λi=>congrFun hQ i)
 all_goals simp only [eP,eQ]
 . have e:f165 n (Aj A P) (Aj A Q)=_:=Ag1 a1 b1 hA (by omega) hn
   have e:f165 n (((Aj A P).1.1,(Aj A P).1.2.1,(Aj A P).1.2.2),(Aj A P).2.1,(),(Aj A P).2.2.2.1,(Aj A P).2.2.2.2.1,(Aj A P).2.2.2.2.2) (((Aj A Q).1.1,(Aj A Q).1.2.1,(Aj A Q).1.2.2),(Aj A Q).2.1,(),(Aj A Q).2.2.2.1,(Aj A Q).2.2.2.2.1,(Aj A Q).2.2.2.2.2)=some _:=e;rw [e,A0]
 . have e:f166 n (Aj A Q) (rq (-1))=_:=Amf b1 (by omega) hA (by omega) hn
   have e:f166 n (((Aj A Q).1.1,(Aj A Q).1.2.1,(Aj A Q).1.2.2),(Aj A Q).2.1,(),(Aj A Q).2.2.2.1,(Aj A Q).2.2.2.2.1,(Aj A Q).2.2.2.2.2) (rq (-1))=some _:=e
   have nF:Mh (λi=>Q4.neg (Q i)) 40:=⟨λi=>by simp only [Q4.neg,b1.f i],λi=>by simp only [Q4.neg,b1.v i],λi=>Aox (b1.s i)⟩
   have e2:f165 n (Aj A P) (Aj A λi=>Q4.neg (Q i))=_:=Ag1 a1 nF hA (by omega) hn
   have e2:f165 n (((Aj A P).1.1,(Aj A P).1.2.1,(Aj A P).1.2.2),(Aj A P).2.1,(),(Aj A P).2.2.2.1,(Aj A P).2.2.2.2.1,(Aj A P).2.2.2.2.2) (Aj A λi=>Q4.neg (Q i))=some _:=e2;rw [iWm hn,A0,e,A0,e2,A0]
 . have e:f167 n (Aj A P) (Aj A Q)=_:=Abr a1 b1 hA (by omega) hn
   have e:f167 n (((Aj A P).1.1,(Aj A P).1.2.1,(Aj A P).1.2.2),(Aj A P).2.1,(),(Aj A P).2.2.2.1,(Aj A P).2.2.2.2.1,(Aj A P).2.2.2.2.2) (((Aj A Q).1.1,(Aj A Q).1.2.1,(Aj A Q).1.2.2),(Aj A Q).2.1,(),(Aj A Q).2.2.2.1,(Aj A Q).2.2.2.2.1,(Aj A Q).2.2.2.2.2)=some _:=e;rw [e,A0]
 . have z:f168 n (rq (Q 0).f)=_:=Ag9;have z:f168 n ((Aj A Q).1.1,(Aj A Q).1.2.1,(Aj A Q).1.2.2)=_:=z;rw [z,A0,QK];by_cases h0:(Q 0).f=0
   . rw [QJ h0,QJ h0]
   . rw [QG h0,QG h0]
     have e:f169 n (Aj A Q)=_:=B54 b1 h0 hA (by omega) hn
     have e:f169 n (((Aj A Q).1.1,(Aj A Q).1.2.1,(Aj A Q).1.2.2),(Aj A Q).2.1,(),(Aj A Q).2.2.2.1,(Aj A Q).2.2.2.2.1,(Aj A Q).2.2.2.2.2)=some _:=e
     have iF:Mh (λi=>Q4.inv (Q i)) 400:=⟨λi=>by simp only [Q4.inv,b1.f i],λi=>by simp only [Q4.inv,b1.f i,b1.v i],λi=>(Aoy (b1.s i) (by rw [b1.f i];exact h0)).mono (by omega)⟩
     have e2:f167 n (Aj A P) (Aj A λi=>Q4.inv (Q i))=_:=Abr (a1.mono (by omega)) iF hA (by omega) hn
     have e2:f167 n (((Aj A P).1.1,(Aj A P).1.2.1,(Aj A P).1.2.2),(Aj A P).2.1,(),(Aj A P).2.2.2.1,(Aj A P).2.2.2.2.1,(Aj A P).2.2.2.2.2) (Aj A λi=>Q4.inv (Q i))=some _:=e2;rw [e,A0,e2,A0]
 . have e:f166 n (Aj A P) (rq (-1))=_:=Amf a1 (by omega) hA (by omega) hn
   have e:f166 n (((Aj A P).1.1,(Aj A P).1.2.1,(Aj A P).1.2.2),(Aj A P).2.1,(),(Aj A P).2.2.2.1,(Aj A P).2.2.2.2.1,(Aj A P).2.2.2.2.2) (rq (-1))=some _:=e;rw [iWm hn,A0,e,A0]
 . obtain ⟨N',rfl⟩:∃ N':Nat,m=(N':Int):=⟨m.toNat,by omega⟩
   have e0:f170 n (rq (P 0).f) (N':Int)=_:=M6 (a1.s 0).f (by omega) (by omega) hn
   have e0:f170 n ((Aj A P).1.1,(Aj A P).1.2.1,(Aj A P).1.2.2) (N':Int)=some _:=e0
   have e:f171 n (Aj A P) (N':Int)=_:=Au5 a1 hA (by omega) (by omega) hn
   have e:f171 n (((Aj A P).1.1,(Aj A P).1.2.1,(Aj A P).1.2.2),(Aj A P).2.1,(),(Aj A P).2.2.2.1,(Aj A P).2.2.2.2.1,(Aj A P).2.2.2.2.2) (N':Int)=some _:=e;rw [e0,A0,Mq,A0,QP]
   cases hfit:B5 ((P 0).f ^ N') with
   | false=>simp only [ZW,ZJ,if_true]
   | true =>
    simp only [ZS,QQ,Bool.true_eq_false,if_false];rw [e,A0]

def W8 (A:Nat) (x w:Nat->Rat):List Nod->(Nat->List Q4)->(Nat->List Q4) ⊕ Int
 | [],ls=>.inl ls
 | n::r,ls=>if Dl (ls 0) n then .inr 10 else if Oa A (λi=>Au x (B2 A i) w (ls i) n)=true then W8 A x w r (λi=>ls i++[Au x (B2 A i) w (ls i) n]) else .inr 7

theorem Pq {l:List Q4} {q:Q4} {k:Nat}:(l++[q]).getD k (Q4.cst 0)=if k<l.length then l.getD k (Q4.cst 0) else if k=l.length then q else Q4.cst 0:=by
 by_cases h:k<l.length
 . rw [QJ h,Ve h]
 . by_cases h2:k=l.length
   . rw [QG h,QJ h2,h2,Vf]
   . rw [QG h,QG h2,Fb (by simp;omega)]

theorem B9g (x w:Nat->Rat):Dm x (λ_:Unit=>λ_=>0) (λ_=>w) (λp=>(p ()).a=0/\(p ()).c=0):=by
 refine ⟨λ_=>⟨rfl,rfl⟩,λ_=>⟨rfl,rfl⟩,λh1 h2=>?_,λh1=>?_,λh1 h2=>?_,λh1=>?_⟩ <;> simp only [Q4.add,Q4.neg,Q4.mul,Q4.inv,h1] <;> (try simp only [h2]) <;> grind

theorem B9f (x u:Nat->Rat):Dm x (λ_:Unit=>u) (λ_=>λ_=>0) (λp=>(p ()).v=0/\(p ()).c=0):=by
 refine ⟨λ_=>⟨rfl,rfl⟩,λ_=>⟨rfl,rfl⟩,λh1 h2=>?_,λh1=>?_,λh1 h2=>?_,λh1=>?_⟩ <;> simp only [Q4.add,Q4.neg,Q4.mul,Q4.inv,h1] <;> (try simp only [h2]) <;> grind

theorem Bdi {A i:Nat} (h:A<=i):B2 A i=λ_=>0:=by funext k;unfold B2;rw [QG (by omega)]

theorem Ak4 {A:Nat} {p:Nat->Bool}:Zd A p=true ↔ ∀ i,i<A->p i=true:=by
 unfold Zd;rw [QH];exact ⟨λh i hi=>h i (XU.2 hi),λh i hi=>h i (XU.1 hi)⟩

structure OkN (A N:Nat) (ls:Nat->List Q4):Prop where
 n:∀ i,(ls i).length=N
 s:∀ k,Mh (λi=>(ls i).getD k (Q4.cst 0)) 40
 z:∀ i,A<=i->∀ k,((ls i).getD k (Q4.cst 0)).a=0/\((ls i).getD k (Q4.cst 0)).c=0
 w:∀ i k,((ls i).getD k (Q4.cst 0)).v=0/\((ls i).getD k (Q4.cst 0)).c=0

theorem B8z (A:Nat):OkN A 0 (λ_=>[]):=⟨λ_=>rfl,λk=>Ap1 (C3.mono (by omega)) (by omega),λi _ k=>⟨rfl,rfl⟩,λi k=>⟨rfl,rfl⟩⟩

theorem B3c {A N:Nat} {x:Nat->Rat} {ls:Nat->List Q4} {nd:Nod} (h:OkN A N ls) (hf:Oa A (λi=>Au x (B2 A i) (λ_=>0) (ls i) nd)=true):OkN A (N+1) (λi=>ls i++[Au x (B2 A i) (λ_=>0) (ls i) nd]):=by
 unfold Oa at hf;simp only [QF,Ak4,K5] at hf;have fam:=B0e (A:=A) (x:=x) (w:=(λ_=>0)) (ls:=ls) (λk i=>⟨(h.s k).f i,(h.s k).v i⟩) nd
 have zu:∀ i,A<=i->(Au x (B2 A i) (λ_=>0) (ls i) nd).a=0/\(Au x (B2 A i) (λ_=>0) (ls i) nd).c=0:=λi hi=>by
  have:=(B9g x (λ_=>0)).of (l:=λ_=>ls i) (λk=>h.z i hi k) nd;rw [Bdi hi];exact this
 have zw:∀ i,(Au x (B2 A i) (λ_=>0) (ls i) nd).v=0/\(Au x (B2 A i) (λ_=>0) (ls i) nd).c=0:=λi=>(B9f x (B2 A i)).of (l:=λ_=>ls i) (λk=>h.w i k) nd
 refine ⟨λi=>by simp [h.n i],λk=>?_,λi hi k=>?_,λi k=>?_⟩
 . have e : (fun i => (ls i ++ [Au x (B2 A i) (fun _ => 0) (ls i) nd]).getD k (Q4.cst 0)) = fun i => if k < N then (ls i).getD k (Q4.cst 0) else if k = N then Au x (B2 A i) (fun _ => 0) (ls i) nd else Q4.cst 0 := by
    funext i;rw [Pq,h.n i]
   rw [e];by_cases h1:k<N
   . simp only [QJ h1];exact h.s k
   . by_cases h2:k=N
     . simp only [QG h1,QJ h2];refine ⟨λi=>(fam i).1,λi=>(fam i).2,λi=>⟨?_,?_,?_,?_⟩⟩
       . rw [(fam i).1];exact hf.1
       . by_cases hi:i<A
         . exact hf.2.2 i hi
         . rw [(zu i (by omega)).1];exact C3.mono (by omega)
       . rw [(fam i).2];exact hf.2.1
       . rw [(zw i).2];exact C3.mono (by omega)
     . simp only [QG h1,QG h2];exact Ap1 (C3.mono (by omega)) (by omega)
 . rw [Pq,h.n i];split
   . exact h.z i hi k
   . split
     . exact zu i hi
     . exact ⟨rfl,rfl⟩
 . rw [Pq,h.n i];split
   . exact h.w i k
   . split
     . exact zw i
     . exact ⟨rfl,rfl⟩

theorem Aja {A:Nat} {x:Nat->Rat}:∀ (ns:List Nod) (ls:Nat->List Q4) (c:Int),W8 A x (λ_=>0) ns ls = .inr c->c=7 \/ c=10
 | [],ls,c,e=>by simp [W8] at e
 | nd::r,ls,c,e=>by
  rw [W8] at e;split at e
  . exact .inr (by simpa using e.symm)
  . split at e
    . exact Aja r _ c e
    . exact .inl (by simpa using e.symm)

theorem Ag2 {α:Type} {n A:Nat} {X V:List Rat} {e:List Nod} (hp:allP e X.length) (he:e.length<=60) (hVX:V.length=X.length) (hA:A<=100) (hn:68719476736<=n)
  {k0:Int->Option α} {k1:List Jn->Option α}:∀ (m N:Nat) (ls:Nat->List Q4),OkN A N ls->N<=e.length->e.length<N+m ->
  S8 n m (vq X) e (e.length:Int) (N:Int) (A:Int) ((List.range N).map λk=>Aj A λi=>(ls i).getD k (Q4.cst 0)) k0 k1=match W8 A (Af X) (λ_=>0) (e.drop N) ls with
   | .inl l'=>k1 ((List.range e.length).map λk=>Aj A λi=>(l' i).getD k (Q4.cst 0))
   | .inr c=>k0 c
 | 0,N,ls,hs,hl,hm=>by omega
 | m+1,N,ls,hs,hl,hm=>by
  rw [Ad9];unfold Uu;rw [QK];by_cases h:N<e.length
  . obtain ⟨h1,h2⟩:=hp _ h
    rw [QJ (by omega),A3 (by simp;omega),QP,N0 h,W8]
    generalize hx:e.getD N (0,0,0,0)=x at h1 h2
    have hg:=Au6 (n:=n) (X:=X) (V:=V) (ls:=ls) hs.n h1 (λh=>⟨h2 h,by rw [hVX];exact h2 h⟩) hs.s hA hn
    dsimp only
    rw [hg,A0,A3 (by simp)]
    by_cases hb:Dl (ls 0) x
    . have hb':x.1=6/\((ls 0).getD x.2.2.1.toNat (Q4.cst 0)).f=0:=hb;rw [QJ hb,QJ hb'];rfl
    . have hb':¬ (x.1=6/\((ls 0).getD x.2.2.1.toNat (Q4.cst 0)).f=0):=hb;rw [QG hb,QG hb'];by_cases h8:x.1=8/\B5 (((ls 0).getD x.2.1.toNat (Q4.cst 0)).f ^ x.2.2.2.toNat)=false
      . rw [QJ h8]
        have:Oa A (λi=>Au (Af X) (B2 A i) (λ_=>0) (ls i) x)=false:=by
         unfold Oa;rw [A2i h8.1,h8.2];rfl
        rw [this,QG (by simp)];rfl
      . rw [QG h8];show (ob (f180 n (Aj A λi=>Au (Af X) (B2 A i) (λ_=>0) (ls i) x)) λr_3=>_)=_;rw [B0r hA hn,A0]
        show (bif (!Oa A (λi=>Au (Af X) (B2 A i) (λ_=>0) (ls i) x)) then k0 7 else _)=_
        cases hf:Oa A (λi=>Au (Af X) (B2 A i) (λ_=>0) (ls i) x) with
        | false=>rfl
        | true =>
         rw [ZS,QQ,A3 (by simp;omega),Aa (by omega) (by omega)]
         simp only [if_true]
         have:=Ag2 hp he hVX hA hn (k0:=k0) (k1:=k1) m (N+1) _ (B3c hs hf) (by omega) (by omega)
         rw [<- this,Qbk,KM]
         have e1:((List.range N).map λk=>Aj A λi=>(ls i++[Au (Af X) (B2 A i) (λ_=>0) (ls i) x]).getD k (Q4.cst 0))=(List.range N).map λk=>Aj A λi=>(ls i).getD k (Q4.cst 0) :=
          ZD λk hk=>by
           congr 1;funext i
           rw [Pq,QJ (by rw [hs.n i];exact XU.1 hk)]
         have e2:(λi=>(ls i++[Au (Af X) (B2 A i) (λ_=>0) (ls i) x]).getD N (Q4.cst 0))=λi=>Au (Af X) (B2 A i) (λ_=>0) (ls i) x:=by
          funext i
          rw [Pq,QG (by rw [hs.n i];omega),QJ (hs.n i).symm]
         rw [e1,QS,XP,e2];rfl
  . obtain rfl:N=e.length:=by omega
    rw [QG (by omega),QW (by omega)]
    rfl

theorem B0q {n A:Nat} {X V:List Rat} {e:List Nod} (hp:allP e X.length) (he:e.length<=60) (hVX:V.length=X.length) (hA:A<=100) (hn:68719476736<=n) :
  f113 n ((A:Int),()) e (vq X)=some (match W8 A (Af X) (λ_=>0) e (λ_=>[]) with
   | .inl l=>((List.range e.length).map λk=>Aj A λi=>(l i).getD k (Q4.cst 0),0)
   | .inr c=>([],c)):=by
 unfold f113
 have:=Ag2 (n:=n) hp he hVX hA hn (k0:=λz_4=>(some (([],z_4):List Jn × Int))) (k1:=λz_5=>some (z_5,0)) n 0 (λ_=>[]) (B8z A) (by omega) (by omega)
 refine Eq.trans this ?_;rw [ZQ]
 cases W8 A (Af X) (λ_=>0) e (λ_=>[]) <;> rfl

theorem B9o {n A:Nat} {X V:List Rat} {e:List Nod} (hp:allP e X.length) (h1:1<=e.length) (he:e.length<=60) (hVX:V.length=X.length) (hA:A<=100) (hn:68719476736<=n) :
  f68 n ((A:Int),()) e (vq X)=some (match W8 A (Af X) (λ_=>0) e (λ_=>[]) with
   | .inl l=>(Aj A λi=>(l i).getD (e.length-1) (Q4.cst 0),0)
   | .inr c=>(((false,[],[]),[],(),(false,[],[])),c)):=by
 unfold f68;rw [B0q hp he hVX hA hn,A0]
 cases hev:W8 A (Af X) (λ_=>0) e (λ_=>[]) with
 | inr c =>
  have hc:(c != 0)=true:=by rcases Aja _ _ _ hev with rfl | rfl <;> rfl
  dsimp only;rw [hc];rfl
 | inl l =>
  simp only [ZG,JT]
  rw [Aa (by omega) (by omega),show ((0:Int) != 0)=false from rfl,QQ,A3 (by simp;omega),show ((e.length:Int)-1).toNat=e.length-1 by omega,Amg (by omega)]

def Jl (P:Int) (s:Jr):Prop:=(∀ x ∈ s.1,0<=x/\x<=255)/\s.1.length<=1048577/\(0<=s.2.1/\s.2.1<=P)/\0<=s.2.2/\s.2.2<2147483648

theorem A45 {n:Nat} {P:Int} {s:Jr} (h:Jl P s) (hP:P<=1099511627776):∃ b s',Mv n s=some (b,s')/\(0<=b/\b<=255)/\Jl (P+1) s':=by
 obtain ⟨l,p,d⟩:=s;obtain ⟨h1,h2,⟨h3,h4⟩,h5,h6⟩:=h;dsimp only at h1 h2 h3 h4 h5 h6;unfold Mv;dsimp only
 rw [Aa (x:=p+1) (by omega) (by omega),Aa (x:=p+1-1) (by omega) (by omega),QK]
 have hb:=Ajr h1 (p+1-1).toNat;by_cases hc:p+1<=(l.length:Int)
 . rw [QJ hc,A3 (by simp;omega),A3 (by simp;omega)]
   generalize l.getD (p+1-1).toNat 0=b at *
   rw [Aa (x:=b) (by omega) (by omega),Aa (x:=d*31) (by omega) (by omega),Aa (x:=d*31+b) (by omega) (by omega),Aa (x:=d*31+b+7) (by omega) (by omega),Fy (by omega)]
   exact ⟨_,_,rfl,by omega,h1,h2,by dsimp only;omega,by dsimp only;omega,by dsimp only;omega⟩
 . rw [QG hc,QK];by_cases hc2:p+1>3000
   . rw [QJ hc2]
     exact ⟨_,_,rfl,by omega,h1,h2,by dsimp only;omega,h5,h6⟩
   . rw [QG hc2,Aa (x:=d*1103515245) (by omega) (by omega),Aa (x:=d*1103515245+12345) (by omega) (by omega),Fy (x:=d*1103515245+12345) (by omega)]
     generalize hz:(d*1103515245+12345) % 2147483648=z
     have hz2:0<=z/\z<2147483648:=by omega
     rw [YQ (a:=z) (by omega),Aa (x:=z / 65536) (by omega) (by omega),Fy (x:=z / 65536) (by omega)]
     exact ⟨_,_,rfl,by omega,h1,h2,by dsimp only;omega,by dsimp only;omega,by dsimp only;omega⟩

theorem Aj4 {n:Nat} {P k:Int} {s:Jr} (h:Jl P s) (hP:P<=1099511627000) (hk:1<k) (hk':k<=1048576):∃ v s',Dr n s k=some (v,s')/\(0<=v/\v<k)/\Jl (P+3) s':=by
 unfold Dr
 rw [QK,QG (by omega),QK]
 obtain ⟨b1,s1,e1,r1,o1⟩:=A45 (n:=n) h (by omega)
 rw [e1];by_cases hc:k<=256
 . rw [QJ hc,A0,A3 (by simp;omega),Fy r1.1]
   have:=Qbi b1 (show k ≠ 0 by omega)
   have:=Qan b1 (show 0<k by omega)
   exact ⟨_,_,rfl,by omega,o1.1,o1.2.1,⟨o1.2.2.1.1,by have:=o1.2.2.1.2;show s1.2.1<=P+3;omega⟩,o1.2.2.2⟩
 . rw [QG hc,A0]
   obtain ⟨b2,s2,e2,r2,o2⟩:=A45 (n:=n) o1 (by omega)
   rw [e2,A0]
   obtain ⟨b3,s3,e3,r3,o3⟩:=A45 (n:=n) o2 (by omega)
   rw [e3,A0];dsimp only
   rw [A3 (by simp;omega),Aa (x:=b1*65536) (by omega) (by omega),Aa (x:=b2*256) (by omega) (by omega),Aa (x:=b1*65536+b2*256) (by omega) (by omega),Aa (x:=b1*65536+b2*256+b3) (by omega) (by omega),Fy (by omega)]
   have:=Qbi (b1*65536+b2*256+b3) (show k ≠ 0 by omega)
   have:=Qan (b1*65536+b2*256+b3) (show 0<k by omega)
   exact ⟨_,_,rfl,by omega,o3.1,o3.2.1,⟨o3.2.2.1.1,by have:=o3.2.2.1.2;show s3.2.1<=P+3;omega⟩,o3.2.2.2⟩

theorem B2v {n:Nat} {P:Int} {s:Jr} (h:Jl P s) (hP:P<=1099511620000) (hn:1048577<=n):∃ (x:Rat) (s':Jr),Qk n s=some (rq x,s')/\Bq x 10 9/\Jl (P+6) s':=by
 unfold Qk
 obtain ⟨a,s1,e1,r1,o1⟩:=Aj4 (n:=n) (k:=21) h (by omega) (by omega) (by omega)
 rw [e1,A0]
 obtain ⟨b,s2,e2,r2,o2⟩:=Aj4 (n:=n) (k:=6) o1 (by omega) (by omega) (by omega)
 rw [e2,A0];dsimp only
 rw [Aa (x:=a-10) (by omega) (by omega),Aa (x:=1+b) (by omega) (by omega)]
 obtain ⟨x,e3,z⟩:=Anj (n:=n) (a:=a-10) (b:=1+b) (by omega) (by omega) hn
 rw [e3,A0]
 exact ⟨x,s2,rfl,z,o2.1,o2.2.1,⟨o2.2.2.1.1,by have:=o2.2.2.1.2;show s2.2.1<=P+6;omega⟩,o2.2.2.2⟩

theorem Be0 {l:List Int} (h:∀ x ∈ l,0<=x/\x<=255) (hl:l.length<=1048577):Jl 0 (l,0,Int.tmod (l.length:Int) 1000) :=
 ⟨h,hl,⟨Int.le_refl _,Int.le_refl _⟩,by rw [Fy (by omega)];dsimp only;omega,by rw [Fy (by omega)];dsimp only;omega⟩

theorem Ac0 {α:Type} {n k:Nat} (hk:k<=1000) (hn:1048577<=n) {k0:List Rt->List Int->Int->Int->Option α}:∀ (m i:Nat) (P:Int) (o:List Rat) (s:Jr),Jl P s->P+6*(k-i:Nat)<=1099511620000->o.length=i->i<=k->k<i+m->Bv o 10 9 ->
  ∃ (x:List Rat) (s':Jr),x.length=k/\Bv x 10 9/\Jl (P+6*(k-i:Nat)) s'/\K6 n m (k:Int) (i:Int) (vq o) s.1 s.2.1 s.2.2 k0=k0 (vq x) s'.1 s'.2.1 s'.2.2
 | 0,i,P,o,s,h1,h2,h3,h4,h5,h6=>by omega
 | m+1,i,P,o,s,h1,h2,h3,h4,h5,h6=>by
  rw [Ac2];unfold Tc;rw [QK];by_cases h:i<k
  . rw [QJ (by omega)]
    obtain ⟨a,s1,e1,r1,o1⟩:=B2v (n:=n) h1 (by omega) hn
    have e1:Qk n (s.1,s.2.1,s.2.2)=_:=e1
    rw [e1,A0,A3 (by simp;omega),Aa (x:=(i:Int)+1) (by omega) (by omega)]
    dsimp only
    obtain ⟨x,s',q1,q2,q3,q4⟩:=Ac0 hk hn (k0:=k0) m (i+1) (P+6) (o++[a]) s1 o1 (by omega) (by simp;omega) (by omega) (by omega) (λc hc=>by
     rcases QD.1 hc with hc | hc
     . exact h6 c hc
     . rw [QR.1 hc];exact r1)
    refine ⟨x,s',q1,q2,?_,?_⟩
    . rw [show P+6*((k-i:Nat):Int)=P+6+6*((k-(i+1):Nat):Int) by omega];exact q3
    . rw [<- q4];simp [vq]
  . rw [QG (by omega)]
    exact ⟨o,s,by omega,h6,by rw [show ((k-i:Nat):Int)=0 by omega];simpa using h1,rfl⟩

theorem B5t {n k:Nat} {l:List Int} (h:∀ x ∈ l,0<=x/\x<=255) (hl:l.length<=1048577) (hk:k<=1000) (hn:1048577<=n):∃ x:List Rat,f21 n l (k:Int)=some (vq x)/\x.length=k/\Bv x 10 9:=by
 unfold f21 A9z;rw [A0];unfold Aq9
 obtain ⟨x,s',q1,q2,_,q4⟩:=Ac0 (k:=k) hk hn (k0:=λz_2 z_3 z_4 z_5=>some (z_2,(z_3,z_4,z_5))) n 0 0 [] _ (Be0 h hl) (by omega) rfl (by omega) (by omega) (λc hc=>by simp at hc)
 have q4:K6 n n (k:Int) 0 [] _ _ _ _=_:=q4;rw [q4,A0];exact ⟨x,rfl,q1,q2⟩

inductive Bg (dim:Int):Nat->Nat->List Nod->Prop
 | num (r k:Nat) (c:Int) (h:0<=c/\c<=5):Bg dim (r+1) k [(1,0,0,c)]
 | var (r k:Nat) (v:Int) (h:0<=v/\v<dim):Bg dim (r+1) k [(2,0,0,v)]
 | neg (r k:Nat) (t:List Nod) (h:Bg dim r k t):Bg dim (r+1) k (t++[(7,((k+t.length:Nat):Int)-1,0,0)])
 | pow (r k:Nat) (t:List Nod) (p:Int) (hp:0<=p/\p<=3) (h:Bg dim (min r 2) k t):Bg dim (r+1) k (t++[(8,((k+t.length:Nat):Int)-1,0,p)])
 | bin (r k:Nat) (t u:List Nod) (op:Int) (ho:3<=op/\op<=6) (h1:Bg dim r k t) (h2:Bg dim r (k+t.length) u) :
   Bg dim (r+1) k (t++u++[(op,((k+t.length:Nat):Int)-1,((k+t.length+u.length:Nat):Int)-1,0)])

theorem Bg.pos {dim:Int} {r k:Nat} {t:List Nod} (h:Bg dim r k t):0<t.length:=by cases h <;> simp <;> omega

theorem Bg.len {dim:Int} {r k:Nat} {t:List Nod} (h:Bg dim r k t):t.length+1<=2 ^ r:=by
 induction h with
 | num r k c h=>have:=Qao (n:=r);simp [YG];omega
 | var r k c h=>have:=Qao (n:=r);simp [YG];omega
 | neg r k t h ih=>simp [YG];have:=h.pos;omega
 | pow r k t p hp h ih =>
  have:=XW (n:=2) (by omega) (show min r 2<=r by omega)
  have:=h.pos;simp [YG];omega
 | bin r k t u op ho h1 h2 ih1 ih2=>simp [YG];omega

theorem O0:∀ (t u:List Nod) (bs ds bs' ds':List Int),Cb bs ds t=some (bs',ds')->Cb bs ds (t++u)=Cb bs' ds' u
 | [],u,bs,ds,bs',ds',h=>by
  simp only [Cb,QC,QI] at h;obtain ⟨rfl,rfl⟩:=h;rfl
 | x::t,u,bs,ds,bs',ds',h=>by
  simp only [Cb,YD] at h ⊢;split at h
  . rename_i hx;rw [QJ hx];exact O0 t u _ _ _ _ h
  . cases h

theorem Nz {bs ds:List Int} {x:Nod} (h:okP bs x bs.length):Cb bs ds [x]=some (bs++[nb bs x bs.length],ds++[nd ds x]):=by
 simp only [Cb,QJ h]

theorem Ie {l m:List Int} {k j:Nat} (h:l.length=k):(l++m).getD (k+j) 0=m.getD j 0:=by
 subst h;simp only [List.getD]
 rw [ZC (by omega),KN]

theorem Q2 {l:List Int} {j:Nat} (h:j<l.length):l.getD j 0 ∈ l:=by
 simp [List.getD,QM h]

theorem C8 {k m:Nat} (h:0<m):(((k+m:Nat):Int)-1).toNat=k+(m-1):=by omega

theorem Bg.run {dim:Int} (hdim:dim<=4) {r k:Nat} {t:List Nod} (h:Bg dim r k t):∀ (bs ds:List Int),bs.length=k->ds.length=k ->
  ∃ bs' ds',Cb bs ds t=some (bs++bs',ds++ds')/\bs'.length=t.length/\ds'.length=t.length/\bs'.getD (t.length-1) 0=k /\ ∀ x ∈ ds',x<=r:=by
 induction h with
 | num r k c h =>
  intro bs ds hb hd
  refine ⟨[(k:Int)],[1],?_,rfl,rfl,rfl,by simp;omega⟩
  rw [Nz ⟨by unfold Em;simp;omega,by simp⟩]
  simp [nb,nd,hb]
 | var r k v h =>
  intro bs ds hb hd
  refine ⟨[(k:Int)],[1],?_,rfl,rfl,rfl,by simp;omega⟩
  rw [Nz ⟨by unfold Em;simp;omega,by simp⟩]
  simp [nb,nd,hb]
 | neg r k t h ih =>
  intro bs ds hb hd;obtain ⟨b',d',h1,h2,h3,h4,h5⟩:=ih bs ds hb hd;have hp:=h.pos
  have hlen:(bs++b').length=k+t.length:=by simp [hb,h2]
  rw [O0 t _ bs ds _ _ h1,Nz ⟨by rw [hlen];unfold Em;simp;omega,by simp⟩]
  refine ⟨b'++[nb (bs++b') (7,((k+t.length:Nat):Int)-1,0,0) (bs++b').length],d'++[nd (ds++d') (7,((k+t.length:Nat):Int)-1,0,0)],by simp,by simp [h2],by simp [h3],?_,?_⟩
  . have e:(t++[((7:Int),((k+t.length:Nat):Int)-1,(0:Int),(0:Int))]).length-1=b'.length:=by simp [h2]
    rw [e,Cd];simp only [nb]
    rw [QJ (by omega),C8 hp,Ie hb,h4]
  . intro x hx;rcases QD.1 hx with hx | hx
    . have:=h5 x hx;omega
    . simp only [QR] at hx;rw [hx];simp only [nd]
      rw [QG (by omega),QJ (by simp),C8 hp,Ie hd]
      have:d'.getD (t.length-1) 0<=r:=by
       exact h5 _ (Q2 (by omega))
      omega
 | pow r k t p hp0 h ih =>
  intro bs ds hb hd;obtain ⟨b',d',h1,h2,h3,h4,h5⟩:=ih bs ds hb hd;have hp:=h.pos
  have hlen:(bs++b').length=k+t.length:=by simp [hb,h2]
  rw [O0 t _ bs ds _ _ h1,Nz ⟨by rw [hlen];unfold Em;simp;omega,by simp⟩]
  refine ⟨b'++[nb (bs++b') (8,((k+t.length:Nat):Int)-1,0,p) (bs++b').length],d'++[nd (ds++d') (8,((k+t.length:Nat):Int)-1,0,p)],by simp,by simp [h2],by simp [h3],?_,?_⟩
  . have e:(t++[((8:Int),((k+t.length:Nat):Int)-1,(0:Int),p)]).length-1=b'.length:=by simp [h2]
    rw [e,Cd];simp only [nb]
    rw [QJ (by omega),C8 hp,Ie hb,h4]
  . intro x hx;rcases QD.1 hx with hx | hx
    . have:=h5 x hx;omega
    . simp only [QR] at hx;rw [hx];simp only [nd]
      rw [QG (by omega),QJ (by simp),C8 hp,Ie hd]
      have:d'.getD (t.length-1) 0<=((min r 2:Nat):Int):=by
       exact h5 _ (Q2 (by omega))
      omega
 | bin r k t u op ho h1 h2 ih1 ih2 =>
  intro bs ds hb hd;obtain ⟨b1,d1,a1,a2,a3,a4,a5⟩:=ih1 bs ds hb hd;have hp1:=h1.pos;have hp2:=h2.pos
  obtain ⟨b2,d2,c1,c2,c3,c4,c5⟩:=ih2 (bs++b1) (ds++d1) (by simp [hb,a2]) (by simp [hd,a3])
  have hlen:(bs++b1++b2).length=k+t.length+u.length:=by simp [hb,a2,c2];omega
  have eB:(bs++b1++b2).getD (((k+t.length+u.length:Nat):Int)-1).toNat 0=((k+t.length:Nat):Int):=by
   rw [C8 hp2,Ie (by simp [hb,a2]),c4]
  have eA:(bs++b1++b2).getD (((k+t.length:Nat):Int)-1).toNat 0=(k:Int):=by
   rw [C8 hp1,ZP,Ie hb,Cc (by omega),a4]
  have hrun:Cb bs ds (t++u)=some (bs++b1++b2,ds++d1++d2):=by rw [O0 t u bs ds _ _ a1,c1]
  rw [O0 (t++u) _ bs ds _ _ hrun,Nz ⟨by rw [hlen];unfold Em;rw [QJ (show 3<=op/\op<=6 from ho)];simp;omega,λ_=>⟨by rw [hlen],by
   show (bs++b1++b2).getD (((k+t.length+u.length:Nat):Int)-1).toNat 0=(((k+t.length:Nat):Int)-1)+1
   rw [eB];omega⟩⟩]
  refine ⟨b1++b2++[nb (bs++b1++b2) (op,((k+t.length:Nat):Int)-1,((k+t.length+u.length:Nat):Int)-1,0) (bs++b1++b2).length],d1++d2++[nd (ds++d1++d2) (op,((k+t.length:Nat):Int)-1,((k+t.length+u.length:Nat):Int)-1,0)],by simp [ZP],by simp [a2,c2],by simp [a3,c3],?_,?_⟩
  . have e:(t++u++[(op,((k+t.length:Nat):Int)-1,((k+t.length+u.length:Nat):Int)-1,(0:Int))]).length-1=(b1++b2).length:=by simp [a2,c2]
    rw [e,Cd];simp only [nb]
    rw [QJ (by omega),eA]
  . intro x hx;rcases QD.1 hx with hx | hx
    . rcases QD.1 hx with hx | hx
      . have:=a5 x hx;omega
      . have:=c5 x hx;omega
    . simp only [QR] at hx;rw [hx];simp only [nd]
      rw [QJ (by omega),C8 hp1,C8 hp2]
      have g1:(ds++d1++d2).getD (k+(t.length-1)) 0<=r:=by
       rw [ZP,Ie hd,Cc (by omega)]
       exact a5 _ (Q2 (by omega))
      have g2:(ds++d1++d2).getD (k+t.length+(u.length-1)) 0<=r:=by
       rw [Ie (by simp [hd,a3])]
       exact c5 _ (Q2 (by omega))
      omega

theorem Bg.expr {dim:Int} (hdim:dim<=4) {r:Nat} {t:List Nod} (h:Bg dim r 0 t) (hr:r<=5):E9 t:=by
 obtain ⟨bs,ds,h1,h2,h3,h4,h5⟩:=h.run hdim [] [] rfl rfl;have:=h.pos;have h6:=h.len
 have:=XW (n:=2) (by omega) hr
 exact ⟨by omega,bs,ds,by simpa using h1,by simpa using h4,λx hx=>by have:=h5 x hx;omega⟩

theorem Dd.up {P Q:Int} {s:Jr} (h:Dd P s) (hq:P<=Q):Dd Q s:=⟨h.1,h.2.1,⟨h.2.2.1.1,Int.le_trans h.2.2.1.2 hq⟩,h.2.2.2⟩

theorem Kk {n:Nat} {P k:Int} {s:Jr} (h:Dd P s) (hP:P<=1099511627000) (hk:1<=k) (hk':k<=1048576):∃ v s',Dr n s k=some (v,s')/\(0<=v/\v<k)/\Dd (P+3) s':=by
 by_cases h1:k=1
 . subst h1
   exact ⟨0,s,by unfold Dr;rfl,by omega,h.up (by omega)⟩
 . exact A0u h hP (by omega) hk'

theorem B9i {v:Int} (h:0<=v/\v<6):3<=[(3:Int),3,4,5,5,6].getD v.toNat 0/\[(3:Int),3,4,5,5,6].getD v.toNat 0<=6:=by
 obtain ⟨h0,h1⟩:=h
 have:v=0 \/ v=1 \/ v=2 \/ v=3 \/ v=4 \/ v=5:=by omega
 rcases this with rfl | rfl | rfl | rfl | rfl | rfl <;> decide

theorem S9 {n:Nat} {dim:Int} (hdim:1<=dim/\dim<=4) {dv:Bool}:∀ (d r:Nat) {P:Int} {s:Jr} {nodes:List Nod},1<=r->r<=d->r<=5->Dd P s->P+12*4 ^ r<=1000000000->nodes.length+2 ^ r<=1000000 ->
  ∃ s' t,Ql n d s nodes (r:Int) dim dv=some ((),s',nodes++t)/\Bg dim r nodes.length t/\Dd (P+12*4 ^ r) s'
 | 0,r,P,s,nodes,h1,h2,_,_,_,_=>by omega
 | d+1,r,P,s,nodes,h1,h2,h5,hs,hP,hN=>by
  have h4:(4:Int) ^ r>=4:=by
   obtain ⟨q,rfl⟩:∃ q,r=q+1:=⟨r-1,by omega⟩
   have:(1:Int)<=4 ^ q:=Int.pow_pos (by omega)
   rw [Qak];omega
  have h22:1<=2 ^ r:=Qao
  obtain ⟨k0,s1,e1,hk,hs1⟩:=Kk (n:=n) (k:=9) hs (by omega) (by omega) (by omega)
  rw [Ql,e1,A0];dsimp only
  have leaf:∃ s' t,(ob (A7p n s1 3) λr_3 =>
    bif r_3.1 then
     ob (Dr n r_3.2 6) λr_4 =>
     gd (decide ((nodes.length+1)*32<=140737488355328)) (
      some ((),r_4.2,(nodes++[(1,0,0,r_4.1)])))
    else
     ob (Dr n r_3.2 dim) λr_5 =>
     gd (decide ((nodes.length+1)*32<=140737488355328)) (
      some ((),r_5.2,(nodes++[(2,0,0,r_5.1)]))))=some ((),s',nodes++t)/\Bg dim r nodes.length t/\Dd (P+12*4 ^ r) s':=by
   obtain ⟨q,rfl⟩:∃ q,r=q+1:=⟨r-1,by omega⟩
   obtain ⟨b,s2,e2,hs2⟩:=B6x (n:=n) (k:=3) hs1 (by omega) (by omega) (by omega)
   rw [e2,A0]
   cases b with
   | true =>
    obtain ⟨c,s3,e3,hc,hs3⟩:=Kk (n:=n) (k:=6) hs2 (by omega) (by omega) (by omega)
    simp only [ZJ]
    rw [e3,A0,A3 (by rw [QO];omega)]
    exact ⟨s3,_,rfl,.num q _ c (by omega),hs3.up (by omega)⟩
   | false =>
    obtain ⟨c,s3,e3,hc,hs3⟩:=Kk (n:=n) (k:=dim) hs2 (by omega) (by omega) (by omega)
    simp only [QQ]
    rw [e3,A0,A3 (by rw [QO];omega)]
    exact ⟨s3,_,rfl,.var q _ c (by omega),hs3.up (by omega)⟩
  by_cases hr:(r:Int)<=1
  . rw [QY hr];exact leaf
  rw [QT hr];by_cases hl:((nodes.length:Int)>30)
  . rw [QY hl];exact leaf
  rw [QT hl];by_cases h3:k0<3
  . rw [QY h3];exact leaf
  rw [QT h3];simp only [QQ]
  obtain ⟨q,rfl⟩:∃ q,r=q+1:=⟨r-1,by omega⟩
  have hq1:1<=q:=by omega
  have e4:(4:Int) ^ (q+1)=4*4 ^ q:=by rw [Qak];omega
  have e2:2 ^ (q+1)=2*2 ^ q:=by rw [YG];omega
  have h4q:(4:Int) ^ q>=4:=by
   obtain ⟨q',rfl⟩:∃ q',q=q'+1:=⟨q-1,by omega⟩
   have:(1:Int)<=4 ^ q':=Int.pow_pos (by omega)
   rw [Qak];omega
  have w1:W (((q+1:Nat):Int)-1)=(q:Int):=by rw [Aa (by omega) (by omega)];omega
  rw [w1]
  have wl:∀ m:Nat,m<=1000000->W ((m:Int)-1)=(m:Int)-1:=λm hm=>Aa (by omega) (by omega)
  by_cases h7:k0=3
  . subst h7;simp only [beq_self_eq_true,ZJ]
    obtain ⟨s2,t,e3,ht,hs2⟩:=S9 hdim d q (n:=n) (dv:=dv) (nodes:=nodes) hq1 (by omega) (by omega) hs1 (by omega) (by omega)
    have hlt:=ht.len
    rw [e3,A0,A3 (by rw [QO];simp only [ZF];omega),ZP,wl _ (by rw [ZF];omega),ZF]
    exact ⟨s2,_,rfl,.neg q _ t ht,hs2.up (by omega)⟩
  . rw [beq_eq_false_iff_ne.2 h7];simp only [QQ];by_cases h8:k0=4
    . subst h8;simp only [beq_self_eq_true,ZJ]
      have em:min (q:Int) 2=((min q 2:Nat):Int):=by omega
      have hm:=XW (n:=2) (by omega) (show min q 2<=q by omega)
      have hm4:(4:Int) ^ (min q 2)<=4 ^ q:=by
       have:=XW (n:=4) (by omega) (show min q 2<=q by omega)
       exact_mod_cast this
      obtain ⟨s2,t,e3,ht,hs2⟩:=S9 hdim d (min q 2) (n:=n) (dv:=dv) (nodes:=nodes) (by omega) (by omega) (by omega) hs1 (by omega) (by omega)
      have hlt:=ht.len
      obtain ⟨c,s3,e5,hc,hs3⟩:=Kk (n:=n) (k:=4) hs2 (by omega) (by omega) (by omega)
      rw [em,e3,A0,e5,A0,A3 (by rw [QO];simp only [ZF];omega),ZP,wl _ (by rw [ZF];omega),ZF]
      exact ⟨s3,_,rfl,.pow q _ t c (by omega) ht,hs3.up (by omega)⟩
    . rw [beq_eq_false_iff_ne.2 h8];simp only [QQ];rw [Nk,A0]
      obtain ⟨v,s2,e3,hv,hs2⟩:=Kk (n:=n) (k:=W (5+(if dv=true then 1 else 0))) hs1 (by omega) (by rw [Aa (by split <;> omega) (by split <;> omega)];split <;> omega) (by rw [Aa (by split <;> omega) (by split <;> omega)];split <;> omega)
      have hv6:0<=v/\v<6:=by
       rw [Aa (by split <;> omega) (by split <;> omega)] at hv
       refine ⟨hv.1,?_⟩;have:=hv.2;split at this <;> omega
      rw [e3,A0,A3 (by simp [hv6]),A3 (by rw [QO];omega)]
      obtain ⟨s3,t,e5,ht,hs3⟩:=S9 hdim d q (n:=n) (dv:=dv) (nodes:=nodes) hq1 (by omega) (by omega) hs2 (by omega) (by omega)
      have hlt:=ht.len;rw [e5,A0]
      obtain ⟨s4,u,e6,hu,hs4⟩:=S9 hdim d q (n:=n) (dv:=dv) (nodes:=nodes++t) hq1 (by omega) (by omega) hs3 (by omega) (by rw [ZF];omega)
      have hlu:=hu.len
      rw [e6,A0,A3 (by rw [QO];simp only [ZF];omega),wl _ (by rw [ZF];omega),wl _ (by simp only [ZF];omega)]
      refine ⟨s4,t++u++[([(3:Int),3,4,5,5,6].getD v.toNat 0,((nodes.length+t.length:Nat):Int)-1,((nodes.length+t.length+u.length:Nat):Int)-1,0)],?_,.bin q _ t u _ (B9i hv6) ht (by rw [<- ZF];exact hu),hs4.up (by omega)⟩
      simp only [ZF,ZP,Qax]

theorem Bbd {n:Nat} {l:List Int} {dim:Int} {dv:Bool} (hn:5<=n) (h:∀ x ∈ l,0<=x/\x<=255) (hl:l.length<=1048576) (hdim:1<=dim/\dim<=4) :
  ∃ e r,f20 n l dim dv=some e/\Bg dim r 0 e/\r<=4:=by
 unfold f20 A9z B1p;rw [A0]
 obtain ⟨c,s1,e1,hc,hs1⟩:=Kk (n:=n) (k:=3) (B93 h hl) (by omega) (by omega) (by omega)
 rw [e1,A0]
 have hw:W (2+c)=(((2+c).toNat:Nat):Int):=by rw [Aa (by omega) (by omega)];omega
 have h4:(4:Int) ^ (2+c).toNat<=4 ^ 4:=by
  have:=XW (n:=4) (by omega) (show (2+c).toNat<=4 by omega)
  exact_mod_cast this
 have h2:=XW (n:=2) (by omega) (show (2+c).toNat<=4 by omega)
 have e44:(4:Int) ^ 4=256:=by decide
 obtain ⟨s2,t,e2,ht,_⟩:=S9 hdim n (2+c).toNat (n:=n) (dv:=dv) (nodes:=[]) (by omega) (by omega) (by omega) hs1 (by omega) (by simp only [XA];omega)
 have hlt:=ht.len;rw [hw];dsimp only
 rw [e2,A0,List.nil_append,A3 (by rw [decide_eq_true_eq];dsimp only;omega),A0]
 exact ⟨t,_,rfl,ht,by omega⟩

theorem Pj (x u w:Nat->Rat) (t:List Nd) (n:Nd) (l:List Q4):evs x u w (t++[n]) l=evs x u w t l++[Au x u w (evs x u w t l) n]:=by rw [Nr];rfl

theorem La {l:List Q4} {q:Q4} {k:Nat} (h:k=l.length):(l++[q]).getD k (Q4.cst 0)=q:=by subst h;simp [List.getD]

theorem Xk {l m:List Q4} {k:Nat} (h:k<l.length):(l++m).getD k (Q4.cst 0)=l.getD k (Q4.cst 0):=by simp [List.getD,ZB h]

def M9 (x u w:Nat->Rat) (t:List Nd) (l:List Q4) (j:Nat):Prop:=∀ i,i<=j->i<t.length->¬ Dl (evs x u w (t.take i) l) (t.getD i (0,0,0,0))

theorem M9.left {x u w:Nat->Rat} {t s:List Nd} {l:List Q4} {j:Nat} (h:M9 x u w (t++s) l j) {i:Nat} (hi:i<=j):M9 x u w t l i:=λk hk hlt=>by
 have:=h k (by omega) (by rw [ZF];omega)
 rwa [List.take_append_of_le_length (by omega),show (t++s).getD k (0,0,0,0)=t.getD k (0,0,0,0) by simp [List.getD,ZB hlt]] at this

theorem M9.right {x u w:Nat->Rat} {t s:List Nd} {l:List Q4} {j:Nat} (h:M9 x u w (t++s) l j) {i:Nat} (hi:t.length+i<=j):M9 x u w s (evs x u w t l) i:=λk hk hlt=>by
 have:=h (t.length+k) (by omega) (by rw [ZF];omega)
 rwa [List.take_append,show t.length+k-t.length=k by omega,YK (show t.length<=t.length+k by omega),Nr,show (t++s).getD (t.length+k) (0,0,0,0)=s.getD k (0,0,0,0) by simp only [List.getD];rw [ZC (by omega),KN]] at this

theorem M9.last {x u w:Nat->Rat} {t:List Nd} {n:Nd} {l:List Q4} {j:Nat} (h:M9 x u w (t++[n]) l j) (hj:t.length<=j):¬ Dl (evs x u w t l) n:=by
 have:=h t.length hj (by simp)
 rwa [List.take_left' rfl,show (t++[n]).getD t.length (0,0,0,0)=n by simp [List.getD]] at this

def Mf:Nat->Nat
 | 0=>261
 | 1=>261
 | 2=>261 ^ 3
 | 3=>261 ^ 9
 | _=>2*(261 ^ 9*261 ^ 9)

theorem So {r:Nat} (hr:r<=3):1<=Mf r/\261<=Mf (r+1)/\Mf r<=Mf (r+1)/\2*(Mf r*Mf r)<=Mf (r+1)+(if r=0 then 1000000 else 0)/\(∀ p,p<=3->Mf (min r 2) ^ p<=Mf (r+1)+(if r=0 then 100000000 else 0)):=by
 have:r=0 \/ r=1 \/ r=2 \/ r=3:=by omega
 refine ⟨?_,?_,?_,?_,λp hp=>?_⟩
 . rcases this with rfl | rfl | rfl | rfl <;> decide
 . rcases this with rfl | rfl | rfl | rfl <;> decide
 . rcases this with rfl | rfl | rfl | rfl <;> decide
 . rcases this with rfl | rfl | rfl | rfl <;> decide
 . have hp:p=0 \/ p=1 \/ p=2 \/ p=3:=by omega
   rcases this with rfl | rfl | rfl | rfl <;> rcases hp with rfl | rfl | rfl | rfl <;> decide

theorem Bg.rpos {dim:Int} {r k:Nat} {t:List Nod} (h:Bg dim r k t):1<=r:=by cases h <;> omega

theorem Bg.frq {dim:Int} {x u w:Nat->Rat} (hv:∀ i:Nat,(i:Int)<dim->Ca ⟨x i,u i,w i,0⟩ 261) {r k:Nat} {t:List Nod} (h:Bg dim r k t):r<=4->∀ l:List Q4,l.length=k ->
  ∀ j,j<t.length->M9 x u w t l j->Ca ((evs x u w t l).getD (k+j) (Q4.cst 0)) (Mf r):=by
 induction h with
 | num r k c h =>
  intro hr l hl j hj _
  obtain rfl:j=0:=by simp at hj;omega
  show Ca ((l++[Au x u w l (1,0,0,c)]).getD (k+0) (Q4.cst 0)) _
  rw [La (by omega)]
  have:=(So (r:=r) (by omega)).2.1
  unfold Au;rw [QJ rfl]
  exact (Ca.cst c).mono (by omega)
 | var r k v h =>
  intro hr l hl j hj _
  obtain rfl:j=0:=by simp at hj;omega
  show Ca ((l++[Au x u w l (2,0,0,v)]).getD (k+0) (Q4.cst 0)) _
  rw [La (by omega)]
  have:=(So (r:=r) (by omega)).2.1
  unfold Au
  rw [QG (by simp),QJ rfl]
  exact (hv v.toNat (by omega)).mono this
 | neg r k t h ih =>
  intro hr l hl j hj hf;have hp:=h.pos
  have hm:=(So (r:=r) (by omega)).2.2.1
  rw [Pj]
  have hlen:(evs x u w t l).length=k+t.length:=by rw [Ey,hl]
  rcases ZT j t.length with hj' | hj'
  . rw [Xk (by omega)]
    exact (ih (by omega) l hl j hj' (hf.left (QZ _))).mono hm
  . obtain rfl:j=t.length:=by simp at hj;omega
    rw [La (by omega)]
    have h1:=ih (by omega) l hl (t.length-1) (by omega) (hf.left (by omega))
    unfold Au
    simp only [show ¬ ((7:Int)=1) by omega,show ¬ ((7:Int)=2) by omega,show ¬ ((7:Int)=3) by omega,show ¬ ((7:Int)=4) by omega,show ¬ ((7:Int)=5) by omega,show ¬ ((7:Int)=6) by omega,if_false,if_true]
    rw [C8 hp];exact (h1.mono hm).neg
 | pow r k t p hp0 h ih =>
  intro hr l hl j hj hf;have hp:=h.pos;have hr1:=h.rpos
  have hm:=(So (r:=r) (by omega)).2.2
  have hmm:Mf (min r 2)<=Mf (r+1):=by
   have:=hm.2.2 1 (by omega)
   rw [QG (by omega),Nat.pow_one] at this
   exact this
  rw [Pj]
  have hlen:(evs x u w t l).length=k+t.length:=by rw [Ey,hl]
  rcases ZT j t.length with hj' | hj'
  . rw [Xk (by omega)]
    exact (ih (by omega) l hl j hj' (hf.left (QZ _))).mono hmm
  . obtain rfl:j=t.length:=by simp at hj;omega
    rw [La (by omega)]
    have h1:=ih (by omega) l hl (t.length-1) (by omega) (hf.left (by omega))
    unfold Au
    simp only [show ¬ ((8:Int)=1) by omega,show ¬ ((8:Int)=2) by omega,show ¬ ((8:Int)=3) by omega,show ¬ ((8:Int)=4) by omega,show ¬ ((8:Int)=5) by omega,show ¬ ((8:Int)=6) by omega,show ¬ ((8:Int)=7) by omega,if_false]
    rw [C8 hp];refine (h1.pow p.toNat).mono ?_
    have:=hm.2.2 p.toNat (by omega)
    rw [QG (by omega)] at this
    exact this
 | bin r k t s op ho h1 h2 ih1 ih2 =>
  intro hr l hl j hj hf;have hp1:=h1.pos;have hp2:=h2.pos;have hr1:=h1.rpos
  have hm:=(So (r:=r) (by omega))
  have hm2:2*(Mf r*Mf r)<=Mf (r+1):=by have:=hm.2.2.2.1;rw [QG (by omega)] at this;exact this
  rw [Pj]
  have hlt:(evs x u w t l).length=k+t.length:=by rw [Ey,hl]
  have hlen:(evs x u w (t++s) l).length=k+t.length+s.length:=by rw [Ey,hl,ZF];omega
  have e2:evs x u w (t++s) l=evs x u w s (evs x u w t l):=Nr x u w t s l
  have at1:∀ i,i<t.length->M9 x u w t l i->Ca ((evs x u w (t++s) l).getD (k+i) (Q4.cst 0)) (Mf r):=λi hi hfi=>by
   rw [e2,Aaw x u w s _ _ (by omega)]
   exact ih1 (by omega) l hl i hi hfi
  have at2:∀ i,i<s.length->M9 x u w s (evs x u w t l) i->Ca ((evs x u w (t++s) l).getD (k+t.length+i) (Q4.cst 0)) (Mf r):=λi hi hfi=>by
   rw [e2]
   exact ih2 (by omega) (evs x u w t l) hlt i hi hfi
  rcases ZT j (t.length+s.length) with hj' | hj'
  . rw [Xk (by omega)]
    have hfl:=hf.left (QZ _);rcases ZT j t.length with hj1 | hj1
    . exact (at1 j hj1 (hfl.left (QZ _))).mono hm.2.2.1
    . have:=at2 (j-t.length) (by omega) (hfl.right (by omega))
      rw [show k+t.length+(j-t.length)=k+j by omega] at this
      exact this.mono hm.2.2.1
  . obtain rfl:j=t.length+s.length:=by simp at hj;omega
    rw [La (by omega)]
    have hfl:=hf.left (QZ _)
    have ha:=at1 (t.length-1) (by omega) (hfl.left (by omega))
    have hb:=at2 (s.length-1) (by omega) (hfl.right (by omega))
    have hbad:=hf.last (by rw [ZF];exact QZ _)
    have hone:=hm.1;unfold Dl at hbad;unfold Au;simp only [C8 hp1,C8 hp2] at hbad ⊢
    have hmul:Mf r*Mf r<=Mf (r+1):=by omega
    have:op=3 \/ op=4 \/ op=5 \/ op=6:=by omega
    rcases this with rfl | rfl | rfl | rfl
    . simp only [show ¬ ((3:Int)=1) by omega,show ¬ ((3:Int)=2) by omega,if_false,if_true]
      exact (ha.add hb).mono hm2
    . simp only [show ¬ ((4:Int)=1) by omega,show ¬ ((4:Int)=2) by omega,show ¬ ((4:Int)=3) by omega,if_false,if_true]
      exact (ha.add hb.neg).mono hm2
    . simp only [show ¬ ((5:Int)=1) by omega,show ¬ ((5:Int)=2) by omega,show ¬ ((5:Int)=3) by omega,show ¬ ((5:Int)=4) by omega,if_false,if_true]
      exact (ha.mul hb).mono hmul
    . simp only [show ¬ ((6:Int)=1) by omega,show ¬ ((6:Int)=2) by omega,show ¬ ((6:Int)=3) by omega,show ¬ ((6:Int)=4) by omega,show ¬ ((6:Int)=5) by omega,if_false,if_true]
      exact (ha.mul (hb.inv λh0=>hbad ⟨rfl,h0⟩)).mono hmul

theorem Bfh {r:Nat} (hr:r<=4):Mf r<=Mf 4:=by
 have:r=0 \/ r=1 \/ r=2 \/ r=3 \/ r=4:=by omega
 rcases this with rfl | rfl | rfl | rfl | rfl <;> decide

theorem Hb.sz40 {y:Rat} (h:Hb y (6*(Mf 4*Mf 4*Mf 4))):Sz y 40:=by
 have hb:6*(Mf 4*Mf 4*Mf 4)<10000 ^ 40:=by decide +kernel
 exact ⟨D7 (JM h.1 hb),D7 (JM h.2 hb)⟩

theorem Bg.short {dim:Int} {x u w:Nat->Rat} (hv:∀ i:Nat,(i:Int)<dim->Ca ⟨x i,u i,w i,0⟩ 261) {r:Nat} {t:List Nod} (h:Bg dim r 0 t) (hr:r<=4) {j:Nat} (hj:j<t.length) (hf:M9 x u w t [] j) :
  Sz ((evs x u w t []).getD j (Q4.cst 0)).f 40/\Sz ((evs x u w t []).getD j (Q4.cst 0)).a 40/\Sz ((evs x u w t []).getD j (Q4.cst 0)).v 40/\Sz ((evs x u w t []).getD j (Q4.cst 0)).c 40:=by
 have h1:=(h.frq hv hr [] rfl j hj hf).mono (Bfh hr);rw [YM] at h1;obtain ⟨a,b,c,d⟩:=h1.sizes;exact ⟨a.sz40,b.sz40,c.sz40,d.sz40⟩

def M8 (x:Nat->Rat) (t:List Nd) (i:Nat):Prop:=Dl (evs x (λ_=>0) (λ_=>0) (t.take i) []) (t.getD i (0,0,0,0))

def Gk (x:Nat->Rat) (t:List Nd):Prop:=∃ i,i<t.length/\M8 x t i

def Sz4 (q:Q4):Prop:=Sz q.f 40/\Sz q.a 40/\Sz q.v 40/\Sz q.c 40

def Vj (x u w:Nat->Rat) (t:List Nd):Prop:=∀ j,j<t.length->(∀ i,i<=j->¬ M8 x t i)->Sz4 ((evs x u w t []).getD j (Q4.cst 0))

theorem Ab3 {x u w:Nat->Rat} {t:List Nd} {i:Nat}:Dl (evs x u w (t.take i) []) (t.getD i (0,0,0,0)) ↔ M8 x t i:=by
 unfold M8 Dl;rw [Ae5 x u w (λ_=>0) (λ_=>0)]

theorem Bg.all {dim:Int} {x u w:Nat->Rat} (hv:∀ i:Nat,(i:Int)<dim->Ca ⟨x i,u i,w i,0⟩ 261) {r:Nat} {t:List Nod} (h:Bg dim r 0 t) (hr:r<=4):Vj x u w t:=λj hj hf =>
 h.short hv hr hj λi hi _ hb=>hf i hi (Ab3.1 hb)

theorem Aex {t pre r:List Nd} {n:Nd} (h:t=pre++n::r):t.take pre.length=pre/\t.getD pre.length (0,0,0,0)=n/\pre.length<t.length:=by
 subst h
 refine ⟨by simp,by simp [List.getD],by simp⟩

theorem Gs {x:Rat} (h:Sz x 40):B5 x=true:=K5.2 h

theorem Ams {q:Q4} (h:Sz4 q):I1 q=true:=by unfold I1;rw [Gs h.1,Gs h.2.1,Gs h.2.2.1,Gs h.2.2.2];rfl

theorem Amr {q:Q4} (h:Sz4 q):Cl q=true:=by unfold Cl;rw [Gs h.1,Gs h.2.2.1];rfl

open Classical in
theorem Sc {fit:Q4->Bool} (hfit:∀ q,Sz4 q->fit q=true) {x u w:Nat->Rat} {t:List Nd} (hs:Vj x u w t):∀ (ns pre:List Nd),t=pre++ns->(∀ i,i<pre.length->¬ M8 x t i) ->
  F1 fit x u w ns (evs x u w pre [])=if Gk x t then .inr 10 else .inl (evs x u w t [])
 | [],pre,h,hb=>by
  rw [XN] at h;subst h;rw [QG (λ⟨i,hi,hbi⟩=>hb i hi hbi)];rfl
 | n::r,pre,h,hb=>by
  obtain ⟨t1,t2,t3⟩:=Aex h
  have e1:Dl (evs x u w pre []) n ↔ M8 x t pre.length:=by rw [<- Ab3 (u:=u) (w:=w),t1,t2]
  have e2:(evs x u w t []).getD pre.length (Q4.cst 0)=Au x u w (evs x u w pre []) n:=by rw [Az2 x u w t t3,t1,t2]
  unfold F1;by_cases hbad:M8 x t pre.length
  . rw [QJ (e1.2 hbad),QJ ⟨_,t3,hbad⟩]
  . rw [QG (λhh=>hbad (e1.1 hh))]
    have hle:∀ i,i<=pre.length->¬ M8 x t i:=λi hi=>by
     rcases ZT i pre.length with h1 | h1
     . exact hb i h1
     . obtain rfl:i=pre.length:=by omega
       exact hbad
    have hfq:=hfit _ (hs pre.length t3 hle);rw [e2] at hfq;rw [QJ hfq,<- Pj]
    exact Sc hfit hs r (pre++[n]) (by rw [h];simp) (λi hi=>hle i (by simp at hi;omega))

open Classical in
theorem Aon {A:Nat} {x w:Nat->Rat} {t:List Nd} (hs:∀ i,Vj x (B2 A i) w t):∀ (ns pre:List Nd),t=pre++ns->(∀ i,i<pre.length->¬ M8 x t i) ->
  W8 A x w ns (λi=>evs x (B2 A i) w pre [])=if Gk x t then .inr 10 else .inl λi=>evs x (B2 A i) w t []
 | [],pre,h,hb=>by
  rw [XN] at h;subst h;rw [QG (λ⟨i,hi,hbi⟩=>hb i hi hbi)];rfl
 | n::r,pre,h,hb=>by
  obtain ⟨t1,t2,t3⟩:=Aex h
  have e1:Dl (evs x (B2 A 0) w pre []) n ↔ M8 x t pre.length:=by rw [<- Ab3 (u:=B2 A 0) (w:=w),t1,t2]
  have e2:∀ i,(evs x (B2 A i) w t []).getD pre.length (Q4.cst 0)=Au x (B2 A i) w (evs x (B2 A i) w pre []) n:=λi=>by rw [Az2 x (B2 A i) w t t3,t1,t2]
  unfold W8;by_cases hbad:M8 x t pre.length
  . rw [QJ (e1.2 hbad),QJ ⟨_,t3,hbad⟩]
  . rw [QG (λhh=>hbad (e1.1 hh))]
    have hle:∀ i,i<=pre.length->¬ M8 x t i:=λi hi=>by
     rcases ZT i pre.length with h1 | h1
     . exact hb i h1
     . obtain rfl:i=pre.length:=by omega
       exact hbad
    have hfq:∀ i,Sz4 (Au x (B2 A i) w (evs x (B2 A i) w pre []) n):=λi=>by rw [<- e2 i];exact hs i pre.length t3 hle
    have hN:Oa A (λi=>Au x (B2 A i) w (evs x (B2 A i) w pre []) n)=true:=by
     unfold Oa;rw [Gs (hfq 0).1,Gs (hfq 0).2.2.1,ZX,ZX,Ak4];exact λi _=>Gs (hfq i).2.1
    rw [QJ hN]
    have:=Aon hs r (pre++[n]) (by rw [h];simp) (λi hi=>hle i (by simp at hi;omega))
    simp only [Pj] at this;exact this

theorem Bg.allP {dim:Int} (hdim:dim<=4) {r:Nat} {t:List Nod} (h:Bg dim r 0 t) (hr:r<=5):Go.Ev.allP t dim/\1<=t.length/\t.length<=60:=by
 have he:=h.expr hdim hr
 have hd:∀ {r k:Nat} {t:List Nod},Bg dim r k t->∀ x ∈ t,x.1=2->x.2.2.2<dim:=by
  intro r k t h
  induction h with
  | num r k c h=>intro x hx;simp at hx;subst hx;simp
  | var r k v h=>intro x hx;simp at hx;subst hx;intro _;exact h.2
  | neg r k t h ih=>intro x hx;rcases QD.1 hx with hx | hx;exact ih x hx;simp at hx;subst hx;simp
  | pow r k t p hp h ih=>intro x hx;rcases QD.1 hx with hx | hx;exact ih x hx;simp at hx;subst hx;simp
  | bin r k t u op ho h1 h2 ih1 ih2 =>
   intro x hx;rcases QD.1 hx with hx | hx
   . rcases QD.1 hx with hx | hx
     . exact ih1 x hx
     . exact ih2 x hx
   . simp at hx;subst hx;intro h2;simp at h2;omega
 have hdx:=hd h;obtain ⟨hl,bs,ds,hrun,_⟩:=he;refine ⟨λk hk=>⟨?_,λh2=>?_⟩,hl.1,hl.2⟩
 . have:=A6a t [] [] _ hrun k hk;simpa using this
 . refine hdx _ ?_ h2;simp [List.getD,QM hk]

theorem B3d {X V:List Rat} (hX:Bv X 10 9) (hV:Bv V 10 9) {δ:Int} (hδ:δ.natAbs<=1) {i:Nat} (hi:i<X.length) (hi2:i<V.length):Ca ⟨Af X i,(δ:Rat),Af V i,0⟩ 261:=by
 have h1:=hX.get hi;have h2:=hV.get hi2;exact Ca.var (A:=10) (B:=9) (C:=10) (D:=9) h1.1 h1.2 h2.1 h2.2 hδ

theorem Bg.vars {dim:Int} {r k:Nat} {t:List Nod} (h:Bg dim r k t):∀ x ∈ t,x.1=2->0<=x.2.2.2/\x.2.2.2<dim:=by
 induction h with
 | num r k c h=>intro x hx;simp at hx;subst hx;simp
 | var r k v h=>intro x hx;simp at hx;subst hx;intro _;exact h
 | neg r k t h ih=>intro x hx;rcases QD.1 hx with hx | hx;exact ih x hx;simp at hx;subst hx;simp
 | pow r k t p hp h ih=>intro x hx;rcases QD.1 hx with hx | hx;exact ih x hx;simp at hx;subst hx;simp
 | bin r k t u op ho h1 h2 ih1 ih2 =>
  intro x hx;rcases QD.1 hx with hx | hx
  . rcases QD.1 hx with hx | hx
    . exact ih1 x hx
    . exact ih2 x hx
  . simp at hx;subst hx;intro h2;simp at h2;omega

theorem Aop {d:Int} (hd:d<=4):∀ (l:List Nod) (s:Int),s<=d->(∀ x ∈ l,x.1=2->0<=x.2.2.2/\x.2.2.2<d)->Pk s l<=d
 | [],s,hs,_=>hs
 | x::l,s,hs,h=>by
  unfold Pk;rw [List.foldl_cons];refine Aop hd l _ ?_ λy hy=>h y (ZE _ hy);split
  . rename_i h2;have:=h x (XZ ..) h2
    rw [Aa (by omega) (by omega)];omega
  . exact hs

structure H9 (m:Nat) (e:List Nod) (X V:List Rat):Prop where
 m1:1<=m
 m4:m<=4
 tree:∃ r,Bg (m:Int) r 0 e/\r<=4
 xl:X.length=m
 vl:V.length=m
 xb:Bv X 10 9
 vb:Bv V 10 9

section
variable {m:Nat} {e:List Nod} {X V:List Rat}

theorem B3g {x:List Rat} (h:Bv x 10 9):Sv x 40:=h.sz (by decide) (by decide)

theorem H9.allP (h:H9 m e X V):Go.Ev.allP e (X.length:Int)/\1<=e.length/\e.length<=60:=by
 obtain ⟨r,h1,h2⟩:=h.tree;rw [h.xl]
 exact h1.allP (by have:=h.m4;omega) (by omega)

theorem H9.ask (h:H9 m e X V):Vb e (vq X)=0:=by
 obtain ⟨r,h1,h2⟩:=h.tree;have hm:=h.m1;have hm4:=h.m4;have hl:=h.xl;unfold Vb
 rw [QG (by rw [Bp];omega),QJ ⟨Lr.2 (h1.expr (by omega) (by omega)),A60 (B3g h.xb) (by omega) (by omega)⟩,QG (by rw [Bp,hl];have:=Aop (d:=(m:Int)) (by omega) e 0 (by omega) h1.vars;omega)]

theorem H9.short (h:H9 m e X V) {u w:Nat->Rat} (hu:∀ i,i<m->∃ δ:Int,δ.natAbs<=1/\u i=(δ:Rat)) (hw:∀ i,i<m->w i=Af V i \/ w i=0):Vj (Af X) u w e:=by
 obtain ⟨r,h1,h2⟩:=h.tree;refine h1.all (λi hi=>?_) h2
 have hi:i<m:=by omega
 obtain ⟨δ,d1,d2⟩:=hu i hi
 have hx:=h.xb.get (i:=i) (by rw [h.xl];exact hi)
 rw [d2];rcases hw i hi with hw | hw
 . rw [hw]
   exact B3d h.xb h.vb d1 (by rw [h.xl];exact hi) (by rw [h.vl];exact hi)
 . rw [hw]
   exact (Ca.var (w:=0) (A:=10) (B:=9) (C:=0) (D:=1) hx.1 hx.2 (by decide) (by decide) d1).mono (by omega)

theorem A0y (A i k:Nat):∃ δ:Int,δ.natAbs<=1/\B2 A i k=(δ:Rat):=by
 unfold B2;split
 . exact ⟨1,by decide,by simp⟩
 . exact ⟨0,by decide,by simp⟩

theorem Nw (m:Nat):∀ i:Nat,i<m->∃ δ:Int,δ.natAbs<=1/\(λ_:Nat=>(0:Rat)) i=(δ:Rat):=λ_ _=>⟨0,by decide,by simp⟩
end

def Bz (x u w:Nat->Rat) (e:List Nod):Q4:=(evs x u w e []).getD (e.length-1) (Q4.cst 0)

theorem G7 {x u w:Nat->Rat} {e:List Nod} (h:Vj x u w e) (h1:1<=e.length) (hb:¬ Gk x e):Sz4 (Bz x u w e):=h _ (by omega) λi hi hbi=>hb ⟨i,by omega,hbi⟩

section
variable {n m:Nat} {e:List Nod} {X V:List Rat}
open Classical

theorem Be9 (h:H9 m e X V) (hn:68719476736<=n):f28 n e (vq X)=some (if Gk (Af X) e then ((false,[],[]),10) else (rq (Bz (Af X) (λ_=>0) (λ_=>0) e).f,0)):=by
 obtain ⟨hp,h1,h60⟩:=h.allP;unfold f28
 rw [A9u (by omega) (by omega),A0,h.ask,XI,QQ,Be7 (V:=X) hp h1 h60 rfl hn]
 have hs:=h.short (Nw m) (w:=λ_=>0) (λ_ _=>.inr rfl)
 have:=Sc (fit:=Cl) (λ_=>Amr) hs e [] rfl (λi hi=>by simp at hi)
 rw [show evs (Af X) (λ_=>0) (λ_=>0) [] []=[] from rfl] at this;rw [this];by_cases hb:Gk (Af X) e
 . rw [QJ hb,QJ hb];rfl
 . rw [QG hb,QG hb,A0]
   show (bif ((0:Int) != 0) then _ else ob (f73 n (rq (Bz (Af X) (λ_=>0) (λ_=>0) e).f)) _)=_
   rw [XI,QQ,Zw ((G7 hs h1 hb).1.mono (by omega)),A0]

theorem Be1 (h:H9 m e X V) (hn:68719476736<=n):f29 n e (vq X)=some (if Gk (Af X) e then ((false,[],[]),10) else (rq (Bz (Af X) (λ_=>0) (λ_=>0) e).f,0)):=by
 obtain ⟨hp,h1,h60⟩:=h.allP;have hm:=h.m4;have hl:=h.xl;unfold f29
 rw [QK,QG (by rw [Bp];omega),Amt (by omega) (by omega),A0,h.ask,XI,QQ]
 unfold f75
 rw [Bp,A95 (by omega) (by omega),A0,Aly hp h1 h60 (by simp) (by simp) hn,Zg]
 have hs:=h.short (Nw m) (w:=λ_=>0) (λ_ _=>.inr rfl)
 have:=Sc (fit:=I1) (λ_=>Ams) hs e [] rfl (λi hi=>by simp at hi)
 rw [show evs (Af X) (λ_=>0) (λ_=>0) [] []=[] from rfl] at this;rw [this];by_cases hb:Gk (Af X) e
 . rw [QJ hb,QJ hb];rfl
 . rw [QG hb,QG hb,A0]
   show ob (bif ((0:Int) != 0) then _ else ob (f127 n (rq (Bz (Af X) (λ_=>0) (λ_=>0) e).f)) _) _=_
   rw [XI,QQ,B3k (G7 hs h1 hb).1 (by omega),A0,A0]

theorem H9.slopC (h:H9 m e X V):Go.Ev.slopC e (vq X) (vq V)=0:=by
 have hm:=h.m1;have hm4:=h.m4;have hl:=h.xl;have hv:=h.vl;unfold Go.Ev.slopC Ap3
 rw [QG (by rw [Bp,Bp];omega),QG (by rw [h.ask];simp),QJ (A60 (B3g h.vb) (by omega) (by omega)),QJ (by rw [Bp,Bp];omega)]

theorem B5f (h:H9 m e X V) (hn:68719476736<=n):f30 n e (vq X) (vq V)=some (if Gk (Af X) e then ((false,[],[]),(false,[],[]),10) else (rq (Bz (Af X) (λ_=>0) (Af V) e).f,rq (Bz (Af X) (λ_=>0) (Af V) e).v,0)):=by
 obtain ⟨hp,h1,h60⟩:=h.allP;have hm:=h.m1;unfold f30
 rw [Ap7 (by omega) (by omega),h.slopC,XI,QQ,Be8 (V:=V) hp h1 h60 (by rw [h.vl,h.xl]) (by rw [h.vl];omega) hn]
 have hs:=h.short (Nw m) (w:=Af V) (λ_ _=>.inl rfl)
 have:=Sc (fit:=Cl) (λ_=>Amr) hs e [] rfl (λi hi=>by simp at hi)
 rw [show evs (Af X) (λ_=>0) (Af V) [] []=[] from rfl] at this;rw [this];by_cases hb:Gk (Af X) e
 . rw [QJ hb,QJ hb];rfl
 . rw [QG hb,QG hb,A0];have hz:=G7 hs h1 hb
   show (bif ((0:Int) != 0) then _ else ob (f73 n (rq (Bz (Af X) (λ_=>0) (Af V) e).f)) λr_6=>ob (f73 n (rq (Bz (Af X) (λ_=>0) (Af V) e).v)) _)=_
   rw [XI,QQ,Zw (hz.1.mono (by omega)),A0,Zw (hz.2.2.1.mono (by omega)),A0]

theorem Sa {α:Type} {s1:List Rt} {g:Nat->Rat} {N:Nat} (hN:N<=4096) (hg:∀ i,i<N->f121 n (i:Int) s1=some (rq (g i))/\Sz (g i) 1000000) {k0:List Rt->Option α}:∀ (m i:Nat),i<=N->N<i+m ->
  Kx n m s1 (N:Int) (i:Int) (vq ((List.range i).map g)) k0=k0 (vq ((List.range N).map g))
 | 0,i,hi,hm=>by omega
 | m+1,i,hi,hm=>by
  rw [Adx];unfold Ph;rw [QK];by_cases h:i<N
  . rw [QJ (by omega),(hg i h).1,A0,Zw (hg i h).2,A0,A3 (by simp [vq];omega)]
    have e:vq ((List.range i).map g)++[rq (g i)]=vq ((List.range (i+1)).map g):=by simp [vq,Qbk]
    rw [e,Aa (x:=(i:Int)+1) (by omega) (by omega)]
    exact Sa hN hg m (i+1) (by omega) (by omega)
  . obtain rfl:i=N:=by omega
    rw [QG (by omega)]

theorem Baf {A:Nat} {g:Nat->Rat} (hA:A<=100) (hg:∀ i,i<A->Sz (g i) 1000000) (hn:1048577<=n):f69 n (rA A g)=some (vq ((List.range A).map g)):=by
 unfold f69 A5p;rw [Cf]
 have:=Sa (n:=n) (s1:=rA A g) (g:=g) (N:=A) (by omega) (λi hi=>⟨by
  unfold f121
  rw [A3 (by rw [Cf];simp;omega),QP,Et hi],hg i hi⟩) (k0:=λz=>some z) n 0 (by omega) (by omega)
 rw [show vq ((List.range 0).map g)=[] from rfl] at this;rw [show ((0:Nat):Int)=0 from rfl] at this;rw [this,A0]

theorem B9w (h:H9 m e X V) (hn:68719476736<=n):f26 n e (vq X)=some (if Gk (Af X) e then ([],10) else (vq ((List.range m).map λi=>(Bz (Af X) (B2 m i) (λ_=>0) e).a),0)):=by
 obtain ⟨hp,h1,h60⟩:=h.allP;have hm:=h.m4;unfold f26
 rw [A9u (by omega) (by omega),A0,h.ask,XI,QQ,Bp,h.xl,B9o (V:=X) (A:=m) hp h1 h60 rfl (by omega) hn]
 have hs:∀ i,Vj (Af X) (B2 m i) (λ_=>0) e:=λi=>h.short (λk _=>A0y m i k) (w:=λ_=>0) (λ_ _=>.inr rfl)
 have:=Aon (A:=m) hs e [] rfl (λi hi=>by simp at hi)
 rw [show (λi=>evs (Af X) (B2 m i) (λ_=>0) [] [])=λ_=>[] from rfl] at this;rw [this];by_cases hb:Gk (Af X) e
 . rw [QJ hb,QJ hb];rfl
 . rw [QG hb,QG hb,A0]
   show (bif ((0:Int) != 0) then _ else ob (f69 n (rA m λi=>(Bz (Af X) (B2 m i) (λ_=>0) e).a)) _)=_
   rw [XI,QQ,Baf (by omega) (λi _=>((G7 (hs i) h1 hb).2.1.mono (by omega))) (by omega),A0]

def Zh (m i:Nat):List Rat:=(List.replicate m 0).set i 1

theorem B4l {m i:Nat}:Af (Zh m i)=B2 m i:=by
 funext k;unfold Af Zh B2;simp only [List.getD,List.getElem?_set,XK,List.length_replicate];by_cases h1:k=i/\i<m
 . obtain ⟨rfl,h2⟩:=h1;simp [h2]
 . rw [QG h1];by_cases h2:i=k
   . subst h2;have:¬ i<m:=λh=>h1 ⟨rfl,h⟩;simp [this]
   . rw [QG h2];split <;> rfl

theorem B4k {x:List Rat} {i:Nat} {a:Rat}:(vq x).set i (rq a)=vq (x.set i a):=by simp [vq,List.map_set]

theorem At5 {n m i:Nat} (hm:m<=100) (hi:i<m) (hn:68719476736<=n):f81 n (m:Int) (i:Int)=some (vq (Zh m i)):=by
 unfold f81
 rw [B07 (by omega) (by omega),A0,sW1 hn,A0,A3 (by simp;omega),A3 (by simp;omega),QP,B4k]
 rfl

theorem Azz (m i:Nat):(Zh m i).length=m:=by simp [Zh]

theorem Apc (g:Nat->Rat) (i:Nat):vq ((List.range i).map g)++[rq (g i)]=vq ((List.range (i+1)).map g):=by simp [vq,Qbk]

theorem At7 (h:H9 m e X V) (hn:68719476736<=n) {W0:List Rat} (hw:W0.length=m) (hwv:∀ i,i<m->Af W0 i=Af V i \/ Af W0 i=0) (i:Nat) :
  f126 n e (vq X) (vq (Zh m i)) (vq W0)=some (if Gk (Af X) e then (((false,[],[]),(false,[],[]),(false,[],[]),(false,[],[])),10) else (S4 (Bz (Af X) (B2 m i) (Af W0) e),0)):=by
 obtain ⟨hp,h1,h60⟩:=h.allP
 rw [Aly hp h1 h60 (by rw [Azz,h.xl]) (by rw [hw,h.xl]) hn,B4l]
 have hs:Vj (Af X) (B2 m i) (Af W0) e:=h.short (λk _=>A0y m i k) hwv
 have:=Sc (fit:=I1) (λ_=>Ams) hs e [] rfl (λi hi=>by simp at hi)
 rw [show evs (Af X) (B2 m i) (Af W0) [] []=[] from rfl] at this;rw [this];by_cases hb:Gk (Af X) e
 . rw [QJ hb,QJ hb]
 . rw [QG hb,QG hb];rfl

theorem A1k {α:Type} (h:H9 m e X V) (hn:68719476736<=n) (hb:¬ Gk (Af X) e) {k0:Int->List Rt->Option α} {k1:List Rt->Option α}:∀ (fu i:Nat),i<=m->m<i+fu ->
  A6z n fu (vq X) (i:Int) e (vq ((List.range i).map λi=>(Bz (Af X) (B2 m i) (λ_=>0) e).a)) k0 k1=k1 (vq ((List.range m).map λi=>(Bz (Af X) (B2 m i) (λ_=>0) e).a))
 | 0,i,hi,hf=>by omega
 | fu+1,i,hi,hf=>by
  have hm:=h.m4;have hl:=h.xl;have h1:=h.allP.2.1;rw [Agl];unfold Zv;rw [Bp,hl,QK];by_cases hlt:i<m
  . rw [QJ (by omega),At5 (by omega) hlt hn,A0,A95 (by omega) (by omega),A0,At7 h hn (by simp) (λ_ _=>.inr (by rw [Zg])) i,QG hb,A0,XI,QQ,Zg]
    have hz:=G7 (h.short (λk _=>A0y m i k) (w:=λ_=>0) (λ_ _=>.inr rfl)) h1 hb;show ob (f127 n (rq (Bz (Af X) (B2 m i) (λ_=>0) e).a)) _=_
    rw [B3k hz.2.1 (by omega),A0,A3 (by simp;omega),Apc (λi=>(Bz (Af X) (B2 m i) (λ_=>0) e).a) i,Aa (x:=(i:Int)+1) (by omega) (by omega)]
    exact A1k h hn hb fu (i+1) (by omega) (by omega)
  . obtain rfl:i=m:=by omega
    rw [QG (by omega)]

theorem B98 (h:H9 m e X V) (hn:68719476736<=n):f31 n e (vq X)=some (if Gk (Af X) e then ([],10) else (vq ((List.range m).map λi=>(Bz (Af X) (B2 m i) (λ_=>0) e).a),0)):=by
 have hm:=h.m4;have hm1:=h.m1;have hl:=h.xl;have h60:=h.allP.2.2;unfold f31
 rw [QK,QG (by rw [Bp];omega),Amt (by omega) (by omega),A0,h.ask,XI,QQ]
 unfold f76;by_cases hb:Gk (Af X) e
 . rw [QJ hb]
   obtain ⟨n',rfl⟩:∃ n',n=n'+1:=⟨n-1,by omega⟩
   rw [Agl];unfold Zv
   rw [Bp,hl,QK,QJ (by omega),show (0:Int)=((0:Nat):Int) from rfl,At5 (by omega) (by omega) hn,A0,A95 (by omega) (by omega),A0,At7 h hn (by simp) (λ_ _=>.inr (by rw [Zg])) 0,QJ hb]
   rfl
 . rw [QG hb]
   have:=A1k (α:=List Rt × Int) h hn hb (k0:=λz_5 z_6=>some (z_6,z_5)) (k1:=λz_7=>some (z_7,0)) n 0 (by omega) (by omega)
   rw [show ((0:Nat):Int)=0 from rfl,show vq ((List.range 0).map λi=>(Bz (Af X) (B2 m i) (λ_=>0) e).a)=[] from rfl] at this;rw [this,A0]
end

theorem Bdm {b:List Int} (hb:∀ x ∈ b,0<=x/\x<=255):∀ x ∈ [5]++b,0<=x/\x<=255:=λx hx=>by
 simp at hx;rcases hx with rfl | hx
 . omega
 . exact hb x hx

theorem Bg0 {a b c:Rat} {V:List Rat} (hV:V.length=3):Bm 0 [a,b,c] V=a*Af V 0+b*Af V 1+c*Af V 2:=by
 match V,hV with
 | [x,y,z],_=>simp [Bm,Af,Qbl]

theorem Bfn {V:List Rat} (hV:V.length=3) (k:Nat):Af V k=Af V 0*B2 3 0 k+Af V 1*B2 3 1 k+Af V 2*B2 3 2 k:=by
 match V,hV with
 | [x,y,z],_ =>
  unfold Af B2
  match k with
  | 0=>simp [Qbl,JG]
  | 1=>simp [Qbl,JG]
  | 2=>simp [Qbl,JG]
  | k+3=>simp [Qbl,JG]

open Classical in
theorem Bf1 {n:Nat} {a b:List Int} (ha:∀ x ∈ a,0<=x/\x<=255) (hb:∀ x ∈ b,0<=x/\x<=255) (hn:68719476736<=n):f5 n a b=some true:=by
 unfold f5;by_cases hl:(a.length:Int)>1048576
 . rw [QY hl];rfl
 rw [QT hl,QQ];by_cases hl2:(b.length:Int)>1048576
 . rw [QY hl2];rfl
 rw [QT hl2,QQ]
 obtain ⟨e,r,e1,hd,hr⟩:=Bbd (n:=n) (dim:=3) (dv:=true) (by omega) ha (by omega) (by omega)
 rw [e1,A0]
 obtain ⟨X,e2,hX,bX⟩:=Bb3 (n:=n) (k:=3) hb (by omega) (by omega) (by omega)
 rw [show (3:Int)=((3:Nat):Int) from rfl,e2,A0,A3 (by simp;omega)]
 have hl3:([5]++b).length<=1048577:=by simp;omega
 obtain ⟨V,e3,hV,bV⟩:=B5t (n:=n) (k:=3) (Bdm hb) hl3 (by omega) (by omega)
 rw [e3,A0]
 have D:H9 3 e X V:=⟨by omega,by omega,⟨r,hd,hr⟩,hX,hV,bX,bV⟩
 have h1:=D.allP.2.1
 have hnil:f77 n [] []=some true:=by rw [Agi (by simp) (by omega)];rfl
 have hz32:f32 n (false,[],[]) (false,[],[])=some true:=by
  unfold f32;simp only [beq_self_eq_true,ZJ,hnil,A0]
 have hz25:f25 n [] []=some true:=Au3 (x:=[]) (y:=[]) rfl (by simp) (λa ha=>by simp at ha) (by omega)
 rw [Be9 D hn,A0,Be1 D hn,A0,B5f D hn,A0,B9w D hn,A0,B98 D hn,A0];by_cases hbd:Gk (Af X) e
 . simp only [QJ hbd,XI,QQ,hz32,hz25,A0,ZS];rfl
 . simp only [QG hbd];have s0:=G7 (D.short (Nw 3) (w:=λ_=>0) (λ_ _=>.inr rfl)) h1 hbd;have sV:=G7 (D.short (Nw 3) (w:=Af V) (λ_ _=>.inl rfl)) h1 hbd;have sU:∀ i,Sz4 (Bz (Af X) (B2 3 i) (λ_=>0) e):=λi=>G7 (D.short (λk _=>A0y 3 i k) (w:=λ_=>0) (λ_ _=>.inr rfl)) h1 hbd
   have sG:Sv ((List.range 3).map λi=>(Bz (Af X) (B2 3 i) (λ_=>0) e).a) 40:=λa ha=>by
    obtain ⟨i,_,rfl⟩:=ZK.1 ha;exact (sU i).2.1
   have hdot:Bm 0 ((List.range 3).map λi=>(Bz (Af X) (B2 3 i) (λ_=>0) e).a) V=(Bz (Af X) (λ_=>0) (Af V) e).v:=by
    show Bm 0 [(Bz (Af X) (B2 3 0) (λ_=>0) e).a,(Bz (Af X) (B2 3 1) (λ_=>0) e).a,(Bz (Af X) (B2 3 2) (λ_=>0) e).a] V=_;rw [Bg0 hV];unfold Bz;rw [B0a (Af X) (B2 3 0) (B2 3 1) (B2 3 2) (λ_=>0) (Af V) (Af V 0) (Af V 1) (Af V 2) (Bfn hV) (λ_=>0) e (e.length-1)];grind
   rw [XI,QQ,A78 (s0.1.mono (by omega)) (by omega),A0,QY rfl,ZS,QQ,QQ,Au3 rfl (by simp) (λa ha=>(sG a ha).mono (by omega)) (by omega),A0,QY rfl,ZS,QQ]
   unfold f33;rw [QQ,QQ,QQ]
   rw [Baa sG (B3g bV) (by simp) (by simp) (by simp [hV]) (by rw [hdot];exact sV.2.2.1) (by omega),A0,A0]
   have ef:(Bz (Af X) (λ_=>0) (Af V) e).f=(Bz (Af X) (λ_=>0) (λ_=>0) e).f:=Ae5 _ _ _ _ _ _ _
   rw [ef,A78 (s0.1.mono (by omega)) (by omega),A0,QY rfl,ZJ,hdot,beq_self_eq_true,ZJ,A78 (sV.2.2.1.mono (by omega)) (by omega),A0,QY rfl,ZJ]
   simp [vq]

end Go.Ev
