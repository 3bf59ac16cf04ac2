/- DERIVED. The plain laws: what the models compute. -/
import Derived.Test.YtdheaaapdlekdaaGreatTd

set_option linter.all false
set_option linter.unusedVariables false
set_option linter.unusedSimpArgs false

namespace Go.Ev
open Go

theorem B1s {n L K k:Nat} {f v:Rat} (hf:Sz f L) (hv:Sz v K) (hL:L<=1000) (hK:K<=100000000) (hk:k<=8) (hn:68719476736<=n):f171 n (jn f v) (k:Int)=some (jn (f ^ k) (Q4.d1 f k*v)):=by
 unfold f171
 rw [Auo hf hL hk hn,A1,show (jn f v).1=rq f from rfl,Kj hf (by omega) (by omega) hn,A1]
 have:=Ag6 (n:=n) (f:=f) (g:=f ^ k) (e:=rq (Q4.d2 f k)) (Aeo hf hk) hv (by omega) hK hn
 dsimp only;rw [this,A1]

theorem B7e {n:Nat} {f v:Rat} (hn:68719476736<=n):f180 n (jn f v)=some (Bx f&&Bx v):=by
 unfold f180 jn;dsimp only;rw [B22 hn,A1,Zh,A1,Zh]
 cases Bx f <;> cases Bx v <;> rfl

theorem Bce {n:Nat} {f:Rat} {k:Int} {V:List Rat} (hk:0<=k/\k<V.length) (hn:68719476736<=n):f164 n (0,()) (rq f) k=some (jn f 0):=by
 unfold f164 Arq;dsimp only
 rw [B5v hn,A1,iW0 hn,A1,A1,QK,QI (by omega)];rfl

def Av (q:Q4):Jn:=jn q.f q.v

theorem Ag5 {l:List Q4} {k:Nat} (h:k<l.length):(l.map Av).getD k ((false,[],[]),[],(),(false,[],[]))=Av (l.getD k (Q4.cst 0)):=by
 simp [QH,QM h]

structure B6j (l:List Q4) (K:Nat):Prop where
 f:∀ k,Sz (l.getD k (Q4.cst 0)).f 40
 v:∀ k,Sz (l.getD k (Q4.cst 0)).v K

theorem B1t {n K:Nat} {X V:List Rat} {l:List Q4} {x:Nod} (hx:Cc x l.length) (hd:x.1=2->x.2.2.2<X.length/\x.2.2.2<V.length) (hs:B6j l K) (hK:K<=90000000) (hn:68719476736<=n) :
  Aej n (0,()) x (vq X) (l.map Av)=some ((if x.1=6/\(l.getD x.2.2.1.toNat (Q4.cst 0)).f=0 then (((false,[],[]),[],(),(false,[],[])),10) else if x.1=8/\Bx ((l.getD x.2.1.toNat (Q4.cst 0)).f ^ x.2.2.2.toNat)=false then (((false,[],[]),[],(),(false,[],[])),7) else (Av (Ba (Ak X) (λ_=>0) (λ_=>0) l x),0)),l.map Av):=by
 obtain ⟨op,A,B,N⟩:=x;obtain ⟨⟨o1,o2⟩,hN,hA,hB⟩:=hx;unfold Aej;simp only [Agu,A1];unfold Gf at hN;unfold B9 at hA hB ⊢;unfold Ba;dsimp only at *
 obtain rfl | rfl | rfl | rfl | rfl | rfl | rfl | rfl:op=1 \/ op=2 \/ op=3 \/ op=4 \/ op=5 \/ op=6 \/ op=7 \/ op=8:=by omega
 . simp only [Int.reduceEq,Qbt,if_false,if_true,Int.reduceBEq,ZE,QR,Int.reduceLT,gt_iff_lt,decide_false,Qaq] at *
   rw [iW (by omega) hn,A1,B1u  hn,A1];rfl
 . simp only [Int.reduceEq,Qbt,if_false,if_true,Int.reduceBEq,ZE,QR,Int.reduceLT,gt_iff_lt,decide_false,Qaq] at *;have hd:=hd trivial
   rw [Bn,A3 (by simp;omega),Bz (by omega),Bce (V:=V) ⟨hN.1,hd.2⟩ hn,A1];rfl
 all_goals simp only [Int.reduceEq,Qbt,or_true,true_or,if_false,if_true,Int.reduceBEq,ZE,QR,Int.reduceLT,gt_iff_lt,decide_true,Qaq,Qaj] at *
 all_goals (have lA:A.toNat<l.length:=by omega)
 all_goals (have lB:B.toNat<l.length:=by omega)
 all_goals (rw [QZ,A3 (by simp;omega),A3 (by simp;omega),A3 (by simp;omega),A3 (by simp;omega),Ag5 lA])
 all_goals (try rw [Ag5 lB])
 all_goals (have a1:=hs.f A.toNat;have a2:=hs.v A.toNat;have b1:=hs.f B.toNat;have b2:=hs.v B.toNat)
 all_goals (generalize hP:l.getD A.toNat (Q4.cst 0)=P at a1 a2 ⊢;generalize hQ:l.getD B.toNat (Q4.cst 0)=Q at b1 b2 ⊢)
 . have e:f165 n (Av P) (Av Q)=_:=Ams a1 b1 a2 b2 (by omega) (by omega) hn
   have e:f165 n (((Av P).1.1,(Av P).1.2.1,(Av P).1.2.2),(Av P).2.1,(),(Av P).2.2.2.1,(Av P).2.2.2.2.1,(Av P).2.2.2.2.2) (((Av Q).1.1,(Av Q).1.2.1,(Av Q).1.2.2),(Av Q).2.1,(),(Av Q).2.2.2.1,(Av Q).2.2.2.2.1,(Av Q).2.2.2.2.2)=some _:=e;rw [e,A1];rfl
 . have e:f166 n (Av Q) (rq (-1))=_:=B5q b1 b2 (Bo (a:=-1) (by omega) |>.mono (by omega)) (by omega) (by omega) hn
   have e:f166 n (((Av Q).1.1,(Av Q).1.2.1,(Av Q).1.2.2),(Av Q).2.1,(),(Av Q).2.2.2.1,(Av Q).2.2.2.2.1,(Av Q).2.2.2.2.2) (rq (-1))=some _:=e
   have e2:f165 n (Av P) (jn (Q.f * -1) (Q.v * -1))=_:=Ams (L:=60) (K:=K+5) (a1.mono (by omega)) ((Aj b1 (Bo (a:=-1) (by omega))).mono (by omega)) (a2.mono (by omega)) ((Aj b2 (Bo (a:=-1) (by omega))).mono (by omega)) (by omega) (by omega) hn
   have e2:f165 n (((Av P).1.1,(Av P).1.2.1,(Av P).1.2.2),(Av P).2.1,(),(Av P).2.2.2.1,(Av P).2.2.2.2.1,(Av P).2.2.2.2.2) (jn (Q.f * -1) (Q.v * -1))=some _:=e2;rw [iWm hn,A1,e,A1,e2,A1,JR,KW,JR,KW];rfl
 . have e:f167 n (Av P) (Av Q)=_:=Ag4 a1 b1 a2 b2 (by omega) (by omega) hn
   have e:f167 n (((Av P).1.1,(Av P).1.2.1,(Av P).1.2.2),(Av P).2.1,(),(Av P).2.2.2.1,(Av P).2.2.2.2.1,(Av P).2.2.2.2.2) (((Av Q).1.1,(Av Q).1.2.1,(Av Q).1.2.2),(Av Q).2.1,(),(Av Q).2.2.2.1,(Av Q).2.2.2.2.1,(Av Q).2.2.2.2.2)=some _:=e;rw [e,A1];rfl
 . have z:f168 n (rq Q.f)=_:=Aus;have z:f168 n ((rq Q.f).1,(rq Q.f).2.1,(rq Q.f).2.2)=_:=z;have z:f168 n ((Av Q).1.1,(Av Q).1.2.1,(Av Q).1.2.2)=_:=z;rw [z,A1,QK];by_cases h0:Q.f=0
   . rw [QG h0,QG h0]
   . rw [QI h0,QI h0]
     have e:f169 n (Av Q)=_:=Bcf b1 h0 b2 (by omega) (by omega) hn
     have e:f169 n (((Av Q).1.1,(Av Q).1.2.1,(Av Q).1.2.2),(Av Q).2.1,(),(Av Q).2.2.2.1,(Av Q).2.2.2.2.1,(Av Q).2.2.2.2.2)=some _:=e
     have s1:Sz (1 / Q.f) (3+40+1):=Sr (Bo (a:=1) (by omega)) b1 h0
     have e2:f167 n (Av P) (jn (1 / Q.f) (-(1 / Q.f*(1 / Q.f))*Q.v))=_:=Ag4 (L:=60) (K:=K+100) (a1.mono (by omega)) (s1.mono (by omega)) (a2.mono (by omega)) ((Aj (Cm (Aj s1 s1)) b2).mono (by omega)) (by omega) (by omega) hn
     have e2:f167 n (((Av P).1.1,(Av P).1.2.1,(Av P).1.2.2),(Av P).2.1,(),(Av P).2.2.2.1,(Av P).2.2.2.2.1,(Av P).2.2.2.2.2) (jn (1 / Q.f) (-(1 / Q.f*(1 / Q.f))*Q.v))=some _:=e2;rw [e,A1,e2,A1]
     have c:P.v*(1 / Q.f)+P.f*(-(1 / Q.f*(1 / Q.f))*Q.v)=(Q4.mul P (Q4.inv Q)).v:=by
      simp only [Q4.mul,Q4.inv];generalize 1 / Q.f=r;grind
     rw [c];rfl
 . have e:f166 n (Av P) (rq (-1))=_:=B5q a1 a2 (Bo (a:=-1) (by omega) |>.mono (by omega)) (by omega) (by omega) hn
   have e:f166 n (((Av P).1.1,(Av P).1.2.1,(Av P).1.2.2),(Av P).2.1,(),(Av P).2.2.2.1,(Av P).2.2.2.2.1,(Av P).2.2.2.2.2) (rq (-1))=some _:=e;rw [iWm hn,A1,e,A1,JR,KW,JR,KW];rfl
 . obtain ⟨N',rfl⟩:∃ N':Nat,N=(N':Int):=⟨N.toNat,by omega⟩
   have e0:f170 n (rq P.f) (N':Int)=_:=Kj a1 (by omega) (by omega) hn
   have e0:f170 n ((Av P).1.1,(Av P).1.2.1,(Av P).1.2.2) (N':Int)=some _:=e0
   have e:f171 n (Av P) (N':Int)=_:=B1s a1 a2 (by omega) (by omega) (by omega) hn
   have e:f171 n (((Av P).1.1,(Av P).1.2.1,(Av P).1.2.2),(Av P).2.1,(),(Av P).2.2.2.1,(Av P).2.2.2.2.1,(Av P).2.2.2.2.2) (N':Int)=some _:=e;rw [e0,A1,Zh,A1,QO]
   cases hfit:Bx (P.f ^ N') with
   | false=>simp only [XI,ZE,if_true]
   | true =>
    simp only [ZT,QR,Bool.true_eq_false,if_false];rw [e,A1,Q4.pow_eq];rfl

theorem B1x {n:Nat} {f:Rat} {V:List Rat} (hV:0<V.length) (hn:68719476736<=n):Aeg n (0,vq V) (rq f)=some (jc f 0):=by
 unfold Aeg;dsimp only
 rw [Bcm hn,A1,iW0 hn,A1,A3 (by simp [vq];intro e;rw [e] at hV;simp at hV),A1];rfl

theorem Amu {n L K:Nat} {f g v w:Rat} (hf:Sz f L) (hg:Sz g L) (hv:Sz v K) (hw:Sz w K) (hL:L<=1000) (hK:K<=100000000) (hn:68719476736<=n):N7 n (jc f v) (jc g w)=some (jc (f+g) (v+w)):=by
 unfold N7 jc;dsimp only
 rw [Xe hf hg (by omega) hn,A1,Xe hv hw (by omega) hn,A1];rfl

theorem B5r {n L K:Nat} {f v k:Rat} (hf:Sz f L) (hv:Sz v K) (hk:Sz k 10) (hL:L<=1000) (hK:K<=100000000) (hn:68719476736<=n):N6 n (jc f v) (rq k)=some (jc (f*k) (v*k)):=by
 unfold N6 jc;dsimp only
 rw [De hf hk (by omega) hn,A1,De hv hk (by omega) hn,A1];rfl

theorem Ag7 {n L K:Nat} {f g v w:Rat} (hf:Sz f L) (hg:Sz g L) (hv:Sz v K) (hw:Sz w K) (hL:L<=1000) (hK:K<=100000000) (hn:68719476736<=n):N5 n (jc f v) (jc g w)=some (jc (f*g) (v*g+f*w)):=by
 unfold N5 jc;dsimp only
 rw [De hf hg (by omega) hn,A1,De hv hg (by omega) hn,A1,De hf hw (by omega) hn,A1,Xe (Aj hv hg) (Aj hf hw) (by omega) hn,A1];rfl

theorem Ag9 {n L K:Nat} {f v g d:Rat} {e:Rt} (hd:Sz d L) (hv:Sz v K) (hL:L<=100000) (hK:K<=100000000) (hn:68719476736<=n):A00 n (jc f v) (rq g) (rq d) e=some (jc g (d*v)):=by
 unfold A00 jc;dsimp only
 rw [De hd hv (by omega) hn,A1];rfl

theorem Bch {n L K:Nat} {f v:Rat} (hf:Sz f L) (h0:f ≠ 0) (hv:Sz v K) (hL:L<=1000) (hK:K<=100000000) (hn:68719476736<=n):A09 n (jc f v)=some (jc (1 / f) (-(1 / f*(1 / f))*v)):=by
 have h1:=Sr (Bo (a:=1) (by omega)) hf h0
 have h1:Sz (1 / f) (3+L+1):=h1;have h2:=Aj h1 h1;have h3:=Aj h2 h1
 have t2:f162 n (rq (1 / f*(1 / f)*(1 / f))) (rq 2)=some (rq (1 / f*(1 / f)*(1 / f)*2)):=De h3 (Bo (a:=2) (by omega)) (by omega) hn
 unfold A09
 rw [iW1 hn,A1,show (jc f v).1=rq f from rfl,iOv (Pw (L:=1) (by omega)) hf h0 (by omega) hn,A1,De h1 h1 (by omega) hn,A1,iNg h2 (by omega),A1,De h2 h1 (by omega) hn,A1,iW2 hn,A1,t2,A1]
 have:=Ag9 (n:=n) (f:=f) (g:=1 / f) (e:=rq (1 / f*(1 / f)*(1 / f)*2)) (Cm h2) hv (by omega) hK hn
 have this:A00 n (jc f v) (rq (1 / f)) (rq (-(1 / f*(1 / f)))) (rq (1 / f*(1 / f)*(1 / f)*2))=_:=this;rw [this,A1]

theorem Auq {n L k:Nat} {f:Rat} {v:Rat} (hf:Sz f L) (hL:L<=1000) (hk:k<=8) (hn:68719476736<=n):Aeh n (jc f v) (k:Int)=some (rq (Q4.d1 f k),rq (Q4.d2 f k)):=by
 unfold Aeh;rw [iW0 hn,A1,A1];dsimp only;rw [show (jc f v).1=rq f from rfl]
 match k with
 | 0=>rfl
 | 1 =>
  rw [show decide (((1:Nat):Int)>=1)=true from rfl,ZE,show W (((1:Nat):Int)-1)=((0:Nat):Int) from rfl,Kj hf (by omega) (by omega) hn,A1,iW (by omega) hn,A1,De (Dy hf 0) (Bo (a:=((1:Nat):Int)) (by omega)) (by omega) hn,A1]
  rfl
 | k+2 =>
  have h2:(k+2)*(k+1)<=8*8:=XF (by omega) (by omega)
  have l1:L*(k+1)<=L*8:=XL _ (by omega)
  have l2:L*k<=L*8:=XL _ (by omega)
  rw [QK,QG (by omega),Ab (x:=((k+2:Nat):Int)-1) (by omega) (by omega),show ((k+2:Nat):Int)-1=((k+1:Nat):Int) by omega,Kj hf (by omega) (by omega) hn,A1,iW (by omega) hn,A1,
   De (Dy hf (k+1)) (Bo (a:=((k+2:Nat):Int)) (by omega)) (by omega) hn,A1,QK,QG (by omega),
   Ab (x:=((k+2:Nat):Int)-2) (by omega) (by omega),show ((k+2:Nat):Int)-2=((k:Nat):Int) by omega,Kj hf (by omega) (by omega) hn,A1,show ((k+2:Nat):Int)*((k+1:Nat):Int)=(((k+2)*(k+1):Nat):Int) by rw [XV],
   Ab (x:=(((k+2)*(k+1):Nat):Int)) (by omega) (by omega),iW (by rw [XE];omega) hn,A1,De (Dy hf k) (Bo (a:=(((k+2)*(k+1):Nat):Int)) (by rw [XE];omega)) (by omega) hn,A1]
  rfl

theorem B1v {n L K k:Nat} {f v:Rat} (hf:Sz f L) (hv:Sz v K) (hL:L<=1000) (hK:K<=100000000) (hk:k<=8) (hn:68719476736<=n):A08 n (jc f v) (k:Int)=some (jc (f ^ k) (Q4.d1 f k*v)):=by
 unfold A08
 rw [Auq hf hL hk hn,A1,show (jc f v).1=rq f from rfl,Kj hf (by omega) (by omega) hn,A1]
 have:=Ag9 (n:=n) (f:=f) (g:=f ^ k) (e:=rq (Q4.d2 f k)) (Aeo hf hk) hv (by omega) hK hn
 dsimp only;rw [this,A1]

theorem Bcg {n:Nat} {f:Rat} {k:Int} {V:List Rat} (hk:0<=k/\k<V.length) (hn:68719476736<=n):Aef n (0,vq V) (rq f) k=some (jc f (V.getD k.toNat 0)):=by
 unfold Aef Aim;dsimp only
 rw [B5v hn,A1,iW0 hn,A1,A3 (by simp [vq];intro e;rw [e] at hk;simp at hk;omega),A1,A1,QK,QI (by omega),A3 (by simp [vq];intro e;rw [e] at hk;simp at hk;omega),A3 (by simp;omega),Bz (by omega)];rfl

def Ar (q:Q4):Jc:=jc q.f q.v

theorem Ag8 {l:List Q4} {k:Nat} (h:k<l.length):(l.map Ar).getD k ((false,[],[]),[],[],(false,[],[]))=Ar (l.getD k (Q4.cst 0)):=by
 simp [QH,QM h]

structure B6k (l:List Q4) (K:Nat):Prop where
 f:∀ k,Sz (l.getD k (Q4.cst 0)).f 40
 v:∀ k,Sz (l.getD k (Q4.cst 0)).v K

theorem B1w {n K:Nat} {X V:List Rat} {l:List Q4} {x:Nod} (hx:Cc x l.length) (hd:x.1=2->x.2.2.2<X.length/\x.2.2.2<V.length) (hV:0<V.length) (hs:B6k l K) (hK:K<=90000000) (hn:68719476736<=n) :
  Yp n (0,vq V) x (vq X) (l.map Ar)=some ((if x.1=6/\(l.getD x.2.2.1.toNat (Q4.cst 0)).f=0 then (((false,[],[]),[],[],(false,[],[])),10) else if x.1=8/\Bx ((l.getD x.2.1.toNat (Q4.cst 0)).f ^ x.2.2.2.toNat)=false then (((false,[],[]),[],[],(false,[],[])),7) else (Ar (Ba (Ak X) (λ_=>0) (Ak V) l x),0)),l.map Ar):=by
 obtain ⟨op,A,B,N⟩:=x;obtain ⟨⟨o1,o2⟩,hN,hA,hB⟩:=hx;unfold Yp;simp only [Agu,A1];unfold Gf at hN;unfold B9 at hA hB ⊢;unfold Ba;dsimp only at *
 obtain rfl | rfl | rfl | rfl | rfl | rfl | rfl | rfl:op=1 \/ op=2 \/ op=3 \/ op=4 \/ op=5 \/ op=6 \/ op=7 \/ op=8:=by omega
 . simp only [Int.reduceEq,Qbt,if_false,if_true,Int.reduceBEq,ZE,QR,Int.reduceLT,gt_iff_lt,decide_false,Qaq] at *
   rw [iW (by omega) hn,A1,B1x hV hn,A1];rfl
 . simp only [Int.reduceEq,Qbt,if_false,if_true,Int.reduceBEq,ZE,QR,Int.reduceLT,gt_iff_lt,decide_false,Qaq] at *;have hd:=hd trivial
   rw [Bn,A3 (by simp;omega),Bz (by omega),Bcg (V:=V) ⟨hN.1,hd.2⟩ hn,A1];rfl
 all_goals simp only [Int.reduceEq,Qbt,or_true,true_or,if_false,if_true,Int.reduceBEq,ZE,QR,Int.reduceLT,gt_iff_lt,decide_true,Qaq,Qaj] at *
 all_goals (have lA:A.toNat<l.length:=by omega)
 all_goals (have lB:B.toNat<l.length:=by omega)
 all_goals (rw [QZ,A3 (by simp;omega),A3 (by simp;omega),A3 (by simp;omega),A3 (by simp;omega),Ag8 lA])
 all_goals (try rw [Ag8 lB])
 all_goals (have a1:=hs.f A.toNat;have a2:=hs.v A.toNat;have b1:=hs.f B.toNat;have b2:=hs.v B.toNat)
 all_goals (generalize hP:l.getD A.toNat (Q4.cst 0)=P at a1 a2 ⊢;generalize hQ:l.getD B.toNat (Q4.cst 0)=Q at b1 b2 ⊢)
 . have e:N7 n (Ar P) (Ar Q)=_:=Amu a1 b1 a2 b2 (by omega) (by omega) hn
   have e:N7 n (((Ar P).1.1,(Ar P).1.2.1,(Ar P).1.2.2),(Ar P).2.1,(Ar P).2.2.1,(Ar P).2.2.2.1,(Ar P).2.2.2.2.1,(Ar P).2.2.2.2.2) (((Ar Q).1.1,(Ar Q).1.2.1,(Ar Q).1.2.2),(Ar Q).2.1,(Ar Q).2.2.1,(Ar Q).2.2.2.1,(Ar Q).2.2.2.2.1,(Ar Q).2.2.2.2.2)=some _:=e;rw [e,A1];rfl
 . have e:N6 n (Ar Q) (rq (-1))=_:=B5r b1 b2 (Bo (a:=-1) (by omega) |>.mono (by omega)) (by omega) (by omega) hn
   have e:N6 n (((Ar Q).1.1,(Ar Q).1.2.1,(Ar Q).1.2.2),(Ar Q).2.1,(Ar Q).2.2.1,(Ar Q).2.2.2.1,(Ar Q).2.2.2.2.1,(Ar Q).2.2.2.2.2) (rq (-1))=some _:=e
   have e2:N7 n (Ar P) (jc (Q.f * -1) (Q.v * -1))=_:=Amu (L:=60) (K:=K+5) (a1.mono (by omega)) ((Aj b1 (Bo (a:=-1) (by omega))).mono (by omega)) (a2.mono (by omega)) ((Aj b2 (Bo (a:=-1) (by omega))).mono (by omega)) (by omega) (by omega) hn
   have e2:N7 n (((Ar P).1.1,(Ar P).1.2.1,(Ar P).1.2.2),(Ar P).2.1,(Ar P).2.2.1,(Ar P).2.2.2.1,(Ar P).2.2.2.2.1,(Ar P).2.2.2.2.2) (jc (Q.f * -1) (Q.v * -1))=some _:=e2;rw [iWm hn,A1,e,A1,e2,A1,JR,KW,JR,KW];rfl
 . have e:N5 n (Ar P) (Ar Q)=_:=Ag7 a1 b1 a2 b2 (by omega) (by omega) hn
   have e:N5 n (((Ar P).1.1,(Ar P).1.2.1,(Ar P).1.2.2),(Ar P).2.1,(Ar P).2.2.1,(Ar P).2.2.2.1,(Ar P).2.2.2.2.1,(Ar P).2.2.2.2.2) (((Ar Q).1.1,(Ar Q).1.2.1,(Ar Q).1.2.2),(Ar Q).2.1,(Ar Q).2.2.1,(Ar Q).2.2.2.1,(Ar Q).2.2.2.2.1,(Ar Q).2.2.2.2.2)=some _:=e;rw [e,A1];rfl
 . have z:f168 n (rq Q.f)=_:=Aus;have z:f168 n ((rq Q.f).1,(rq Q.f).2.1,(rq Q.f).2.2)=_:=z;have z:f168 n ((Ar Q).1.1,(Ar Q).1.2.1,(Ar Q).1.2.2)=_:=z;rw [z,A1,QK];by_cases h0:Q.f=0
   . rw [QG h0,QG h0]
   . rw [QI h0,QI h0]
     have e:A09 n (Ar Q)=_:=Bch b1 h0 b2 (by omega) (by omega) hn
     have e:A09 n (((Ar Q).1.1,(Ar Q).1.2.1,(Ar Q).1.2.2),(Ar Q).2.1,(Ar Q).2.2.1,(Ar Q).2.2.2.1,(Ar Q).2.2.2.2.1,(Ar Q).2.2.2.2.2)=some _:=e
     have s1:Sz (1 / Q.f) (3+40+1):=Sr (Bo (a:=1) (by omega)) b1 h0
     have e2:N5 n (Ar P) (jc (1 / Q.f) (-(1 / Q.f*(1 / Q.f))*Q.v))=_:=Ag7 (L:=60) (K:=K+100) (a1.mono (by omega)) (s1.mono (by omega)) (a2.mono (by omega)) ((Aj (Cm (Aj s1 s1)) b2).mono (by omega)) (by omega) (by omega) hn
     have e2:N5 n (((Ar P).1.1,(Ar P).1.2.1,(Ar P).1.2.2),(Ar P).2.1,(Ar P).2.2.1,(Ar P).2.2.2.1,(Ar P).2.2.2.2.1,(Ar P).2.2.2.2.2) (jc (1 / Q.f) (-(1 / Q.f*(1 / Q.f))*Q.v))=some _:=e2;rw [e,A1,e2,A1]
     have c:P.v*(1 / Q.f)+P.f*(-(1 / Q.f*(1 / Q.f))*Q.v)=(Q4.mul P (Q4.inv Q)).v:=by
      simp only [Q4.mul,Q4.inv];generalize 1 / Q.f=r;grind
     rw [c];rfl
 . have e:N6 n (Ar P) (rq (-1))=_:=B5r a1 a2 (Bo (a:=-1) (by omega) |>.mono (by omega)) (by omega) (by omega) hn
   have e:N6 n (((Ar P).1.1,(Ar P).1.2.1,(Ar P).1.2.2),(Ar P).2.1,(Ar P).2.2.1,(Ar P).2.2.2.1,(Ar P).2.2.2.2.1,(Ar P).2.2.2.2.2) (rq (-1))=some _:=e;rw [iWm hn,A1,e,A1,JR,KW,JR,KW];rfl
 . obtain ⟨N',rfl⟩:∃ N':Nat,N=(N':Int):=⟨N.toNat,by omega⟩
   have e0:f170 n (rq P.f) (N':Int)=_:=Kj a1 (by omega) (by omega) hn
   have e0:f170 n ((Ar P).1.1,(Ar P).1.2.1,(Ar P).1.2.2) (N':Int)=some _:=e0
   have e:A08 n (Ar P) (N':Int)=_:=B1v a1 a2 (by omega) (by omega) (by omega) hn
   have e:A08 n (((Ar P).1.1,(Ar P).1.2.1,(Ar P).1.2.2),(Ar P).2.1,(Ar P).2.2.1,(Ar P).2.2.2.1,(Ar P).2.2.2.2.1,(Ar P).2.2.2.2.2) (N':Int)=some _:=e;rw [e0,A1,Zh,A1,QO]
   cases hfit:Bx (P.f ^ N') with
   | false=>simp only [XI,ZE,if_true]
   | true =>
    simp only [ZT,QR,Bool.true_eq_false,if_false];rw [e,A1,Q4.pow_eq];rfl

structure SzQ (q:Q4) (L:Nat):Prop where
 f:Sz q.f L
 a:Sz q.a L
 v:Sz q.v L
 c:Sz q.c L

theorem SzQ.mono {q:Q4} {L K:Nat} (h:SzQ q L) (hK:L<=K):SzQ q K:=⟨h.f.mono hK,h.a.mono hK,h.v.mono hK,h.c.mono hK⟩

theorem A8c {x:Rat} {L:Nat} (h:Sz x L) (h0:x ≠ 0):Sz (1 / x) (L+4):=(Sr (Pw (L:=1) (by omega)) h h0).mono (by omega)

theorem sW0 {n:Nat} (hn:68719476736<=n):f131 n 0=some (rq 0):=J7 (a:=0) (by omega) (by omega)

theorem sW1 {n:Nat} (hn:68719476736<=n):f131 n 1=some (rq 1):=J7 (a:=1) (by omega) (by omega)

theorem sW2 {n:Nat} (hn:68719476736<=n):f131 n 2=some (rq 2):=J7 (a:=2) (by omega) (by omega)

def A5k (e:List Nod) (d:Int):Prop:=∀ k,k<e.length->Cc (e.getD k (0,0,0,0)) k/\((e.getD k (0,0,0,0)).1=2->(e.getD k (0,0,0,0)).2.2.2<d)

theorem N9 {e:List Nod} {i:Nat} (h:i<e.length):e.drop i=e.getD i (0,0,0,0)::e.drop (i+1):=by
 rw [XQ h,QH,QM h];rfl

def If (q:Q4):Bool:=Bx q.f&&Bx q.v

theorem A89 {l:List Q4} {q:Q4} {k:Nat} (h:k<l.length):(l++[q]).getD k (Q4.cst 0)=l.getD k (Q4.cst 0):=by
 simp only [QH,ZB h]

theorem A8a {l:List Q4} {q:Q4}:(l++[q]).getD l.length (Q4.cst 0)=q:=by
 rw [QH,ZC (ZG _)];simp

theorem K2 {l:List Q4} {k:Nat} (h:l.length<=k):l.getD k (Q4.cst 0)=Q4.cst 0:=by
 rw [QH,KD h];rfl

theorem Afm {x u w:Nat->Rat} {l:List Q4} {n:Nod} (h:n.1=8):(Ba x u w l n).f=(l.getD n.2.1.toNat (Q4.cst 0)).f ^ n.2.2.2.toNat:=by
 unfold Ba
 rw [QI (by omega),QI (by omega),QI (by omega),QI (by omega),QI (by omega),QI (by omega),QI (by omega),Q4.pow_eq]

theorem Bgq {l:List Q4} (h:∀ k,k<l.length->If (l.getD k (Q4.cst 0))=true):B6j l 40:=by
 have key:∀ k,Sz (l.getD k (Q4.cst 0)).f 40/\Sz (l.getD k (Q4.cst 0)).v 40:=λk=>by
  rcases ZW k l.length with h1 | h1
  . have:=h k h1;unfold If at this;simp only [QF,Db] at this;exact this
  . rw [K2 h1];exact ⟨Ch.mono (by omega),Ch.mono (by omega)⟩
 exact ⟨λk=>(key k).1,λk=>(key k).2⟩

theorem Amt {α:Type} {n:Nat} {X V:List Rat} {e:List Nod} (hp:A5k e X.length) (he:e.length<=60) (hVX:V.length=X.length) (hn:68719476736<=n)
  {k0:Int->Option α} {k1:List Jn->Option α}:∀ (m:Nat) (l:List Q4),(∀ k,k<l.length->If (l.getD k (Q4.cst 0))=true)->l.length<=e.length->e.length<l.length+m ->
  A0k n m (vq X) e (e.length:Int) (l.length:Int) 0 (l.map Av) k0 k1=match El If (Ak X) (λ_=>0) (λ_=>0) (e.drop l.length) l with
   | .inl l'=>k1 (l'.map Av)
   | .inr c=>k0 c
 | 0,l,hs,hl,hm=>by omega
 | m+1,l,hs,hl,hm=>by
  rw [Azk];unfold A5a;rw [QK];by_cases h:l.length<e.length
  . obtain ⟨h1,h2⟩:=hp _ h
    rw [QG (by omega),A3 (by simp;omega),QO,N9 h,El]
    generalize hx:e.getD l.length (0,0,0,0)=x at h1 h2
    have hg:=B1t (n:=n) (X:=X) (V:=V) h1 (λh=>⟨h2 h,by rw [hVX];exact h2 h⟩) (Bgq hs) (by omega) hn
    dsimp only
    rw [hg,A1,A3 (by simp)]
    generalize hq:Ba (Ak X) (λ_=>0) (λ_=>0) l x=q;by_cases hb:Hh l x
    . have hb':x.1=6/\(l.getD x.2.2.1.toNat (Q4.cst 0)).f=0:=hb;rw [QG hb,QG hb'];rfl
    . have hb':¬ (x.1=6/\(l.getD x.2.2.1.toNat (Q4.cst 0)).f=0):=hb;rw [QI hb,QI hb'];by_cases h8:x.1=8/\Bx ((l.getD x.2.1.toNat (Q4.cst 0)).f ^ x.2.2.2.toNat)=false
      . rw [QG h8]
        have:If q=false:=by
         unfold If;rw [<- hq,Afm h8.1,h8.2];rfl
        rw [this,QI (by simp)];rfl
      . rw [QI h8];show (ob (f180 n (jn q.f q.v)) λr_3=>_)=_;rw [B7e hn,A1]
        show (bif (!If q) then k0 7 else _)=_
        cases hf:If q with
        | false=>rfl
        | true =>
         rw [ZT,QR,A3 (by simp;omega),Ab (by omega) (by omega)]
         simp only [if_true]
         have:=Amt hp he hVX hn (k0:=k0) (k1:=k1) m (l++[q]) (λk hk=>by
          simp only [ZL,ZD,XD] at hk;rcases ZW k l.length with h3 | h3
          . rw [A89 h3];exact hs k h3
          . obtain rfl:k=l.length:=by omega
            rw [A8a];exact hf) (by simp;omega) (by simp;omega)
         rw [ZL,YT] at this;exact this
  . have h0:l.length=e.length:=by omega
    rw [QI (by omega),QX (by omega)]
    rfl

theorem B7d {n:Nat} {X V:List Rat} {e:List Nod} (hp:A5k e X.length) (he:e.length<=60) (hVX:V.length=X.length) (hn:68719476736<=n) :
  f113 n (0,()) e (vq X)=some (match El If (Ak X) (λ_=>0) (λ_=>0) e [] with
   | .inl l=>(l.map Av,0)
   | .inr c=>([],c)):=by
 unfold f113
 have:=Amt (n:=n) hp he hVX hn (k0:=λz_4=>(some (([],z_4):List Jn × Int))) (k1:=λz_5=>some (z_5,0)) n [] (by simp) (by simp) (by simp;omega)
 refine Eq.trans this ?_;rw [XD,ZJ]
 cases El If (Ak X) (λ_=>0) (λ_=>0) e [] <;> rfl

theorem Ap0:∀ (l:List Nod) (s:Int),s<=Im s l /\ ∀ x ∈ l,x.1=2->0<=x.2.2.2/\x.2.2.2<=3->x.2.2.2<Im s l
 | [],s=>⟨JG _,λx h=>by simp at h⟩
 | y::l,s=>by
  obtain ⟨h1,h2⟩:=Ap0 l (if y.1=2 then max s (W (y.2.2.2+1)) else s)
  have e:Im s (y::l)=Im (if y.1=2 then max s (W (y.2.2.2+1)) else s) l:=rfl
  rw [e];refine ⟨Int.le_trans ?_ h1,λx hx hx2 hx3=>?_⟩
  . split <;> omega
  . rcases QW.1 hx with rfl | hx
    . rw [QG hx2,Ab (by omega) (by omega)] at h1 ⊢
      omega
    . exact h2 x hx hx2 hx3

theorem At9 {l:List Rt} (h:F0 l=true):∃ X:List Rat,l=vq X/\Sv X 40/\1<=X.length/\X.length<=4:=by
 unfold F0 at h;simp only [QF,QN] at h;obtain ⟨X,rfl,hX⟩:=B5b h.2;rw [Bn] at h;exact ⟨X,rfl,hX,h.1.1,h.1.2⟩

theorem Bgt {n:Nat} {x:Rat} {L:Nat} (h:Sz x L) (hL:L<=1000000000):f127 n (rq x)=some (rq x):=by
 obtain ⟨h1,h2⟩:=h;unfold f127
 rw [A3 (by show decide ((0+(dg x.num.natAbs).length)*8<=_)=true;simp;omega),A3 (by show decide ((0+(dg x.den).length)*8<=_)=true;simp;omega)]

theorem Bh6:Bx 0=true:=Db.2 (Ch.mono (by omega))

def Qx (x v:List Rt):Int:=if F0 v=true then (if v.length=x.length then 0 else 8) else 1

theorem B7u {n:Nat} {x v:List Rt} (hn:1048577<=n):f72 n x v=some (Qx x v):=by
 unfold f72 Qx
 rw [Aak hn,A1,Gj,A1,Gj,A1,Oi (by simp) hn,A1]
 cases h1:F0 v with
 | false=>rfl
 | true =>
  simp only [if_true];by_cases h2:v.length=x.length
  . rw [QG h2,QG (by simp [h2])];rfl
  . rw [QI h2,QI (by simp;omega)];rfl

theorem Bca {x v:List Rt}:A24 [x,v]=decide (4096<x.length \/ 4096<v.length):=by
 unfold A24;by_cases h1:4096<x.length <;> by_cases h2:4096<v.length <;> simp [h1,h2]

def hasN (l:List Nod) (x:Nod):Bool:=l.any λy=>decide (y=x)

theorem Au6 {x y:Nod}:(x.1==y.1&&(x.2.1==y.2.1&&(x.2.2.1==y.2.2.1&&(x.2.2.2==y.2.2.2&&true))))=decide (y=x):=by
 obtain ⟨a,b,c,d⟩:=x;obtain ⟨a',b',c',d'⟩:=y;by_cases h:(a',b',c',d')=(a,b,c,d)
 . obtain ⟨rfl,rfl,rfl,rfl⟩:a'=a/\b'=b/\c'=c/\d'=d:=by simpa using h
   simp
 . rw [QQ h];simp only [XO,Bool.and_eq_false_iff,beq_eq_false_iff_ne];by_cases h1:a=a'
   . by_cases h2:b=b'
     . by_cases h3:c=c'
       . exact .inr (.inr (.inr λh4=>h (by rw [h1,h2,h3,h4])))
       . exact .inr (.inr (.inl h3))
     . exact .inr (.inl h2)
   . exact .inl h1

theorem Ags {n:Nat} {l:List Nod} {x:Nod} (hl:l.length<=1048576):∀ (m i:Nat),i<=l.length->l.length<i+m ->
  ∃ r:Int,Xm n m l (l.length:Int) (i:Int) x.1 x.2.1 x.2.2.1 x.2.2.2 (λz_2=>some z_2) (λ(_:Unit)=>some (-1))=some r/\(decide (r>=0))=hasN (l.drop i) x
 | 0,i,hi,hm=>by omega
 | m+1,i,hi,hm=>by
  rw [B2t];unfold A9p;rw [QK];by_cases h:i<l.length
  . have e:l.drop i=l.getD i (0,0,0,0)::l.drop (i+1):=N9 h
    rw [QG (by omega),A3 (by simp;omega),QO,e]
    dsimp only;rw [Au6,QK];unfold hasN;by_cases h1:l.getD i (0,0,0,0)=x
    . rw [QG h1]
      exact ⟨_,rfl,by rw [JF,QU h1,QU (by omega)];rfl⟩
    . rw [QI h1,Ab (by omega) (by omega)]
      obtain ⟨r,h2,h3⟩:=Ags (n:=n) (x:=x) hl m (i+1) (by omega) (by omega)
      exact ⟨r,h2,by rw [h3,JF,QQ h1];rfl⟩
  . rw [QI (by omega),QX (by omega)]
    exact ⟨-1,rfl,rfl⟩

theorem B86 {n:Nat} {l:List Nod} {x:Nod} (hl:l.length<=1048576) (hn:1048577<=n):f218 n l x=some (hasN l x):=by
 obtain ⟨r,h1,h2⟩:=Ags (n:=n) (x:=x) hl n 0 (by omega) (by omega)
 unfold f218 f62;have h1:Xm n n l (l.length:Int) 0 x.1 x.2.1 x.2.2.1 x.2.2.2 _ _=_:=h1;rw [h1,A1,h2,ZJ]

theorem Acd {n:Nat} {l:List Nod} {x:Nod} (hl:l.length<=1048576):∀ (m i:Nat),i<=l.length->l.length<i+m ->
  ∃ r:Int,Ns n m l (i:Int) x.1 x.2.1 x.2.2.1 x.2.2.2 (λz_2=>some z_2) (λ(_:Unit)=>some (-1))=some r/\(decide (r>=0))=hasN (l.drop i) x
 | 0,i,hi,hm=>by omega
 | m+1,i,hi,hm=>by
  rw [Ya];unfold P2;rw [QK];by_cases h:i<l.length
  . have e:l.drop i=l.getD i (0,0,0,0)::l.drop (i+1):=N9 h
    rw [QG (by omega),A3 (by simp;omega),QO,e]
    dsimp only
    have:∀ y:Nod,(y.1==x.1&&(y.2.1==x.2.1&&(y.2.2.1==x.2.2.1&&(y.2.2.2==x.2.2.2&&true))))=decide (y=x):=λy=>by rw [Au6];exact decide_eq_decide.2 ⟨Eq.symm,Eq.symm⟩
    rw [this,QK];unfold hasN;by_cases h1:l.getD i (0,0,0,0)=x
    . rw [QG h1]
      exact ⟨_,rfl,by rw [JF,QU h1,QU (by omega)];rfl⟩
    . rw [QI h1,Ab (by omega) (by omega)]
      obtain ⟨r,h2,h3⟩:=Acd (n:=n) (x:=x) hl m (i+1) (by omega) (by omega)
      exact ⟨r,h2,by rw [h3,JF,QQ h1];rfl⟩
  . rw [QI (by omega),QX (by omega)]
    exact ⟨-1,rfl,rfl⟩

theorem B8z {n:Nat} {x:Nod} {i:Int} (hi:0<=i/\i<1152921504606846976):f182 n x i=some (decide (Cc x i)):=by
 obtain ⟨op,A,B,N⟩:=x;unfold f182
 simp only [H4,Ky,A1,Ix,Kw,B8s hi,Ab (x:=i-1) (by omega) (by omega),ZZ,QN,KL]
 have e:W (8*(if op=8 then 1 else 0))=if op=8 then 8 else 0:=by
  by_cases h:op=8 <;> simp [h] <;> exact Ab (by omega) (by omega)
 unfold Cc Ff Gf B9;dsimp only;by_cases h1:3<=op/\op<=6
 . obtain h | h | h | h:op=3 \/ op=4 \/ op=5 \/ op=6:=by omega
   all_goals (subst h;simp;grind)
 . by_cases h2:op=7 \/ op=8
   . rcases h2 with h | h
     . subst h
       rw [QI (by omega),QG (by simp),e]
       by_cases a1:0<=A/\A<=i-1
       . by_cases a2:B=0
         . simp [a1,a2]
           rw [<- Bool.decide_and];exact decide_eq_decide.2 (by omega)
         . simp [a1,a2]
       . simp [a1]
     . subst h
       rw [QI (by omega),QG (by simp),e]
       by_cases a1:0<=A/\A<=i-1
       . by_cases a2:B=0
         . simp [a1,a2]
         . simp [a1,a2]
       . simp [a1]
   . simp only [QI h1,QI h2];congr 1;apply decide_eq_decide.2;grind

theorem B3f {n:Nat} {l:List Nod} {x:Nod} (hl:l.length<=1048576) (hn:1048577<=n):∃ r:Int,f183 n l x=some r/\decide (r>=0)=hasN l x:=by
 obtain ⟨r,h1,h2⟩:=Acd (n:=n) (x:=x) hl n 0 (by omega) (by omega)
 exact ⟨r,h1,by rw [h2,ZJ]⟩

def Af5 (e:List Nod) (k:Nat):Bool:=decide (Cc (e.getD k (0,0,0,0)) k) && !hasN (e.take k) (e.getD k (0,0,0,0))

def Lg (e:List Nod):Nat->Nat->Bool
 | _,0=>true
 | k,c+1=>Af5 e k&&Lg e (k+1) c

def J5 (e:List Nod) (o:Int):Bool:=decide (1<=e.length/\e.length<=60)&&(o==(e.length:Int)-1&&Lg e 0 e.length)

theorem Ac7 {α:Type} {n:Nat} {e:List Nod} {o:Int} (hl:e.length<=1000) (hn:1048577<=n) {k0:Bool->Option α} {k1:Unit->Option α}:∀ (m i:Nat),i<=e.length->e.length<i+m ->
  A02 n m e (e.length:Int) (i:Int) e o k0 k1=bif Lg e i (e.length-i) then k1 () else k0 false
 | 0,i,hi,hm=>by omega
 | m+1,i,hi,hm=>by
  rw [Awk];unfold A34;rw [QK];by_cases h:i<e.length
  . obtain ⟨q,hq⟩:∃ q,e.length-i=q+1:=⟨e.length-i-1,by omega⟩
    have hq2:e.length-(i+1)=q:=by omega
    rw [QG (by omega),A3 (by simp;omega),QO,hq]
    dsimp only
    rw [B8c (by omega),A1,A3 (by simp;omega)]
    simp only [ZJ,KX]
    rw [B86 (by simp;omega) hn,A1,Ab (by omega) (by omega)]
    unfold Lg Af5
    cases decide (Cc (e.getD i (0,0,0,0)) i) with
    | false=>rfl
    | true =>
     cases hasN (e.take i) (e.getD i (0,0,0,0)) with
     | true=>rfl
     | false =>
      have:=Ac7 hl hn (o:=o) (k0:=k0) (k1:=k1) m (i+1) (by omega) (by omega)
      rw [hq2] at this;exact this
  . rw [QI (by omega),show e.length-i=0 by omega];rfl

theorem Ad3 {α:Type} {n:Nat} {e:List Nod} {o:Int} (hl:e.length<=1000) (hn:1048577<=n) {k0:Bool->Option α} {k1:Unit->Option α}:∀ (m i:Nat),i<=e.length->e.length<i+m ->
  A0j n m (i:Int) e o k0 k1=bif Lg e i (e.length-i) then k1 () else k0 false
 | 0,i,hi,hm=>by omega
 | m+1,i,hi,hm=>by
  rw [Azf];unfold A57;rw [QK];by_cases h:i<e.length
  . obtain ⟨q,hq⟩:∃ q,e.length-i=q+1:=⟨e.length-i-1,by omega⟩
    have hq2:e.length-(i+1)=q:=by omega
    rw [QG (by omega),A3 (by simp;omega),QO,hq]
    dsimp only
    rw [B8z (by omega),A1,A3 (by simp;omega),A3 (by simp;omega)]
    simp only [ZJ,KX]
    obtain ⟨r,h1,h2⟩:=B3f (n:=n) (l:=e.take i) (x:=e.getD i (0,0,0,0)) (by simp;omega) hn
    rw [h1,A1,h2,Ab (by omega) (by omega)]
    unfold Lg Af5
    cases decide (Cc (e.getD i (0,0,0,0)) i) with
    | false=>rfl
    | true =>
     cases hasN (e.take i) (e.getD i (0,0,0,0)) with
     | true=>rfl
     | false =>
      have:=Ad3 hl hn (o:=o) (k0:=k0) (k1:=k1) m (i+1) (by omega) (by omega)
      rw [hq2] at this;exact this
  . rw [QI (by omega),show e.length-i=0 by omega];rfl

theorem B8h {n:Nat} {e:List Nod} {o:Int} (hN:e.length<=1048576) (hn:1048577<=n):f201 n (e,o)=some (J5 e o):=by
 unfold f201 J5;dsimp only;rw [A07,A1];by_cases h1:(1:Int)<=(e.length:Int)/\(e.length:Int)<=60
 . rw [QU h1,QU (show 1<=e.length/\e.length<=60 by omega),Ab (by omega) (by omega)]
   simp only [ZT,QR,ZV]
   cases ho:(o==(e.length:Int)-1) with
   | false=>rw [show (o != (e.length:Int)-1)=true by rw [bne,ho];rfl];rfl
   | true =>
    rw [show (o != (e.length:Int)-1)=false by rw [bne,ho];rfl,QR]
    have:=Ac7 (n:=n) (e:=e) (o:=o) (by omega) hn (k0:=λz_5=>some z_5) (k1:=λ(_:Unit)=>some true) n 0 (by omega) (by omega)
    refine Eq.trans this ?_;rw [KX]
    cases Lg e 0 e.length <;> rfl
 . rw [QQ h1,QQ (show ¬ (1<=e.length/\e.length<=60) by omega)];rfl

theorem Bau {n:Nat} {e:List Nod} {o:Int} (hN:e.length<=1048576) (hn:1048577<=n):f115 n (e,o)=some (J5 e o):=by
 unfold f115 J5;dsimp only;rw [Ix,A1];by_cases h1:(1:Int)<=(e.length:Int)/\(e.length:Int)<=60
 . rw [QU h1,QU (show 1<=e.length/\e.length<=60 by omega),Ab (by omega) (by omega)]
   simp only [ZT,QR,ZV]
   cases ho:(o==(e.length:Int)-1) with
   | false=>rw [show (o != (e.length:Int)-1)=true by rw [bne,ho];rfl];rfl
   | true =>
    rw [show (o != (e.length:Int)-1)=false by rw [bne,ho];rfl,QR]
    have:=Ad3 (n:=n) (e:=e) (o:=o) (by omega) hn (k0:=λz_5=>some z_5) (k1:=λ(_:Unit)=>some true) n 0 (by omega) (by omega)
    refine Eq.trans this ?_;rw [KX]
    cases Lg e 0 e.length <;> rfl
 . rw [QQ h1,QQ (show ¬ (1<=e.length/\e.length<=60) by omega)];rfl

theorem Af4 {e:List Nod}:∀ {c k j:Nat},Lg e k c=true->k<=j->j<k+c->Af5 e j=true
 | 0,k,j,h,h1,h2=>by omega
 | c+1,k,j,h,h1,h2=>by
  simp only [Lg,QF] at h;rcases KY h1 with h3 | h3
  . exact Af4 h.2 (by omega) (by omega)
  . subst h3;exact h.1

theorem B12 {e:List Nod} {o d:Int} (h:J5 e o=true) (hd:Im 0 e<=d):A5k e d/\1<=e.length/\e.length<=60/\o=(e.length:Int)-1:=by
 unfold J5 at h;simp only [QF,QN,KL] at h;obtain ⟨h1,h2,h3⟩:=h;refine ⟨λk hk=>?_,h1.1,h1.2,h2⟩
 have hs:=Af4 h3 (KI k) (by omega)
 unfold Af5 at hs;simp only [QF,QN] at hs;have hp:=hs.1;refine ⟨hp,λh2=>?_⟩
 have hm:e.getD k (0,0,0,0) ∈ e:=by
  rw [QH,QM hk];exact KU hk
 have:=(Ap0 e 0).2 _ hm h2 (by have:=hp.2.1;unfold Gf at this;rw [QI (by omega),QG h2] at this;exact this)
 omega

theorem Abe {α:Type} {n L k:Nat} {x:Rat} (hx:Sz x L) (hL:L<=1000) (hk:k<=10) (hn:68719476736<=n) {k0:Bool->Bool->List Int->List Int->Option α}:∀ (m i:Nat),i<=k->k<i+m ->
  A0d n m (k:Int) (i:Int) (rq x).1 (rq x).2.1 (rq x).2.2 false (rq (x ^ i)).1 (rq (x ^ i)).2.1 (rq (x ^ i)).2.2 k0=k0 false (rq (x ^ k)).1 (rq (x ^ k)).2.1 (rq (x ^ k)).2.2
 | 0,i,hi,hm=>by omega
 | m+1,i,hi,hm=>by
  rw [Ayi];unfold A4h;rw [QK];by_cases h:i<k
  . have l1:L*i<=L*10:=XL _ (by omega)
    rw [QG (by omega)]
    show (ob (f140 n (rq (x ^ i)) (rq x)) λr_2=>_)=_
    rw [Ml (Dy hx i) hx (by omega) hn,A1,Ab (by omega) (by omega),<- Rat.pow_succ]
    exact Abe hx hL hk hn m (i+1) (by omega) (by omega)
  . obtain rfl:i=k:=by omega
    rw [QI (by omega)]

theorem Apg {n L k:Nat} {x:Rat} (hx:Sz x L) (hL:L<=1000) (hk:k<=10) (hn:68719476736<=n):f144 n (rq x) (k:Int)=some (rq (x ^ k)):=by
 unfold f144;rw [sW1 hn,A1]
 have:=Abe (n:=n) hx hL hk hn (k0:=λz_3 z_4 z_5 z_6=>some ((z_4,z_5,z_6):Rt)) n 0 (by omega) (by omega)
 rw [Rat.pow_zero] at this;exact this

theorem div_one {x y:Rat}:x / y=x*(1 / y):=by rw [Rat.div_def,Rat.div_def,Rat.one_mul]

def Mj (q:Q4):Bool:=Bx q.f

def fq (q:Q4):Rt:=rq q.f

theorem Hr {l:List Q4} {k:Nat} (h:k<l.length):(l.map fq).getD k (false,[],[])=rq (l.getD k (Q4.cst 0)).f:=by
 simp [QH,QM h,fq]

theorem Atc {α:Type} {n:Nat} {X:List Rat} {e:List Nod} {o:Int} {l:List Q4} {x:Nod} (hx:Cc x l.length) (he:e.getD l.length (0,0,0,0)=x) (hl:l.length<e.length) (hl2:l.length<=1000) (hd:x.1=2->x.2.2.2<X.length)
  (hs:∀ k,k<l.length->Sz (l.getD k (Q4.cst 0)).f 40) (hX:Sv X 40) (hn:68719476736<=n)
  {f:List Rt->Int->List Nod->Int->List Rt->Option α} {k0:List Rt->Int->Option α} {k1:List Rt->Option α} :
  Rn n (vq X) (l.length:Int) e o (l.map fq) f k0 k1 =
   if Hh l x then k0 [] 10 else if Mj (Ba (Ak X) (λ_=>0) (λ_=>0) l x)=true then f (vq X) ((l.length+1:Nat):Int) e o ((l++[Ba (Ak X) (λ_=>0) (λ_=>0) l x]).map fq) else k0 [] 7:=by
 have J : ∀ q : Q4, (ob (f145 n (rq q.f)) fun r_25 =>
       bif (!r_25) then
        k0 [] 7
       else
        ob (f127 n (rq q.f)) λr_26 =>
        gd (decide (((l.map fq).length+1)*56<=140737488355328)) (
         f (vq X) (W ((l.length:Int)+1)) e o (l.map fq++[r_26])))=if Mj q=true then f (vq X) ((l.length+1:Nat):Int) e o ((l++[q]).map fq) else k0 [] 7:=by
  intro q
  rw [B5g,A1,Ab (by omega) (by omega)]
  unfold Mj
  cases hf:Bx q.f with
  | false=>rfl
  | true =>
   rw [ZT,QR,Bgt (Db.1 hf) (by omega),A1,A3 (by simp;omega),YT]
   simp only [if_true];rfl
 obtain ⟨op,A,B,N⟩:=x;obtain ⟨⟨o1,o2⟩,hN,hA,hB⟩:=hx;unfold Rn Hh
 rw [QK,QG (by omega),A3 (by simp;omega),QO,he]
 unfold Gf at hN;unfold B9 at hA hB;unfold Ba
 have hNb:N.natAbs<=1000000000:=by
  dsimp only at hN;split at hN
  . omega
  . split at hN
    . omega
    . split at hN <;> omega
 dsimp only at *
 rw [J7 (by omega) (by omega),A1]
 obtain rfl | rfl | rfl | rfl | rfl | rfl | rfl | rfl:op=1 \/ op=2 \/ op=3 \/ op=4 \/ op=5 \/ op=6 \/ op=7 \/ op=8:=by omega
 all_goals simp only [Int.reduceEq,Qbt,or_true,true_or,if_false,if_true,Int.reduceBEq,ZE,QR,Int.reduceLT,gt_iff_lt,decide_true,decide_false,Qaq,Qaj] at *
 . exact J (Q4.cst (N:Rat))
 . have hd:=hd trivial
   rw [Bn,A3 (by simp;omega),Bz (by omega)]
   exact J ⟨Ak X N.toNat,0,0,0⟩
 all_goals (have lA:A.toNat<l.length:=by omega)
 . have lB:B.toNat<l.length:=by omega
   rw [QZ,A3 (by simp;omega),A3 (by simp;omega),A3 (by simp;omega),A3 (by simp;omega),Hr lA,Hr lB,sPl (hs _ lA) (hs _ lB) (by omega) hn,A1]
   have:=J (Q4.add (l.getD A.toNat (Q4.cst 0)) (l.getD B.toNat (Q4.cst 0)));rw [QZ] at this;exact this
 . have lB:B.toNat<l.length:=by omega
   rw [QZ,A3 (by simp;omega),A3 (by simp;omega),A3 (by simp;omega),A3 (by simp;omega),Hr lA,Hr lB,sLs (hs _ lA) (hs _ lB) (by omega) hn,A1,Rat.sub_eq_add_neg]
   have:=J (Q4.add (l.getD A.toNat (Q4.cst 0)) (Q4.neg (l.getD B.toNat (Q4.cst 0))));rw [QZ] at this;exact this
 . have lB:B.toNat<l.length:=by omega
   rw [QZ,A3 (by simp;omega),A3 (by simp;omega),A3 (by simp;omega),A3 (by simp;omega),Hr lA,Hr lB,Ml (hs _ lA) (hs _ lB) (by omega) hn,A1]
   have:=J (Q4.mul (l.getD A.toNat (Q4.cst 0)) (l.getD B.toNat (Q4.cst 0)));rw [QZ] at this;exact this
 . have lB:B.toNat<l.length:=by omega
   rw [QZ,A3 (by simp;omega),A3 (by simp;omega),Hr lB,show f141 n (rq (l.getD B.toNat (Q4.cst 0)).f)=some (decide ((l.getD B.toNat (Q4.cst 0)).f=0)) from Bbt,A1,QK]
   by_cases h0:(l.getD B.toNat (Q4.cst 0)).f=0
   . rw [QG h0,QG h0]
   . rw [QI h0,QI h0,A3 (by simp;omega),A3 (by simp;omega),A3 (by simp;omega),A3 (by simp;omega),Hr lA,sOv (hs _ lA) (hs _ lB) h0 (by omega) hn,A1,div_one]
     have:=J (Q4.mul (l.getD A.toNat (Q4.cst 0)) (Q4.inv (l.getD B.toNat (Q4.cst 0))));rw [QZ] at this;exact this
 . rw [QZ,A3 (by simp;omega),A3 (by simp;omega),Hr lA,A5u,A1]
   have:=J (Q4.neg (l.getD A.toNat (Q4.cst 0)));rw [QZ] at this;exact this
 . obtain ⟨N',rfl⟩:∃ N':Nat,N=(N':Int):=⟨N.toNat,by omega⟩
   rw [QZ,A3 (by simp;omega),A3 (by simp;omega),Hr lA,Apg (hs _ lA) (by omega) (by omega) hn,A1,QO]
   have:=J (Q4.pow (l.getD A.toNat (Q4.cst 0)) N');rw [QZ,Q4.pow_eq] at this;rw [Q4.pow_eq];exact this

theorem Aet {α:Type} {n:Nat} {X:List Rat} {e:List Nod} {o:Int} (hp:A5k e X.length) (he:e.length<=60) (hX:Sv X 40) (hn:68719476736<=n)
  {k0:List Rt->Int->Option α} {k1:List Rt->Option α}:∀ (m:Nat) (l:List Q4),(∀ k,k<l.length->Sz (l.getD k (Q4.cst 0)).f 40)->l.length<=e.length->e.length<l.length+m ->
  A6h n m (vq X) (l.length:Int) e o (l.map fq) k0 k1=match El Mj (Ak X) (λ_=>0) (λ_=>0) (e.drop l.length) l with
   | .inl l'=>k1 (l'.map fq)
   | .inr c=>k0 [] c
 | 0,l,hs,hl,hm=>by omega
 | m+1,l,hs,hl,hm=>by
  rw [B2f];by_cases h:l.length<e.length
  . obtain ⟨h1,h2⟩:=hp _ h
    rw [Atc h1 rfl h (by omega) h2 hs hX hn,N9 h,El]
    by_cases hb:Hh l (e.getD l.length (0,0,0,0))
    . rw [QG hb,QG hb]
    . rw [QI hb,QI hb];generalize hq:Ba (Ak X) (λ_=>0) (λ_=>0) l (e.getD l.length (0,0,0,0))=q;by_cases hf:Mj q=true
      . rw [QG hf,QG hf]
        have:=Aet hp he hX hn (o:=o) (k0:=k0) (k1:=k1) m (l++[q]) (λk hk=>by
         simp only [ZL,ZD,XD] at hk;rcases ZW k l.length with h3 | h3
         . rw [A89 h3];exact hs k h3
         . obtain rfl:k=l.length:=by omega
           rw [A8a];exact Db.1 hf) (by simp;omega) (by simp;omega)
        rw [ZL] at this;exact this
      . rw [QI hf,QI hf]
  . have h0:l.length=e.length:=by omega
    unfold Rn
    rw [QK,QI (by omega),QX (by omega)]
    rfl

theorem B0x {n:Nat} {X:List Rat} {e:List Nod} {o:Int} (hp:A5k e X.length) (he:e.length<=60) (hX:Sv X 40) (hn:68719476736<=n) :
  f88 n (e,o) (vq X)=some (match El Mj (Ak X) (λ_=>0) (λ_=>0) e [] with
   | .inl l=>(l.map fq,0)
   | .inr c=>([],c)):=by
 unfold f88
 have:=Aet (n:=n) (o:=o) hp he hX hn (k0:=λz_28 z_29=>some ((z_28,z_29):List Rt × Int)) (k1:=λz_30=>some (z_30,0)) n [] (by simp) (by simp) (by simp;omega)
 refine Eq.trans this ?_;rw [XD,ZJ]
 cases El Mj (Ak X) (λ_=>0) (λ_=>0) e [] <;> rfl

def G6 (e:List Nod) (o:Int) (l:List Rt):Int:=if 4096<l.length then 2 else if J5 e o=true/\F0 l=true then (if (l.length:Int)<Im 0 e then 8 else 0) else 1

theorem A92 {n:Nat} {e:List Nod} {o:Int} {l:List Rt} (hN:e.length<=1048576) (hn:1048577<=n):f96 n (e,o) l=some (G6 e o l):=by
 unfold f96 f149 G6
 rw [An3 (by simp) hn,A1,B8h hN hn,A1,Gj,A1,A1,Aak hn,A1,Gj,A1,Oi (by simp) hn,A1]
 have hL:A24 [l]=decide (4096<l.length):=by simp [A24]
 rw [hL];by_cases h1:4096<l.length
 . simp only [h1,decide_true,if_true]
   rw [show Kl [2,if J5 e o=true then 0 else 1,if F0 l=true then 0 else 1]=2 from rfl,show ((2:Int) != 0)=true from rfl,ZE,Gj,A1,Oi (by simp) hn];rfl
 . simp only [h1,decide_false,if_false,XR]
   cases h2:J5 e o with
   | true =>
    cases h3:F0 l with
    | true =>
     simp only [if_true,and_self]
     rw [show Kl [0,0,0]=0 from rfl,show ((0:Int) != 0)=false from rfl,QR,Baq hN hn,A1,Gj,A1,Oi (by simp) hn,A1]
     by_cases h4:(l.length:Int)<Im 0 e
     . rw [QG h4,QI (by simp;omega)];rfl
     . rw [QI h4,QG (by simp;omega)];rfl
    | false =>
     simp only [if_true,XR,if_false,and_false]
     rw [show Kl [0,0,1]=1 from rfl,show ((1:Int) != 0)=true from rfl,ZE,Gj,A1,Oi (by simp) hn];rfl
   | false =>
    simp only [if_false,XR,Qaq]
    rw [show ∀ b:Int,Kl [0,1,b]=1 from λ_=>rfl,show ((1:Int) != 0)=true from rfl,ZE,Gj,A1,Oi (by simp) hn];rfl

theorem B7v {n:Nat} {e:List Nod} {o:Int} {l:List Rt} (hN:e.length<=1048576) (hn:1048577<=n):f65 n (e,o) l=some (G6 e o l):=by
 unfold f65 f117 G6;rw [QK];by_cases h1:4096<l.length
 . rw [QG (by omega),QG h1]
 . rw [QI (by omega),QI h1,Bau hN hn,A1]
   dsimp only
   cases h2:J5 e o with
   | true =>
    simp only [ZT,QR];rw [Aam hn,A1]
    cases h3:F0 l with
    | true =>
     simp only [ZT,QR,and_self,if_true];rw [Bak hN hn,A1,A1,QK];by_cases h4:(l.length:Int)<Im 0 e
     . rw [QG h4,QG h4]
     . rw [QI h4,QI h4]
    | false=>simp
   | false=>simp

theorem A0t {e:List Nod} {o:Int} {l:List Rt} (h:G6 e o l=0):J5 e o=true/\F0 l=true/\Im 0 e<=l.length/\l.length<=4096:=by
 unfold G6 at h;split at h
 . omega
 . split at h
   . rename_i h1;split at h
     . omega
     . exact ⟨h1.1,h1.2,by omega,by omega⟩
   . omega

theorem Baw {n i:Nat} {l:List Q4} (h:i<l.length):f114 n (i:Int) (l.map Av)=some (rq (l.getD i (Q4.cst 0)).f):=by
 unfold f114
 rw [QZ,A3 (by simp;omega),QO,Ag5 h];rfl

theorem B7l {l:List Q4} {i:Nat} (h:i<l.length):(l.take (i+1)).map fq=(l.take i).map fq++[rq (l.getD i (Q4.cst 0)).f]:=by
 rw [YY h,YT,QH,QM h];rfl

theorem Ad6 {α:Type} {n:Nat} {l:List Q4} (hl:l.length<=60) (hs:∀ k,k<l.length->Sz (l.getD k (Q4.cst 0)).f 40) {k0:List Rt->Option α}:∀ (m i:Nat),i<=l.length->l.length<i+m ->
  Lk n m (l.map Av) (l.length:Int) (i:Int) ((l.take i).map fq) k0=k0 (l.map fq)
 | 0,i,hi,hm=>by omega
 | m+1,i,hi,hm=>by
  rw [Adz];unfold Pl;rw [QK];by_cases h:i<l.length
  . rw [QG (by omega),Baw h,A1,Amy (hs i h) (by omega),A1,A3 (by simp;omega),Ab (by omega) (by omega),<- B7l h]
    exact Ad6 hl hs m (i+1) (by omega) (by omega)
  . rw [QI (by omega),XS (by omega)]

theorem Bb5 {n:Nat} {l:List Q4} (hl:l.length<=60) (hs:∀ k,k<l.length->Sz (l.getD k (Q4.cst 0)).f 40) (hn:1048577<=n):Ux n (l.length:Int) (l.map Av)=some (l.map fq):=by
 unfold Ux
 have:=Ad6 (n:=n) hl hs (k0:=λz_3=>some z_3) n 0 (by omega) (by omega)
 exact this

theorem B1b (x:Nat->Rat):Dz x (λ_:Bool=>λ_=>0) (λ_:Bool=>λ_=>0) (λp=>(p true).f=(p false).f/\(p false).v=0):=by
 refine ⟨λ_=>⟨rfl,rfl⟩,λ_=>⟨rfl,rfl⟩,?_,?_,?_,?_⟩
 . rintro p q ⟨h1,h2⟩ ⟨g1,g2⟩
   simp only [Q4.add,h1,h2,g1,g2]
   exact ⟨trivial,by grind⟩
 . rintro p ⟨h1,h2⟩
   simp only [Q4.neg,h1,h2]
   exact ⟨trivial,by grind⟩
 . rintro p q ⟨h1,h2⟩ ⟨g1,g2⟩
   simp only [Q4.mul,h1,h2,g1,g2]
   exact ⟨trivial,by grind⟩
 . rintro p ⟨h1,h2⟩
   simp only [Q4.inv,h1,h2]
   exact ⟨trivial,by grind⟩

theorem Aue {l m:List Q4} (h:l.length=m.length) (hk:∀ k,(l.getD k (Q4.cst 0)).f=(m.getD k (Q4.cst 0)).f):l.map fq=m.map fq:=by
 apply Qbb
 . simp [h]
 . intro i h1 h2;simp only [QZ] at h1 h2;have:=hk i;simp only [QH,QM h1,QM h2,YL] at this;simp only [List.getElem_map,fq,this]

theorem B11 {X:List Rat} {e:List Nod}:(∃ c,El Mj (Ak X) (λ_=>0) (λ_=>0) e [] = .inr c/\El If (Ak X) (λ_=>0) (λ_=>0) e [] = .inr c/\c ≠ 0) \/
  ∃ l m,El Mj (Ak X) (λ_=>0) (λ_=>0) e [] = .inl l/\El If (Ak X) (λ_=>0) (λ_=>0) e [] = .inl m/\m.length=e.length/\l.map fq=m.map fq /\ ∀ k,k<m.length->Sz (m.getD k (Q4.cst 0)).f 40:=by
 rcases B4w (B1b (Ak X)) (f:=Mj) (g:=If) (λp hp=>by
   obtain ⟨h1,h2⟩:=hp;unfold Mj If
   rw [h1,h2,Bh6];simp) (λp hp=>hp.1) e with ⟨c,h1,h2⟩ | ⟨l,m,h1,h2,h3,h4,h5⟩
 . exact .inl ⟨c,h1,h2,by rcases Ajq _ _ _ h1 with rfl | rfl <;> decide⟩
 . refine .inr ⟨l,m,h1,h2,h4,Aue (by omega) (λk=>(h5 k).1),λk hk=>?_⟩
   have:=(A0n e [] m (λk hk=>by simp at hk) h2).1 k hk
   unfold If at this;simp only [QF,Db] at this;exact this.1

def Vu (F:List Rat) (k:Nat):Rat:=F.getD k 0

def App (p:Pt):Rt × Rt × Rt × Rt:=(rq p.a,rq p.b,rq p.da,rq p.db)

theorem Bbu {n K k:Nat} {F D:List Rat} {x:Nod} (hx:Cc x k) (hF:F.length=k \/ k<=F.length) (hD:k<=D.length) (sF:Sv F 40) (sD:Sv D K) (hK:K<=10000000) (h6:x.1=6->Vu F x.2.2.1.toNat ≠ 0) (hn:68719476736<=n) :
  f148 n x (vq F) (vq D)=some (App (By (Vu F) (Vu D) x)):=by
 have hF:k<=F.length:=by omega
 obtain ⟨op,A,B,N⟩:=x;obtain ⟨⟨o1,o2⟩,hN,hA,hB⟩:=hx;unfold f148 By App;rw [sW0 hn,A1,sW1 hn,A1];unfold Gf at hN;unfold B9 at hA hB;dsimp only at *
 obtain rfl | rfl | rfl | rfl | rfl | rfl | rfl | rfl:op=1 \/ op=2 \/ op=3 \/ op=4 \/ op=5 \/ op=6 \/ op=7 \/ op=8:=by omega
 all_goals simp only [Int.reduceEq,Qbt,or_true,true_or,if_false,if_true,Int.reduceBEq,ZE,QR,Int.reduceLT,gt_iff_lt] at *
 . rw [show f131 n (-1)=some (rq (-1)) from J7 (a:=-1) (by omega) (by omega),A1]
 . have lA:A.toNat<k:=by omega
   have lB:B.toNat<k:=by omega
   rw [Bn,Bn,A3 (by simp;omega),A3 (by simp;omega),A3 (by simp;omega),A3 (by simp;omega),Bz (by omega),Bz (by omega),Bz (by omega),Bz (by omega)];rfl
 . have lA:A.toNat<k:=by omega
   have lB:B.toNat<k:=by omega
   have h6:=h6 trivial
   have fA:=sF.get (show A.toNat<F.length by omega)
   have fB:=sF.get (show B.toNat<F.length by omega)
   have dA:=sD.get (show A.toNat<D.length by omega)
   have dB:=sD.get (show B.toNat<D.length by omega)
   have r:=A8c fB h6;have r2:=Aj r r;have r3:=Aj r2 r
   have k2:Sz 2 1:=B0r (c:=2) (by omega)
   have e1:=Aj dA r2;have e2:=Aj fA dB;have e3:=Aj e2 r3
   rw [Bn,Bn,A3 (by simp;omega),Bz (show B.toNat<F.length by omega),sOv (Pw (L:=1) (by omega)) fB h6 (by omega) hn,A1,Ml r r (by omega) hn,A1,Ml r2 r (by omega) hn,A1,
    A3 (by simp;omega),Bz (show B.toNat<D.length by omega),Ml dB r2 (by omega) hn,A1,A5u,A1,A3 (by simp;omega),Bz (show A.toNat<F.length by omega),Ml fA r2 (by omega) hn,A1,A5u,A1,
    A3 (by simp;omega),Bz (show A.toNat<D.length by omega),Ml dA r2 (by omega) hn,A1,A5u,A1,sW2 hn,A1,A3 (by simp;omega),A3 (by simp;omega),Ml fA dB (by omega) hn,A1,Ml e2 r3 (by omega) hn,A1,Ml k2 e3 (by omega) hn,A1,
    sPl (Cm e1) (Aj k2 e3) (by omega) hn,A1];rfl
 . rw [show f131 n (-1)=some (rq (-1)) from J7 (a:=-1) (by omega) (by omega),A1]
 . have lA:A.toNat<k:=by omega
   obtain ⟨N',rfl⟩:∃ N':Nat,N=(N':Int):=⟨N.toNat,by omega⟩
   have fA:=sF.get (show A.toNat<F.length by omega)
   have dA:=sD.get (show A.toNat<D.length by omega)
   rw [QO]
   match N' with
   | 0=>simp [Q4.d1,Q4.d2,Rat.zero_mul]
   | 1 =>
    rw [show (((1:Nat):Int)==0)=false from rfl,QR,J7 (by omega) (by omega),A1,Bn,A3 (by simp;omega),Bz (by omega),show W (((1:Nat):Int)-1)=((0:Nat):Int) from rfl,Apg fA (by omega) (by omega) hn,A1,
     Ml (Bo (a:=((1:Nat):Int)) (by omega)) (Dy fA 0) (by omega) hn,A1]
    simp [Q4.d1,Q4.d2,Rat.zero_mul]
   | N'+2 =>
    have h2:(N'+2)*(N'+1)<=8*8:=XF (by omega) (by omega)
    have p1:=Dy fA (N'+1);have p2:=Dy fA N'
    have i1:=Bo (a:=((N'+2:Nat):Int)) (by omega)
    have i2:=Bo (a:=(((N'+2)*(N'+1):Nat):Int)) (by rw [XE];omega)
    have l1:40*(N'+1)<=40*8:=XL _ (by omega)
    rw [show (((N'+2:Nat):Int)==0)=false by rw [beq_eq_false_iff_ne];omega,QR,J7 (by omega) (by omega),A1,Bn,Bn,A3 (by simp;omega),Bz (show A.toNat<F.length by omega),
     Ab (x:=((N'+2:Nat):Int)-1) (by omega) (by omega),show ((N'+2:Nat):Int)-1=((N'+1:Nat):Int) by omega,Apg fA (by omega) (by omega) hn,A1,Ml i1 p1 (by omega) hn,A1,
     QK,QG (by omega),show ((N'+2:Nat):Int)*((N'+1:Nat):Int)=(((N'+2)*(N'+1):Nat):Int) by rw [XV],Ab (x:=(((N'+2)*(N'+1):Nat):Int)) (by omega) (by omega),J7 (by omega) (by omega),A1,
     A3 (by simp;omega),Ab (x:=((N'+2:Nat):Int)-2) (by omega) (by omega),show ((N'+2:Nat):Int)-2=((N':Nat):Int) by omega,Apg fA (by omega) (by omega) hn,A1,Ml i2 p2 (by omega) hn,A1,
     A3 (by simp;omega),Bz (show A.toNat<D.length by omega),Ml (Aj i2 p2) dA (by omega) hn,A1]
    simp only [Q4.d1,Q4.d2,Vu,KC];rw [Rat.mul_comm (F.getD A.toNat 0 ^ (N'+1)),Rat.mul_comm (F.getD A.toNat 0 ^ N')]

theorem B75 {f d d':Nat->Rat} {n:Nod}:(By f d n).a=(By f d' n).a/\(By f d n).b=(By f d' n).b:=by
 unfold By;dsimp only;repeat (first | exact ⟨rfl,rfl⟩ | split)

theorem B5j {f d:Nat->Rat} {n:Nod} (hf:∀ k,Sz (f k) 40) (h6:n.1=6->f n.2.2.1.toNat ≠ 0) (h8:n.1=8->n.2.2.2.toNat<=8):Sz (By f d n).a 330/\Sz (By f d n).b 330:=by
 have z:Sz 0 330:=Ch.mono (by omega)
 have o:Sz 1 330:=Pw (by omega)
 have m:Sz (-1) 330:=Cm o;unfold By;dsimp only;split
 . exact ⟨o,o⟩
 split
 . exact ⟨o,m⟩
 split
 . exact ⟨(hf _).mono (by omega),(hf _).mono (by omega)⟩
 split
 . rename_i h;have r:=A8c (hf n.2.2.1.toNat) (h6 h)
   exact ⟨r.mono (by omega),(Cm (Aj (hf n.2.1.toNat) (Aj r r))).mono (by omega)⟩
 split
 . exact ⟨m,z⟩
 split
 . rename_i h
   exact ⟨(Aeo (hf n.2.1.toNat) (h8 h)).mono (by omega),z⟩
 . exact ⟨z,z⟩

def bigH:Nat:=10000 ^ 400

set_option exponentiation.threshold 100000 in
theorem At3 {x:Rat} {L:Nat} (h:Sz x L) (hL:L<=400):Hb x bigH:=by
 have e:10000 ^ L<=bigH:=XY (by omega) hL
 exact ⟨by have:=It h.1;omega,by have:=It h.2;omega⟩

set_option exponentiation.threshold 100000 in
theorem B50:1<=bigH:=Qbu (by omega)

def Z2 (i:Nat):Nat:=10000 ^ (801*i)

set_option exponentiation.threshold 100000 in
theorem Aka (i:Nat):2*(bigH*bigH*Z2 i)<=Z2 (i+1):=by
 unfold bigH Z2;rw [<- Nat.pow_add,<- Nat.pow_add,Nat.mul_succ]
 have:(10000:Nat) ^ (801*i+801)=10000 ^ (400+400+801*i)*10000:=by rw [<- YG];congr 1;omega
 rw [this,KF 2]
 exact XL _ (by omega)

set_option exponentiation.threshold 100000 in
theorem Bgr {x:Rat} {i:Nat} (h:Hb x (Z2 i)) (hi:i<=60):Sz x 48061:=by
 have e:Z2 i<10000 ^ 48061:=by
  unfold Z2
  exact Nat.pow_lt_pow_right (by omega) (by omega)
 exact ⟨Ej (Nat.lt_of_le_of_lt h.1 e),Ej (Nat.lt_of_le_of_lt h.2 e)⟩

structure Ci (X V:List Rat) (e:List Nod):Prop where
 all:A5k e X.length
 len:e.length<=60
 vx:V.length=X.length
 sX:Sv X 40
 sV:Sv V 40
 fit:∀ k,Sz ((evs (Ak X) (λ_=>0) (Ak V) e []).getD k (Q4.cst 0)).f 40
 ok:∀ i,i<e.length->¬ Hh (evs (Ak X) (λ_=>0) (Ak V) (e.take i) []) (e.getD i (0,0,0,0))

theorem Ci.of {X V:List Rat} {e:List Nod} {l:List Q4} (ha:A5k e X.length) (hl:e.length<=60) (hv:V.length=X.length) (sX:Sv X 40) (sV:Sv V 40) (h:El Mj (Ak X) (λ_=>0) (λ_=>0) e [] = .inl l):Ci X V e:=by
 obtain ⟨h1,h2⟩:=A0n e [] l (λk hk=>by simp at hk) h
 refine ⟨ha,hl,hv,sX,sV,λk=>?_,λi hi hb=>?_⟩
 . rw [A5v (Ak X) (λ_=>0) (Ak V) (λ_=>0) (λ_=>0) e k,<- h2];rcases ZW k l.length with h3 | h3
   . exact Db.1 (h1 k h3)
   . rw [K2 h3];exact Ch.mono (by omega)
 . refine Aoz e [] l h i hi ⟨hb.1,?_⟩;rw [A5v (Ak X) (λ_=>0) (λ_=>0) (λ_=>0) (Ak V)];exact hb.2

theorem Ci.pre {X V:List Rat} {e:List Nod} (h:Ci X V e) {i:Nat} (hi:i<=e.length) (k:Nat):Sz ((evs (Ak X) (λ_=>0) (Ak V) (e.take i) []).getD k (Q4.cst 0)).f 40:=by
 rcases ZW k i with h1 | h1
 . rw [L5 _ _ _ e h1 hi];exact h.fit k
 . rw [K2 (by rw [Cp];simp;omega)];exact Ch.mono (by omega)

theorem Ci.cd {X V:List Rat} {e:List Nod} (h:Ci X V e):∀ {i:Nat},i<=e.length->CD ((evs (Ak X) (λ_=>0) (Ak V) (e.take i) []).map Q4.v) (Z2 i)
 | 0,_=>by simpa [evs,Z2] using Bgm
 | i+1,hi=>by
  have ih:=h.cd (i:=i) (by omega)
  have hi':i<e.length:=by omega
  obtain ⟨hp,hd⟩:=h.all i hi';have hbad:=h.ok i hi'
  have hf:=h.pre (i:=i) (by omega)
  rw [V1 _ _ _ _ hi',YT];generalize hl:evs (Ak X) (λ_=>0) (Ak V) (e.take i) []=l at *;generalize hx:e.getD i (0,0,0,0)=x at *;by_cases h2:x.1=2
  . have hv:(Ba (Ak X) (λ_=>0) (Ak V) l x).v=Ak V x.2.2.2.toNat:=by unfold Ba;rw [QI (by omega),QG h2]
    simp only [QT,XN,hv];have hN:=hp.2.1;unfold Gf at hN
    rw [QI (by omega),QG h2] at hN
    have:=hd h2
    have sv:Sz (Ak V x.2.2.2.toNat) 40:=h.sV.get (by have:=h.vx;omega)
    exact (ih.one (At3 sv (by omega)) B50).mono (Aka i)
  . have hq:=(A8s (Ak X) (λ_=>0) (Ak V) (λk=>l.getD k (Q4.cst 0)) x hp.1 h2).2.1;rw [<- A8r] at hq;simp only [QT,XN]
    obtain ⟨sa,sb⟩:=B5j (f:=λk=>(l.getD k (Q4.cst 0)).f) (d:=λk=>(l.getD k (Q4.cst 0)).v) (n:=x) hf (λh6 h0=>hbad ⟨h6,h0⟩) (λh8=>by
     have hN:=hp.2.1;unfold Gf at hN
     rw [QI (by omega),QI (by omega),QG h8] at hN;omega)
    have mem:∀ k,(l.getD k (Q4.cst 0)).v ∈ l.map Q4.v \/ (l.getD k (Q4.cst 0)).v=0:=λk=>by
     rcases ZW k l.length with h3 | h3
     . left;rw [QH,QM h3];exact ZK.2 ⟨_,KU h3,rfl⟩
     . right;rw [K2 h3];rfl
    exact (ih.step (At3 sa (by omega)) (At3 sb (by omega)) (mem _) (mem _) hq).mono (Aka i)

theorem Ci.sv {X V:List Rat} {e:List Nod} (h:Ci X V e) {i:Nat} (hi:i<=e.length) (k:Nat):Sz ((evs (Ak X) (λ_=>0) (Ak V) (e.take i) []).getD k (Q4.cst 0)).v 48061:=by
 generalize hl:evs (Ak X) (λ_=>0) (Ak V) (e.take i) []=l;rcases ZW k l.length with h3 | h3
 . have:=h.cd hi;rw [hl] at this
   have hm:(l.getD k (Q4.cst 0)).v ∈ l.map Q4.v:=by
    rw [QH,QM h3];exact ZK.2 ⟨_,KU h3,rfl⟩
   exact Bgr (this.hb hm) (by have:=h.len;omega)
 . rw [K2 h3];exact Ch.mono (by omega)

theorem Ci.szl {X V:List Rat} {e:List Nod} (h:Ci X V e) {i:Nat} (hi:i<=e.length):B6k (evs (Ak X) (λ_=>0) (Ak V) (e.take i) []) 48061:=⟨h.pre hi,h.sv hi⟩

theorem Ci.gives {X V:List Rat} {e:List Nod} (h:Ci X V e) (h1:1<=X.length) {n i:Nat} (hi:i<e.length) (hn:68719476736<=n) :
  Yp n (0,vq V) (e.getD i (0,0,0,0)) (vq X) ((evs (Ak X) (λ_=>0) (Ak V) (e.take i) []).map Ar)=some ((Ar (Ba (Ak X) (λ_=>0) (Ak V) (evs (Ak X) (λ_=>0) (Ak V) (e.take i) []) (e.getD i (0,0,0,0))),0),(evs (Ak X) (λ_=>0) (Ak V) (e.take i) []).map Ar):=by
 obtain ⟨hp,hd⟩:=h.all i hi;have hbad:=h.ok i hi;have hfit:=h.fit i;rw [Ajp _ _ _ e hi] at hfit
 have hlen:(evs (Ak X) (λ_=>0) (Ak V) (e.take i) []).length=i:=by rw [Cp];simp;omega
 have vx:=h.vx
 rw [B1w (X:=X) (V:=V) (by rw [hlen];exact hp) (λq=>⟨hd q,by rw [h.vx];exact hd q⟩) (by omega) (h.szl (by omega)) (by omega) hn]
 generalize evs (Ak X) (λ_=>0) (Ak V) (e.take i) []=l at *;generalize e.getD i (0,0,0,0)=x at *;have b1:¬ (x.1=6/\(l.getD x.2.2.1.toNat (Q4.cst 0)).f=0):=hbad
 have b2:¬ (x.1=8/\Bx ((l.getD x.2.1.toNat (Q4.cst 0)).f ^ x.2.2.2.toNat)=false):=λq=>by
  have:=Afm (x:=Ak X) (u:=λ_=>0) (w:=Ak V) (l:=l) q.1;rw [this] at hfit;rw [Db.2 hfit] at q
  exact absurd q.2 (by simp)
 rw [QI b1,QI b2]

theorem Af0 {α:Type} {X V:List Rat} {e:List Nod} (h:Ci X V e) (h1:1<=X.length) {n:Nat} (hn:68719476736<=n) {k0:List Jc->Option α}:∀ (m i:Nat),i<=e.length->e.length<i+m ->
  A6q n m (vq X) e (e.length:Int) (i:Int) 0 (vq V) ((evs (Ak X) (λ_=>0) (Ak V) (e.take i) []).map Ar) k0=k0 ((evs (Ak X) (λ_=>0) (Ak V) e []).map Ar)
 | 0,i,hi,hm=>by omega
 | m+1,i,hi,hm=>by
  have he:=h.len;rw [B2x];unfold A9t;rw [QK];by_cases hh:i<e.length
  . rw [QG (by omega),A3 (by simp;omega),QO]
    dsimp only
    rw [h.gives h1 hh hn,A1,A3 (by simp),A3 (by simp [Cp];omega),Ab (by omega) (by omega)]
    have:=Af0 h h1 hn (k0:=k0) m (i+1) (by omega) (by omega)
    rw [V1 _ _ _ _ hh,YT] at this;exact this
  . rw [QI (by omega),XS (by omega)]

def Cg (X V:List Rat) (e:List Nod):List Rat:=(evs (Ak X) (λ_=>0) (Ak V) e []).map Q4.v

theorem Bb4 {n i:Nat} {l:List Q4} (h:i<l.length):f103 n (i:Int) (l.map Ar)=some (rq (l.getD i (Q4.cst 0)).v):=by
 unfold f103
 rw [QZ,A3 (by simp;omega),QO,Ag8 h];rfl

theorem Bbl {l:List Q4} {i:Nat} (h:i<l.length):vq ((l.take (i+1)).map Q4.v)=vq ((l.take i).map Q4.v)++[rq (l.getD i (Q4.cst 0)).v]:=by
 rw [YY h,YT,QH,QM h];simp [vq]

theorem A7u {α:Type} {n:Nat} {l:List Q4} (hl:l.length<=60) (hs:∀ k,Sz (l.getD k (Q4.cst 0)).v 48061) {k0:List Rt->Option α}:∀ (m i:Nat),i<=l.length->l.length<i+m ->
  I1 n m (l.map Ar) (l.length:Int) (i:Int) (vq ((l.take i).map Q4.v)) k0=k0 (vq (l.map Q4.v))
 | 0,i,hi,hm=>by omega
 | m+1,i,hi,hm=>by
  rw [Ae1];unfold Po;rw [QK];by_cases h:i<l.length
  . rw [QG (by omega),Bb4 h,A1,Amy (hs i) (by omega),A1,A3 (by simp;omega),Ab (by omega) (by omega),<- Bbl h]
    exact A7u hl hs m (i+1) (by omega) (by omega)
  . rw [QI (by omega),XS (by omega)]

theorem Ci.all_v {X V:List Rat} {e:List Nod} (h:Ci X V e) (k:Nat):Sz ((evs (Ak X) (λ_=>0) (Ak V) e []).getD k (Q4.cst 0)).v 48061:=by
 have:=h.sv (i:=e.length) (ZG _) k
 rwa [YB] at this

theorem Bgz {X V:List Rat} {e:List Nod} {o:Int} (h:Ci X V e) (h1:1<=X.length) {n:Nat} (hn:68719476736<=n):f50 n (e,o) (vq X) (vq V)=some (vq (Cg X V e)):=by
 have hl:(evs (Ak X) (λ_=>0) (Ak V) e []).length=e.length:=by rw [Cp];simp
 have he:=h.len;unfold f50
 have:=Af0 h h1 hn (k0:=λz_3=>(
   ob (Uz n (z_3.length:Int) z_3) λr_4 =>
   some r_4)) n 0 (by omega) (by omega)
 refine Eq.trans this ?_
 have h2:=A7u (n:=n) (l:=evs (Ak X) (λ_=>0) (Ak V) e []) (by omega) h.all_v (k0:=λz_3=>some z_3) n 0 (by omega) (by omega)
 unfold Uz;rw [QZ];have h2:I1 n n _ _ 0 [] _=_:=h2;rw [h2,A1];rfl

theorem B1p {op:Int}:decide (3<=op/\op<=6)=decide (B9 op>1):=by
 unfold B9;apply decide_eq_decide.2;split
 . omega
 . split <;> omega

theorem Bbk {l:List Rat} {x:Rat}:vq (l++[x])=vq l++[rq x]:=by simp [vq]

theorem Bco {l:List Q4} {k:Nat} (h:k<l.length):(vq (l.map Q4.v)).getD k (false,[],[])=rq (l.getD k (Q4.cst 0)).v:=by
 rw [Bz (by simpa using h)]
 simp [QH,QM h]

theorem A5t {α:Type} {X V:List Rat} {e:List Nod} {o:Int} (h:Ci X V e) {n:Nat} (hn:68719476736<=n) {F:List Rat} (hF:F=(evs (Ak X) (λ_=>0) (Ak V) e []).map Q4.f) {k0:List Rt->Option α}:∀ (m i:Nat),i<=e.length->e.length<i+m ->
  Oh n m (vq F) (vq V) (vq (List.replicate e.length 0)) (i:Int) e o (vq ((evs (Ak X) (λ_=>0) (Ak V) (e.take i) []).map Q4.v)) k0=k0 (vq (Cg X V e))
 | 0,i,hi,hm=>by omega
 | m+1,i,hi,hm=>by
  have he:=h.len
  have hrec:=λhh=>A5t h hn hF (o:=o) (k0:=k0) m (i+1) hh (by omega)
  rw [B2a];unfold A95;rw [QK];by_cases hh:i<e.length
  . have hrec:=hrec (by omega)
    rw [V1 _ _ _ _ hh,YT,QT,XN,Bbk] at hrec;obtain ⟨hp,hd⟩:=h.all i hh;have hbad:=h.ok i hh
    have hf:=h.pre (i:=i) (by omega)
    have hv:=h.sv (i:=i) (by omega)
    have hgf:∀ k,k<i->Vu F k=((evs (Ak X) (λ_=>0) (Ak V) (e.take i) []).getD k (Q4.cst 0)).f:=λk hk=>by
     have hl:(evs (Ak X) (λ_=>0) (Ak V) e []).length=e.length:=by rw [Cp];simp
     rw [L5 _ _ _ e hk (by omega),hF]
     unfold Vu
     simp [QH,QM (show k<(evs (Ak X) (λ_=>0) (Ak V) e []).length by omega)]
    have hlF:F.length=e.length:=by rw [hF,QZ,Cp];simp
    have sF:Sv F 40:=λa ha=>by
     rw [hF] at ha;obtain ⟨q,hq,rfl⟩:=ZK.1 ha;obtain ⟨k,hk,rfl⟩:=Qbm hq;have:=h.fit k
     rwa [QH,QM hk] at this
    have hlen:(evs (Ak X) (λ_=>0) (Ak V) (e.take i) []).length=i:=by rw [Cp];simp;omega
    rw [QG (by omega),A3 (by simp;omega),QO,sW0 hn,A1]
    dsimp only;generalize hl:evs (Ak X) (λ_=>0) (Ak V) (e.take i) []=l at *;generalize hx:e.getD i (0,0,0,0)=x at *
    have hfin:∀ y:Rat,y=(Ba (Ak X) (λ_=>0) (Ak V) l x).v->gd (decide (((vq (l.map Q4.v)).length+1)*56<=140737488355328)) (Oh n m (vq F) (vq V) (vq (List.replicate e.length 0)) (W ((i:Int)+1)) e o (vq (l.map Q4.v)++[rq y]) k0)=k0 (vq (Cg X V e)):=λy hy=>by
     rw [A3 (by simp;omega),Ab (by omega) (by omega),hy]
     exact hrec
    by_cases h2:x.1=2
    . have hN:=hp.2.1;unfold Gf at hN
      rw [QI (by omega),QG h2] at hN
      have hd2:=hd h2;have vx:=h.vx
      rw [show (x.1==2)=true by rw [h2];rfl,ZE,Bn,A3 (by simp;omega),Bz (show x.2.2.2.toNat<V.length by omega),H4,A1,QQ (by omega),QR,Ky,A1,QQ (by omega),QR]
      exact hfin (V.getD x.2.2.2.toNat 0) (by unfold Ba;rw [QI (by omega),QG h2];rfl)
    . rw [show (x.1==2)=false by rw [beq_eq_false_iff_ne];exact h2,QR]
      have hq:=(A8s (Ak X) (λ_=>0) (Ak V) (λk=>l.getD k (Q4.cst 0)) x hp.1 h2).2.1;rw [<- A8r] at hq;have hpA:=hp.2.2.1;have hpB:=hp.2.2.2;by_cases h1:x.1=1
      . rw [H4,A1,QQ (by omega),QR,Ky,A1,QQ (by omega),QR]
        exact hfin 0 (by unfold Ba;rw [QG h1];rfl)
      . have kA : B9 x.1 > 0 := by
         have:=hp.1;unfold B9;split
         . omega
         . split <;> omega
        rw [QG kA] at hpA
        have lA:x.2.1.toNat<l.length:=by omega
        have hpart:=Bbu (n:=n) (F:=F) (D:=List.replicate e.length 0) (K:=1) (k:=i) hp (.inr (by omega)) (by simp;omega) sF (Bgj (by omega)) (by omega) (λh6 h0=>hbad ⟨h6,by
         have k2:B9 x.1>1:=by rw [h6];decide
         rw [QG k2] at hpB
         rw [<- hgf _ (by omega)];exact h0⟩) hn
        have pab:(By (Vu F) (Vu (List.replicate e.length 0)) x).a=(By (λk=>(l.getD k (Q4.cst 0)).f) (λk=>(l.getD k (Q4.cst 0)).v) x).a/\(B9 x.1>1->(By (Vu F) (Vu (List.replicate e.length 0)) x).b=(By (λk=>(l.getD k (Q4.cst 0)).f) (λk=>(l.getD k (Q4.cst 0)).v) x).b):=by
         have e1:=B75 (f:=Vu F) (d:=Vu (List.replicate e.length 0)) (d':=λk=>(l.getD k (Q4.cst 0)).v) (n:=x);rw [e1.1,e1.2]
         have gA:=hgf x.2.1.toNat (by omega)
         unfold By;dsimp only;by_cases k2:B9 x.1>1
         . rw [QG k2] at hpB
           have gB:=hgf x.2.2.1.toNat (by omega)
           rw [gA,gB];exact ⟨rfl,λ_=>rfl⟩
         . refine ⟨?_,λc=>absurd c k2⟩
           have:x.1=7 \/ x.1=8:=by
            unfold B9 at k2 kA;split at k2
            . omega
            . rename_i q;have:=hp.1;omega
           rcases this with h7 | h8
           . simp only [h7,Int.reduceEq,if_false,if_true]
           . simp only [h8,Int.reduceEq,if_false,if_true,gA]
        obtain ⟨sa,sb⟩:=B5j (f:=λk=>(l.getD k (Q4.cst 0)).f) (d:=λk=>(l.getD k (Q4.cst 0)).v) (n:=x) hf (λh6 h0=>hbad ⟨h6,h0⟩) (λh8=>by
         have hN:=hp.2.1;unfold Gf at hN
         rw [QI (by omega),QI (by omega),QG h8] at hN;omega)
        have go:∀ b:Bool,b=decide (B9 x.1>1)->(ob (f148 n x (vq F) (vq (List.replicate e.length 0))) λr_11 =>
          gd (decide (0<=x.2.1)&&decide (x.2.1<((vq (l.map Q4.v)).length:Int))) (
           gd (decide (x.2.1.toNat<(vq (l.map Q4.v)).length)) (
            ob (f140 n r_11.1 ((vq (l.map Q4.v)).getD x.2.1.toNat (false,[],[]))) λr_13 =>
            ob (f146 n x.1) λr_14 =>
            bif r_14 then
             gd (decide (0<=x.2.2.1)&&decide (x.2.2.1<((vq (l.map Q4.v)).length:Int))) (
              gd (decide (x.2.2.1.toNat<(vq (l.map Q4.v)).length)) (
               ob (f140 n r_11.2.1 ((vq (l.map Q4.v)).getD x.2.2.1.toNat (false,[],[]))) λr_16 =>
               ob (f138 n r_13 r_16) λr_17 =>
               gd (decide (((vq (l.map Q4.v)).length+1)*56<=140737488355328)) (
                Oh n m (vq F) (vq V) (vq (List.replicate e.length 0)) (W ((i:Int)+1)) e o (vq (l.map Q4.v)++[r_17]) k0)))
            else
             gd (decide (((vq (l.map Q4.v)).length+1)*56<=140737488355328)) (
              Oh n m (vq F) (vq V) (vq (List.replicate e.length 0)) (W ((i:Int)+1)) e o (vq (l.map Q4.v)++[r_13]) k0))))=k0 (vq (Cg X V e)):=by
         intro b hb
         rw [hpart,A1,Bn,QZ,A3 (by simp;omega),A3 (by simp;omega),Bco lA]
         unfold App;dsimp only
         rw [pab.1,Ml sa (hv _) (by omega) hn,A1,H4,A1,B1p,QK]
         by_cases k2:B9 x.1>1
         . rw [QG k2] at hpB ⊢
           have lB:x.2.2.1.toNat<l.length:=by omega
           rw [A3 (by simp;omega),A3 (by simp;omega),Bco lB,pab.2 k2,Ml sb (hv _) (by omega) hn,A1,sPl (Aj sa (hv _)) (Aj sb (hv _)) (by omega) hn,A1]
           have:=hfin _ hq.symm;rw [Bn,QZ] at this;exact this
         . rw [QI k2]
           have hb0:(By (λk=>(l.getD k (Q4.cst 0)).f) (λk=>(l.getD k (Q4.cst 0)).v) x).b=0:=by
            refine (Ame ?_).1
            have:x.1=7 \/ x.1=8:=by
             unfold B9 at k2 kA;split at k2
             . omega
             . rename_i q;have:=hp.1;omega
            rcases this with h7 | h8
            . simp [Et,h7]
            . simp [Et,h8]
           have:=hfin ((By (λk=>(l.getD k (Q4.cst 0)).f) (λk=>(l.getD k (Q4.cst 0)).v) x).a*(l.getD x.2.1.toNat (Q4.cst 0)).v) (by rw [hq,hb0];grind)
           rw [Bn,QZ] at this;exact this
        have key:=go _ rfl;rw [H4,A1];by_cases k3:3<=x.1/\x.1<=6
        . rw [QU k3,ZE,ZE];rw [H4] at key;rw [QU k3] at key;exact key
        . have h78:x.1=7 \/ x.1=8:=by have:=hp.1;omega
          rw [QQ k3,QR,Ky,A1,QU h78,ZE];rw [H4] at key;rw [QQ k3] at key;exact key
  . rw [QI (by omega),XS (by omega)];rfl

def Dh (e:List Nod) (o:Int) (x v:List Rt):Int:=if 4096<x.length \/ 4096<v.length then 2 else if G6 e o x ≠ 0 then G6 e o x else Qx x v

theorem B33 {n:Nat} {e:List Nod} {o:Int} {x v:List Rt} (hN:e.length<=1048576) (hn:1048577<=n):f48 n (e,o) x v=(bif (Dh e o x v != 0) then some ([],Dh e o x v) else ob (f63 n (e,o) x) λr_5=>some (r_5.1,r_5.2)):=by
 unfold f48
 rw [An3 (by simp) hn,A1,A92 hN hn,A1,B7u hn,A1,Oi (by simp) hn,A1,Bca]
 have:Kl [if decide (4096<x.length \/ 4096<v.length)=true then 2 else 0,G6 e o x,Qx x v]=Dh e o x v:=by
  unfold Dh Kl Kl Kl;by_cases h1:4096<x.length \/ 4096<v.length
  . simp [h1]
  . simp only [h1,decide_false,if_false,XR,if_true];by_cases h2:G6 e o x=0
    . simp only [h2,if_true,not_true_eq_false,ne_eq,if_false];unfold Kl;split <;> simp_all
    . simp [h2]
 rw [this]

theorem B6s {e:List Nod} {o:Int} {x v:List Rt} (h:Dh e o x v=0):G6 e o x=0/\F0 v=true/\v.length=x.length:=by
 unfold Dh Qx at h;split at h
 . omega
 . split at h
   . rename_i h2;exact absurd h h2
   . rename_i h2;split at h
     . split at h
       . exact ⟨by simpa using h2,‹_›,‹_›⟩
       . omega
     . omega

theorem B6w {α:Type} {n:Nat} {e:List Nod} {o:Int} {x v:List Rt} (hN:e.length<=1048576) (hn:1048577<=n) {k:Int->Option α} (hk:∀ c,c ≠ 0->k c=k c) :
  (bif (decide ((x.length:Int)>4096)) then k 2 else bif (decide ((v.length:Int)>4096)) then k 2 else ob (f44 n (e,o) x v) λr_1=>k r_1)=k (Dh e o x v):=by
 rw [QK,QK];by_cases h1:4096<x.length
 . have:Dh e o x v=2:=by unfold Dh;rw [QG (.inl h1)]
   rw [QG (by omega),this]
 . by_cases h2:4096<v.length
   . have:Dh e o x v=2:=by unfold Dh;rw [QG (.inr h2)]
     rw [QI (by omega),QG (by omega),this]
   . rw [QI (by omega),QI (by omega)]
     have hs:Dh e o x v=if G6 e o x ≠ 0 then G6 e o x else Qx x v:=by unfold Dh;rw [QI (by omega)]
     unfold f44
     rw [QK,QI (by omega),B7v hN hn,A1]
     by_cases h3:G6 e o x=0
     . rw [h3,XK,QR,B7p hn,A1,A1];have hv:=(A0t h3).2.1
       have hw:Apa [x,v]=Qx x v:=by
        unfold Apa Qx
        rw [Bca,QQ (by omega),QI (by simp)]
        have:([x,v].all F0)=F0 v:=by simp [hv]
        rw [this]
        cases h4:F0 v with
        | false=>rfl
        | true =>
         simp only [if_true];by_cases h5:v.length=x.length
         . rw [QG h5,QG (by simp [h5])]
         . rw [QI h5,QI (by simp;omega)]
       have hs:Dh e o x v=Qx x v:=by rw [hs,h3];rfl
       rw [hs,hw]
     . rw [show (G6 e o x != 0)=true by simpa using h3,ZE,A1,hs,QG h3]

theorem B7m {l:List Q4}:l.map fq=vq (l.map Q4.f):=by simp [vq,fq,Qav]

theorem Am3 {n:Nat} {e:List Nod} {o:Int} {x v:List Rt} (hN:e.length<=1048576) (hn:68719476736<=n) (hs:Dh e o x v=0) :
  ∃ X V:List Rat,x=vq X/\v=vq V/\1<=X.length/\X.length<=4/\o=(e.length:Int)-1/\1<=e.length/\((∃ c,c ≠ 0/\f63 n (e,o) x=some ([],c)/\f88 n (e,o) x=some ([],c)) \/
   (Ci X V e/\f63 n (e,o) x=some (vq ((evs (Ak X) (λ_=>0) (Ak V) e []).map Q4.f),0)/\f88 n (e,o) x=some (vq ((evs (Ak X) (λ_=>0) (Ak V) e []).map Q4.f),0))):=by
 obtain ⟨ha,hvv,hlen⟩:=B6s hs;obtain ⟨ht,hv,hd,hl⟩:=A0t ha;obtain ⟨X,rfl,hX,x1,x4⟩:=At9 hv;obtain ⟨V,rfl,hV,v1,v4⟩:=At9 hvv;rw [Bn] at hd hl;rw [Bn,Bn] at hlen;obtain ⟨hp,e1,e60,eo⟩:=B12 ht hd;refine ⟨X,V,rfl,rfl,x1,x4,eo,e1,?_⟩
 have h103:=A92 (n:=n) (e:=e) (o:=o) (l:=vq X) hN (by omega)
 rw [ha] at h103
 have h104:=B7d (n:=n) (X:=X) (V:=List.replicate X.length 0) hp e60 (by simp) hn
 have h93:=B0x (n:=n) (o:=o) hp e60 hX hn;rcases B11 (X:=X) (e:=e) with ⟨c,c1,c2,c0⟩ | ⟨L,M,c1,c2,c3,c4,c5⟩
 . left;rw [c1] at h93;rw [c2] at h104
   have hc:(c != 0)=true:=by simpa using c0
   refine ⟨c,c0,?_,h93⟩;unfold f63;rw [h103,A1,XK,QR,h104,A1];dsimp only;rw [hc,ZE]
 . right;have htv:=Ci.of hp e60 hlen hX hV c1;rw [c1] at h93;rw [c2] at h104
   have eL:L=evs (Ak X) (λ_=>0) (λ_=>0) e []:=(A0n e [] L (λk hk=>by simp at hk) c1).2
   have e52:f63 n (e,o) (vq X)=some (M.map fq,0):=by
    unfold f63;rw [h103,A1,XK,QR,h104,A1];dsimp only
    rw [XK,QR,QZ,Bb5 (by omega) c5 (by omega),A1]
   have same:L.map fq=vq ((evs (Ak X) (λ_=>0) (Ak V) e []).map Q4.f):=by
    rw [<- B7m]
    refine Aue (by rw [eL,Cp,Cp]) (λk=>?_)
    rw [eL];exact A5v _ _ _ _ _ e k
   exact ⟨htv,by rw [e52,<- c4,same],by rw [h93];show some (L.map fq,(0:Int))=_;rw [same]⟩

def rA (A:Nat) (g:Nat->Rat):List Rt:=(List.range A).map λi=>rq (g i)

theorem Az (A:Nat) (g:Nat->Rat):(rA A g).length=A:=by simp [rA]

theorem Cq {A i:Nat} {g:Nat->Rat} (h:i<A):(rA A g).getD i (false,[],[])=rq (g i):=by
 simp [rA,QH,h]

theorem Bc4 (i:Nat) (g:Nat->Rat):rA i g++[rq (g i)]=rA (i+1) g:=by simp [rA,List.range_succ]

theorem B1d {A:Nat} {g h:Nat->Rat} (e:∀ i,i<A->g i=h i):rA A g=rA A h:=by
 unfold rA
 exact ZF λi hi=>by rw [e i (YH.1 hi)]

theorem B74 (A:Nat):rA A (λ_=>0)=vq (List.replicate A 0):=by
 unfold rA vq;rw [List.map_replicate];apply Qbb
 . simp
 . intro i h1 h2;simp

theorem Bc5 {A k:Nat} {g:Nat->Rat} {y:Rat}:(rA A g).set k (rq y)=rA A (λi=>if k=i then y else g i):=by
 apply Qbb
 . simp [rA]
 . intro i h1 h2;simp only [rA,Qbf,QZ,Qat] at h1;rw [List.getElem_set];simp only [rA,List.getElem_map,List.getElem_range];by_cases e:k=i
   . rw [QG e,QG e]
   . rw [QI e,QI e]

theorem Bh3 {n A:Nat} (hA:A<=100) (hn:68719476736<=n):f64 n (A:Int)=some (rA A λ_=>0):=by
 have loop:∀ {α:Type} {k0:List Rt->Option α} (m i:Nat),i<=A->A<i+m->A6l n m (A:Int) (i:Int) (rA i λ_=>0) k0=k0 (rA A λ_=>0):=by
  intro α k0 m
  induction m with
  | zero=>intro i h1 h2;omega
  | succ m ih =>
   intro i h1 h2;rw [B2r];unfold A9m;rw [QK];by_cases h:i<A
   . rw [QG (by omega),iW0 hn,A1,A3 (by rw [Az];simp;omega),Ab (by omega) (by omega)]
     rw [show rA i (λ_=>0)++[rq 0]=rA (i+1) (λ_=>0) from Bc4 i _]
     exact ih (i+1) (by omega) (by omega)
   . obtain rfl:i=A:=by omega
     rw [QI (by omega)]
 unfold f64
 exact loop (k0:=λz_2=>some z_2) n 0 (by omega) (by omega)

theorem Auv {n A:Nat} (hA:A<=100) (hn:68719476736<=n):Mk n (A:Int)=some (rA A λ_=>0):=by
 rw [B21 (by omega) (by omega),B74]

structure Fam (R:Nat->Q4) (L:Nat):Prop where
 f:∀ i,(R i).f=(R 0).f
 v:∀ i,(R i).v=(R 0).v
 s:∀ i,SzQ (R i) L

theorem Fam.mono {R:Nat->Q4} {L K:Nat} (h:Fam R L) (hK:L<=K):Fam R K:=⟨h.f,h.v,λi=>(h.s i).mono hK⟩

def K4 (P:Int) (s:K8):Prop:=(∀ x ∈ s.1,0<=x/\x<=255)/\s.1.length<=1048577/\(0<=s.2.1/\s.2.1<=P)/\0<=s.2.2/\s.2.2<2147483648

theorem A3p {n:Nat} {P:Int} {s:K8} (h:K4 P s) (hP:P<=1099511627776):∃ b s',N4 n s=some (b,s')/\(0<=b/\b<=255)/\K4 (P+1) s':=by
 obtain ⟨l,p,d⟩:=s;obtain ⟨h1,h2,⟨h3,h4⟩,h5,h6⟩:=h;dsimp only at h1 h2 h3 h4 h5 h6;unfold N4;dsimp only
 rw [Ab (x:=p+1) (by omega) (by omega),Ab (x:=p+1-1) (by omega) (by omega),QK]
 have hb:=Ak7 h1 (p+1-1).toNat;by_cases hc:p+1<=(l.length:Int)
 . rw [QG hc,A3 (by simp;omega),A3 (by simp;omega)]
   generalize l.getD (p+1-1).toNat 0=b at *
   rw [Ab (x:=b) (by omega) (by omega),Ab (x:=d*31) (by omega) (by omega),Ab (x:=d*31+b) (by omega) (by omega),Ab (x:=d*31+b+7) (by omega) (by omega),G7 (by omega)]
   exact ⟨_,_,rfl,by omega,h1,h2,by dsimp only;omega,by dsimp only;omega,by dsimp only;omega⟩
 . rw [QI hc,QK];by_cases hc2:p+1>3000
   . rw [QG hc2]
     exact ⟨_,_,rfl,by omega,h1,h2,by dsimp only;omega,h5,h6⟩
   . rw [QI hc2,Ab (x:=d*1103515245) (by omega) (by omega),Ab (x:=d*1103515245+12345) (by omega) (by omega),G7 (x:=d*1103515245+12345) (by omega)]
     generalize hz:(d*1103515245+12345) % 2147483648=z
     have hz2:0<=z/\z<2147483648:=by omega
     rw [YP (a:=z) (by omega),Ab (x:=z / 65536) (by omega) (by omega),G7 (x:=z / 65536) (by omega)]
     exact ⟨_,_,rfl,by omega,h1,h2,by dsimp only;omega,by dsimp only;omega,by dsimp only;omega⟩

theorem Ajj {n:Nat} {P k:Int} {s:K8} (h:K4 P s) (hP:P<=1099511627000) (hk:1<k) (hk':k<=1048576):∃ v s',Dl n s k=some (v,s')/\(0<=v/\v<k)/\K4 (P+3) s':=by
 unfold Dl
 rw [QK,QI (by omega),QK]
 obtain ⟨b1,s1,e1,r1,o1⟩:=A3p (n:=n) h (by omega)
 rw [e1];by_cases hc:k<=256
 . rw [QG hc,A1,A3 (by simp;omega),G7 r1.1]
   have:=Qbk b1 (show k ≠ 0 by omega)
   have:=Qao b1 (show 0<k by omega)
   exact ⟨_,_,rfl,by omega,o1.1,o1.2.1,⟨o1.2.2.1.1,by have:=o1.2.2.1.2;show s1.2.1<=P+3;omega⟩,o1.2.2.2⟩
 . rw [QI hc,A1]
   obtain ⟨b2,s2,e2,r2,o2⟩:=A3p (n:=n) o1 (by omega)
   rw [e2,A1]
   obtain ⟨b3,s3,e3,r3,o3⟩:=A3p (n:=n) o2 (by omega)
   rw [e3,A1];dsimp only
   rw [A3 (by simp;omega),Ab (x:=b1*65536) (by omega) (by omega),Ab (x:=b2*256) (by omega) (by omega),Ab (x:=b1*65536+b2*256) (by omega) (by omega),Ab (x:=b1*65536+b2*256+b3) (by omega) (by omega),G7 (by omega)]
   have:=Qbk (b1*65536+b2*256+b3) (show k ≠ 0 by omega)
   have:=Qao (b1*65536+b2*256+b3) (show 0<k by omega)
   exact ⟨_,_,rfl,by omega,o3.1,o3.2.1,⟨o3.2.2.1.1,by have:=o3.2.2.1.2;show s3.2.1<=P+3;omega⟩,o3.2.2.2⟩

theorem B4n {n:Nat} {P:Int} {s:K8} (h:K4 P s) (hP:P<=1099511620000) (hn:1048577<=n):∃ (x:Rat) (s':K8),Qm n s=some (rq x,s')/\Bq x 10 9/\K4 (P+6) s':=by
 unfold Qm
 obtain ⟨a,s1,e1,r1,o1⟩:=Ajj (n:=n) (k:=21) h (by omega) (by omega) (by omega)
 rw [e1,A1]
 obtain ⟨b,s2,e2,r2,o2⟩:=Ajj (n:=n) (k:=6) o1 (by omega) (by omega) (by omega)
 rw [e2,A1];dsimp only
 rw [Ab (x:=a-10) (by omega) (by omega),Ab (x:=1+b) (by omega) (by omega)]
 obtain ⟨x,e3,z⟩:=Ann (n:=n) (a:=a-10) (b:=1+b) (by omega) (by omega) hn
 rw [e3,A1]
 exact ⟨x,s2,rfl,z,o2.1,o2.2.1,⟨o2.2.2.1.1,by have:=o2.2.2.1.2;show s2.2.1<=P+6;omega⟩,o2.2.2.2⟩

theorem Bgs {l:List Int} (h:∀ x ∈ l,0<=x/\x<=255) (hl:l.length<=1048577):K4 0 (l,0,Int.tmod (l.length:Int) 1000) :=
 ⟨h,hl,⟨Int.le_refl _,Int.le_refl _⟩,by rw [G7 (by omega)];dsimp only;omega,by rw [G7 (by omega)];dsimp only;omega⟩

theorem Abv {α:Type} {n k:Nat} (hk:k<=1000) (hn:1048577<=n) {k0:List Rt->List Int->Int->Int->Option α}:∀ (m i:Nat) (P:Int) (o:List Rat) (s:K8),K4 P s->P+6*(k-i:Nat)<=1099511620000->o.length=i->i<=k->k<i+m->Bv o 10 9 ->
  ∃ (x:List Rat) (s':K8),x.length=k/\Bv x 10 9/\K4 (P+6*(k-i:Nat)) s'/\Kn n m (k:Int) (i:Int) (vq o) s.1 s.2.1 s.2.2 k0=k0 (vq x) s'.1 s'.2.1 s'.2.2
 | 0,i,P,o,s,h1,h2,h3,h4,h5,h6=>by omega
 | m+1,i,P,o,s,h1,h2,h3,h4,h5,h6=>by
  rw [Abx];unfold Th;rw [QK];by_cases h:i<k
  . rw [QG (by omega)]
    obtain ⟨a,s1,e1,r1,o1⟩:=B4n (n:=n) h1 (by omega) hn
    have e1:Qm n (s.1,s.2.1,s.2.2)=_:=e1
    rw [e1,A1,A3 (by simp;omega),Ab (x:=(i:Int)+1) (by omega) (by omega)]
    dsimp only
    obtain ⟨x,s',q1,q2,q3,q4⟩:=Abv hk hn (k0:=k0) m (i+1) (P+6) (o++[a]) s1 o1 (by omega) (by simp;omega) (by omega) (by omega) (λc hc=>by
     rcases QE.1 hc with hc | hc
     . exact h6 c hc
     . rw [QS.1 hc];exact r1)
    refine ⟨x,s',q1,q2,?_,?_⟩
    . rw [show P+6*((k-i:Nat):Int)=P+6+6*((k-(i+1):Nat):Int) by omega];exact q3
    . rw [<- q4];simp [vq]
  . rw [QI (by omega)]
    exact ⟨o,s,by omega,h6,by rw [show ((k-i:Nat):Int)=0 by omega];simpa using h1,rfl⟩

theorem B83 {n k:Nat} {l:List Int} (h:∀ x ∈ l,0<=x/\x<=255) (hl:l.length<=1048577) (hk:k<=1000) (hn:1048577<=n):∃ x:List Rat,f21 n l (k:Int)=some (vq x)/\x.length=k/\Bv x 10 9:=by
 unfold f21 A9q;rw [A1];unfold Aqh
 obtain ⟨x,s',q1,q2,_,q4⟩:=Abv (k:=k) hk hn (k0:=λz_2 z_3 z_4 z_5=>some (z_2,(z_3,z_4,z_5))) n 0 0 [] _ (Bgs h hl) (by omega) rfl (by omega) (by omega) (λc hc=>by simp at hc)
 have q4:Kn n n (k:Int) 0 [] _ _ _ _=_:=q4;rw [q4,A1];exact ⟨x,rfl,q1,q2⟩

def Akr (e:List Nod):Prop:=∀ j,j<e.length->let x:=e.getD j (0,0,0,0);(1<=x.1/\x.1<=8)/\(3<=x.1/\x.1<=8->0<=x.2.1/\x.2.1<(j:Int))/\(3<=x.1/\x.1<=6->0<=x.2.2.1/\x.2.2.1<(j:Int))

theorem Aps {x:Nod} {j:Nat} (h:Ff x j):(1<=x.1/\x.1<=8)/\(3<=x.1/\x.1<=8->0<=x.2.1/\x.2.1<(j:Int))/\(3<=x.1/\x.1<=6->0<=x.2.2.1/\x.2.2.1<(j:Int)):=by
 unfold Ff at h;refine ⟨h.1,λh1=>?_,λh1=>?_⟩
 . split at h
   . omega
   . split at h
     . omega
     . omega
 . rw [QG h1] at h;omega

theorem Asp {e:List Nod} (hN:e.length<=1048576) (h:Asq e):Akr e:=by
 obtain ⟨_,bs,ds,hr,_,_⟩:=h
 obtain ⟨hi,hl,_,_⟩:=Afd e [] [] bs ds Bin (by simpa using hN) hr
 have hran:=Afc e [] [] bs ds (λj hj=>by simp at hj) rfl hr
 simp only [XD,YZ] at hl;intro j hj
 exact Aps (hran j (by omega)).1.1

def fi:List Nod->Nod->Nat->Int
 | [],_,_=>-1
 | y::r,x,k=>if y=x then (k:Int) else fi r x (k+1)

theorem Age:∀ (r:List Nod) (x:Nod) (k:Nat),fi r x k = -1 \/ ((k:Int)<=fi r x k/\fi r x k<(k:Int)+r.length)
 | [],x,k=>.inl rfl
 | y::r,x,k=>by
  unfold fi;by_cases h:y=x
  . rw [QG h];right;simp only [ZD];omega
  . rw [QI h];rcases Age r x (k+1) with h1 | h1
    . exact .inl h1
    . right;simp only [ZD];omega

theorem B78 {a x:Nod}:(a.1==x.1&&(a.2.1==x.2.1&&(a.2.2.1==x.2.2.1&&(a.2.2.2==x.2.2.2&&true))))=decide (a=x):=by
 obtain ⟨a1,a2,a3,a4⟩:=a;obtain ⟨b1,b2,b3,b4⟩:=x;apply Qbe.2;simp

theorem Auy {α:Type} {n:Nat} {st:List Nod} {x:Nod} (hN:st.length<=1048576) {k0:Int->Option α} {k1:Unit->Option α}:∀ (r:List Nod) (m k:Nat),st.drop k=r->k+r.length=st.length->r.length<m ->
  Ns n m st (k:Int) x.1 x.2.1 x.2.2.1 x.2.2.2 k0 k1=if fi r x k<0 then k1 () else k0 (fi r x k)
 | [],m+1,k,hd,hl,hm=>by
  rw [Ya];unfold P2;simp only [XD] at hl
  rw [QK,QI (by omega),QG (by simp [fi])]
 | y::r,m+1,k,hd,hl,hm=>by
  obtain ⟨hx,hlt,hd'⟩:=Kk (d:=(0,0,0,0)) hd;rw [Ya];unfold P2;simp only [ZD] at hl hm
  rw [QK,QG (by omega),A3 (by simp;omega),Ab (by omega) (by omega)]
  simp only [QO,hx,B78];rw [QK];by_cases h:y=x
  . rw [QG h,fi,QG h,QI (by omega)]
  . rw [QI h,fi,QI h]
    exact Auy hN r m (k+1) hd' (by omega) (by omega)

theorem Aa7 {n:Nat} {st:List Nod} {x:Nod} (hN:st.length<=1048576) (hn:1048577<=n):f183 n st x=some (fi st x 0):=by
 unfold f183
 have:=Auy (n:=n) (x:=x) hN (k0:=λz=>some z) (k1:=λ_=>some (-1)) st n 0 rfl (by omega) (by omega)
 have this:Ns n n st 0 x.1 x.2.1 x.2.2.1 x.2.2.2 (λz=>some z) (λ_=>some (-1))=_:=this;rw [this];rcases Age st x 0 with h | h
 . rw [h];rfl
 . rw [QI (by omega)]

def cx (at_:List Int) (x:Nod):Nod :=
 (x.1,if 3<=x.1/\x.1<=8 then at_.getD x.2.1.toNat 0 else x.2.1,if 3<=x.1/\x.1<=6 then at_.getD x.2.2.1.toNat 0 else x.2.2.1,x.2.2.2)

def cst (p:List Nod × List Int) (x:Nod):List Nod × List Int :=
 if fi p.1 (cx p.2 x) 0<0 then (p.1++[cx p.2 x],p.2++[(p.1.length:Int)]) else (p.1,p.2++[fi p.1 (cx p.2 x) 0])

theorem Al1 {α:Type} {n:Nat} {e:List Nod} (hN:e.length<=1048576) (hn:1048577<=n) (hk:Akr e) {p:List Nod × List Int} (hlt:p.2.length<e.length) (hp:p.1.length<=p.2.length) {c2 c3:Int} {f} {k0:Int->Int->List Nod->List Int->Option α} :
  Pi n (p.2.length:Int) e c2 c3 p.1 p.2 f k0=f ((p.2.length:Int)+1) e c2 c3 (cst p (e.getD p.2.length (0,0,0,0))).1 (cst p (e.getD p.2.length (0,0,0,0))).2:=by
 obtain ⟨st,at_⟩:=p;simp only at hlt hp ⊢;have h:=hk at_.length hlt;simp only at h;unfold Pi
 rw [QK,QG (by omega),A3 (by simp;omega)]
 simp only [QO];obtain ⟨x,hx⟩:∃ x,x=e.getD at_.length (0,0,0,0):=⟨_,rfl⟩;simp only [<- hx] at h ⊢;clear hx;obtain ⟨h1,h2,h3⟩:=h;rw [H4,A1,QK];by_cases t2:3<=x.1/\x.1<=6
 . have a2:=h2 (by omega)
   have a3:=h3 t2
   rw [QG t2,A3 (by simp;omega),A3 (by simp;omega),A3 (by simp;omega),A3 (by simp;omega),Ky,A1,QK,QI (by omega)]
   have e1:(x.1,at_.getD x.2.1.toNat 0,at_.getD x.2.2.1.toNat 0,x.2.2.2)=cx at_ x:=by
    unfold cx;rw [QG (by omega),QG t2]
   rw [e1,Aa7 (by omega) hn,A1,QK]
   unfold cst;by_cases hf:fi st (cx at_ x) 0<0
   . rw [QG hf,QG hf,A3 (by simp;omega),A3 (by simp;omega),Ab (by omega) (by omega)]
   . rw [QI hf,QI hf,A3 (by simp;omega),Ab (by omega) (by omega)]
 . rw [QI t2,Ky,A1,QK];by_cases t1:x.1=7 \/ x.1=8
   . have a2:=h2 (by omega)
     rw [QG t1,A3 (by simp;omega),A3 (by simp;omega)]
     have e1:(x.1,at_.getD x.2.1.toNat 0,x.2.2.1,x.2.2.2)=cx at_ x:=by
      unfold cx;rw [QG (by omega),QI t2]
     rw [e1,Aa7 (by omega) hn,A1,QK]
     unfold cst;by_cases hf:fi st (cx at_ x) 0<0
     . rw [QG hf,QG hf,A3 (by simp;omega),A3 (by simp;omega),Ab (by omega) (by omega)]
     . rw [QI hf,QI hf,A3 (by simp;omega),Ab (by omega) (by omega)]
   . rw [QI t1]
     have e1:(x.1,x.2.1,x.2.2.1,x.2.2.2)=cx at_ x:=by
      unfold cx;rw [QI (by omega),QI t2]
     rw [e1,Aa7 (by omega) hn,A1,QK]
     unfold cst;by_cases hf:fi st (cx at_ x) 0<0
     . rw [QG hf,QG hf,A3 (by simp;omega),A3 (by simp;omega),Ab (by omega) (by omega)]
     . rw [QI hf,QI hf,A3 (by simp;omega),Ab (by omega) (by omega)]

theorem Aav (p:List Nod × List Int) (x:Nod):(cst p x).2.length=p.2.length+1/\(cst p x).1.length<=p.1.length+1:=by
 unfold cst;split
 . simp
 . simp

theorem A5s {α:Type} {n:Nat} {e:List Nod} (hN:e.length<=1048576) (hn:1048577<=n) (hk:Akr e) {c2 c3:Int} {k0:Int->Int->List Nod->List Int->Option α}:∀ (r:List Nod) (m:Nat) (p:List Nod × List Int),e.drop p.2.length=r->p.2.length+r.length=e.length->p.1.length<=p.2.length->r.length<m ->
  A0f n m (p.2.length:Int) e c2 c3 p.1 p.2 k0=k0 c2 c3 (r.foldl cst p).1 (r.foldl cst p).2
 | [],m+1,p,hd,hl,hp,hm=>by
  rw [Acs];unfold Pi;simp only [XD] at hl
  rw [QK,QI (by omega)]
  rfl
 | x::r,m+1,p,hd,hl,hp,hm=>by
  obtain ⟨hx,hlt,hd'⟩:=Kk (d:=(0,0,0,0)) hd;rw [Acs,Al1 hN hn hk hlt hp,hx];simp only [ZD] at hl hm;obtain ⟨q1,q2⟩:=Aav p x
  have:=A5s (c2:=c2) (c3:=c3) hN hn hk r m (cst p x) (by rw [q1];exact hd') (by omega) (by omega) (by omega) (n:=n) (k0:=k0)
  rw [q1] at this;exact this

theorem Adi:∀ (r:List Nod) (p:List Nod × List Int),p.1.length<=p.2.length->(r.foldl cst p).2.length=p.2.length+r.length/\(r.foldl cst p).1.length<=(r.foldl cst p).2.length
 | [],p,hp=>⟨rfl,hp⟩
 | x::r,p,hp=>by
  obtain ⟨q1,q2⟩:=Aav p x
  have:=Adi r (cst p x) (by omega)
  simp only [List.foldl_cons,ZD];omega

abbrev Bgc (e:List Nod):List Nod:=(e.foldl cst ([],[])).1

abbrev Bba (e:List Nod):List Int:=(e.foldl cst ([],[])).2

theorem Bad {n:Nat} {e:List Nod} (hN:e.length<=1048576) (hn:1048577<=n) (h:Asq e):f137 n e=some (Bgc e,(Bba e).getD (e.length-1) 0):=by
 have h1:=h.1;unfold f137
 have:=A5s (c2:=0) (c3:=0) hN hn (Asp hN h) e n ([],[]) rfl (by simp) (by simp) (by omega) (n:=n) (k0:=λ(z_10:Int) (z_11:Int) (z_12:List Nod) (z_13:List Int)=>(
   gd (decide (0<=(W ((z_13.length:Int)-1)))&&decide ((W ((z_13.length:Int)-1))<(z_13.length:Int))) (
    gd (decide ((W ((z_13.length:Int)-1)).toNat<z_13.length)) (
     some (z_12,(z_13.getD ((W ((z_13.length:Int)-1)).toNat) 0))))))
 refine Eq.trans this ?_
 obtain ⟨l1,l2⟩:=Adi e ([],[]) (by simp)
 simp only [XD,YZ] at l1
 rw [l1,Ab (by omega) (by omega),A3 (by simp;omega),A3 (by simp;omega)]
 rw [show ((e.length:Int)-1).toNat=e.length-1 by omega]

abbrev d0:Nod:=(0,0,0,0)

theorem An2:∀ (r:List Nod) (x:Nod) (k:Nat),¬ fi r x k<0->∃ j,j<r.length/\fi r x k=(k:Int)+j/\r.getD j d0=x
 | [],x,k,h=>by simp [fi] at h
 | y::r,x,k,h=>by
  unfold fi at h ⊢;by_cases e:y=x
  . refine ⟨0,by simp,by rw [QG e];simp,by simpa using e⟩
  . rw [QI e] at h ⊢;obtain ⟨j,h1,h2,h3⟩:=An2 r x (k+1) h
    exact ⟨j+1,by simpa using h1,by rw [h2];push_cast;omega,by simpa using h3⟩

structure B57 (e:List Nod) (bs:List Int):Prop where
 hl:bs.length=e.length
 b:∀ j,j<bs.length->0<=bs.getD j 0/\bs.getD j 0<=j
 ran:Ran e bs

def sz (bs:List Int) (j:Nat):Int:=(j:Int)+1-bs.getD j 0

theorem Bbo {e:List Nod} {bs:List Int} (h:B57 e bs) {j:Nat} (hj:j<e.length) {x:Nod} (hx:e.getD j d0=x) :
  sz bs j=1+(if 3<=x.1/\x.1<=8 then sz bs x.2.1.toNat else 0)+(if 3<=x.1/\x.1<=6 then sz bs x.2.2.1.toNat else 0):=by
 obtain ⟨⟨h1,h2⟩,h3⟩:=h.ran j (by rw [h.hl];exact hj)
 have hx':e.getD j (0,0,0,0)=x:=hx;rw [hx'] at h1 h2 h3
 have tk:∀ a:Int,0<=a->a<=(j:Int)-1->(bs.take j).getD a.toNat 0=bs.getD a.toNat 0:=λa a0 a1=>by
  simp only [QH,XJ]
  rw [QG (by omega)]
 unfold Ff at h1;obtain ⟨h0,h1⟩:=h1;unfold nb at h3;unfold sz;by_cases t2:3<=x.1/\x.1<=6
 . rw [QG t2] at h1 ⊢
   rw [QG (by omega)] at h3 ⊢
   obtain ⟨g1,g2⟩:=h2 t2
   rw [tk _ (by omega) (by omega)] at g2 h3
   rw [h3,g2,g1];omega
 . rw [QI t2] at h1 ⊢;by_cases t1:x.1=7 \/ x.1=8
   . rw [QG t1] at h1
     rw [QG (by omega)] at h3 ⊢
     rw [tk _ (by omega) (by omega)] at h3
     rw [h3];omega
   . rw [QI (by omega)] at h3 ⊢
     rw [h3];omega

structure CI (bs:List Int) (p:List Nod × List Int) (σ:Nat->Int):Prop where
 a:∀ i,i<p.2.length->0<=p.2.getD i 0/\p.2.getD i 0<(p.1.length:Int)/\σ (p.2.getD i 0).toNat=sz bs i
 s:∀ k y,k<p.1.length->p.1.getD k d0=y->σ k=1+(if 3<=y.1/\y.1<=8 then σ y.2.1.toNat else 0)+(if 3<=y.1/\y.1<=6 then σ y.2.2.1.toNat else 0) /\
  (3<=y.1/\y.1<=8->0<=y.2.1/\y.2.1<(p.1.length:Int))/\(3<=y.1/\y.1<=6->0<=y.2.2.1/\y.2.2.1<(p.1.length:Int))
 t:∀ k,k<p.1.length->∃ i,i<p.2.length/\p.2.getD i 0=(k:Int)

theorem Bgb {e:List Nod} {bs:List Int} (h:B57 e bs) (hk:Akr e) {p:List Nod × List Int} {σ:Nat->Int} (hc:CI bs p σ) (hj:p.2.length<e.length) {x:Nod} (hx:e.getD p.2.length d0=x) :
  let y:=cx p.2 x
  1+(if 3<=y.1/\y.1<=8 then σ y.2.1.toNat else 0)+(if 3<=y.1/\y.1<=6 then σ y.2.2.1.toNat else 0)=sz bs p.2.length /\
   (3<=y.1/\y.1<=8->0<=y.2.1/\y.2.1<(p.1.length:Int))/\(3<=y.1/\y.1<=6->0<=y.2.2.1/\y.2.2.1<(p.1.length:Int)):=by
 intro y;obtain ⟨k1,k2,k3⟩:=hk p.2.length hj;have hx':e.getD p.2.length (0,0,0,0)=x:=hx;rw [hx'] at k1 k2 k3;have y1:y.1=x.1:=rfl;have r:=Bbo h hj hx;rw [y1,r]
 have A:3<=x.1/\x.1<=8->y.2.1=p.2.getD x.2.1.toNat 0:=λt=>by show (if _ then _ else _)=_;rw [QG t]
 have B:3<=x.1/\x.1<=6->y.2.2.1=p.2.getD x.2.2.1.toNat 0:=λt=>by show (if _ then _ else _)=_;rw [QG t]
 refine ⟨?_,λt=>?_,λt=>?_⟩
 . by_cases t1:3<=x.1/\x.1<=8
   . obtain ⟨q1,q2⟩:=k2 t1
     obtain ⟨_,_,e1⟩:=hc.a x.2.1.toNat (by omega)
     rw [QG t1,QG t1,A t1,e1];by_cases t2:3<=x.1/\x.1<=6
     . obtain ⟨q3,q4⟩:=k3 t2
       obtain ⟨_,_,e2⟩:=hc.a x.2.2.1.toNat (by omega)
       rw [QG t2,QG t2,B t2,e2]
     . rw [QI t2,QI t2]
   . rw [QI t1,QI t1,QI (by omega),QI (by omega)]
 . obtain ⟨q1,q2⟩:=k2 t
   obtain ⟨e1,e2,_⟩:=hc.a x.2.1.toNat (by omega)
   rw [A t];exact ⟨e1,e2⟩
 . obtain ⟨q1,q2⟩:=k3 t
   obtain ⟨e1,e2,_⟩:=hc.a x.2.2.1.toNat (by omega)
   rw [B t];exact ⟨e1,e2⟩

theorem CI.step {e:List Nod} {bs:List Int} (h:B57 e bs) (hk:Akr e) {p:List Nod × List Int} {σ:Nat->Int} (hc:CI bs p σ) (hj:p.2.length<e.length) {x:Nod} (hx:e.getD p.2.length d0=x):∃ σ',CI bs (cst p x) σ':=by
 obtain ⟨v1,v2,v3⟩:=Bgb h hk hc hj hx;obtain ⟨st,at_⟩:=p;simp only at hj hx v1 v2 v3;unfold cst;by_cases hf:fi st (cx at_ x) 0<0
 . simp only [QG hf]
   let σ':Nat->Int:=λk=>if k=st.length then sz bs at_.length else σ k
   have old:∀ a:Int,0<=a->a<(st.length:Int)->σ' a.toNat=σ a.toNat:=λa a0 a1=>by show (if _ then _ else _)=_;rw [QI (by omega)]
   refine ⟨σ',λi hi=>?_,λk y hk' hy=>?_,λk hk'=>?_⟩
   . simp only [ZL,ZD,XD] at hi ⊢;rcases ZW i at_.length with hi' | hi'
     . rw [B5 hi'];obtain ⟨a1,a2,a3⟩:=hc.a i hi';simp only at a1 a2 a3
       exact ⟨a1,by omega,by rw [old _ a1 a2];exact a3⟩
     . obtain rfl:i=at_.length:=by omega
       rw [Bl]
       refine ⟨by omega,by omega,?_⟩
       show (if _ then _ else _)=_
       rw [QG (by omega)]
   . simp only [ZL,ZD,XD] at hk' ⊢;rcases ZW k st.length with hk2 | hk2
     . rw [B5 hk2] at hy;obtain ⟨s1,s2,s3⟩:=hc.s k y hk2 hy;simp only at s1 s2 s3
       refine ⟨?_,λt=>by have:=s2 t;omega,λt=>by have:=s3 t;omega⟩
       have:σ' k=σ k:=by show (if _ then _ else _)=_;rw [QI (by omega)]
       rw [this,s1];by_cases t1:3<=y.1/\y.1<=8
       . rw [QG t1,QG t1,old _ (s2 t1).1 (s2 t1).2];by_cases t2:3<=y.1/\y.1<=6
         . rw [QG t2,QG t2,old _ (s3 t2).1 (s3 t2).2]
         . rw [QI t2,QI t2]
       . rw [QI t1,QI t1,QI (by omega),QI (by omega)]
     . obtain rfl:k=st.length:=by omega
       rw [Bl] at hy;subst hy
       refine ⟨?_,λt=>by have:=v2 t;omega,λt=>by have:=v3 t;omega⟩
       have:σ' st.length=sz bs at_.length:=by show (if _ then _ else _)=_;rw [QG rfl]
       rw [this,<- v1];by_cases t1:3<=(cx at_ x).1/\(cx at_ x).1<=8
       . rw [QG t1,QG t1,old _ (v2 t1).1 (v2 t1).2];by_cases t2:3<=(cx at_ x).1/\(cx at_ x).1<=6
         . rw [QG t2,QG t2,old _ (v3 t2).1 (v3 t2).2]
         . rw [QI t2,QI t2]
       . rw [QI t1,QI t1,QI (by omega),QI (by omega)]
   . simp only [ZL,ZD,XD] at hk' ⊢;rcases ZW k st.length with hk2 | hk2
     . obtain ⟨i,i1,i2⟩:=hc.t k hk2;simp only at i1 i2
       exact ⟨i,by omega,by rw [B5 i1];exact i2⟩
     . obtain rfl:k=st.length:=by omega
       exact ⟨at_.length,by omega,by rw [Bl]⟩
 . simp only [QI hf];obtain ⟨k,k1,k2,k3⟩:=An2 _ _ _ hf;obtain ⟨s1,_,_⟩:=hc.s k _ k1 k3;refine ⟨σ,λi hi=>?_,λk y hk' hy=>hc.s k y hk' hy,λk hk'=>?_⟩
   . simp only [ZL,ZD,XD] at hi ⊢;rcases ZW i at_.length with hi' | hi'
     . rw [B5 hi'];exact hc.a i hi'
     . obtain rfl:i=at_.length:=by omega
       rw [Bl,k2]
       refine ⟨by omega,by omega,?_⟩
       rw [show (((0:Nat):Int)+(k:Int)).toNat=k by omega,s1]
       exact v1
   . simp only [ZL,ZD,XD] at hk' ⊢;obtain ⟨i,i1,i2⟩:=hc.t k hk';simp only at i1 i2
     exact ⟨i,by omega,by rw [B5 i1];exact i2⟩

inductive Do (dim:Int):Nat->Nat->List Nod->Prop
 | num (r k:Nat) (c:Int) (h:0<=c/\c<=5):Do dim (r+1) k [(1,0,0,c)]
 | var (r k:Nat) (v:Int) (h:0<=v/\v<dim):Do dim (r+1) k [(2,0,0,v)]
 | neg (r k:Nat) (t:List Nod) (h:Do dim r k t):Do dim (r+1) k (t++[(7,((k+t.length:Nat):Int)-1,0,0)])
 | pow (r k:Nat) (t:List Nod) (p:Int) (hp:0<=p/\p<=3) (h:Do dim (min r 2) k t):Do dim (r+1) k (t++[(8,((k+t.length:Nat):Int)-1,0,p)])
 | bin (r k:Nat) (t u:List Nod) (op:Int) (ho:3<=op/\op<=6) (h1:Do dim r k t) (h2:Do dim r (k+t.length) u) :
   Do dim (r+1) k (t++u++[(op,((k+t.length:Nat):Int)-1,((k+t.length+u.length:Nat):Int)-1,0)])

theorem Do.pos {dim:Int} {r k:Nat} {t:List Nod} (h:Do dim r k t):0<t.length:=by cases h <;> simp <;> omega

theorem Do.len {dim:Int} {r k:Nat} {t:List Nod} (h:Do dim r k t):t.length+1<=2 ^ r:=by
 induction h with
 | num r k c h=>have:=Qap (n:=r);simp [YG];omega
 | var r k c h=>have:=Qap (n:=r);simp [YG];omega
 | neg r k t h ih=>simp [YG];have:=h.pos;omega
 | pow r k t p hp h ih =>
  have:=XY (n:=2) (by omega) (show min r 2<=r by omega)
  have:=h.pos;simp [YG];omega
 | bin r k t u op ho h1 h2 ih1 ih2=>simp [YG];omega

theorem O7:∀ (t u:List Nod) (bs ds bs' ds':List Int),Ge bs ds t=some (bs',ds')->Ge bs ds (t++u)=Ge bs' ds' u
 | [],u,bs,ds,bs',ds',h=>by
  simp only [Ge,QC,QL] at h;obtain ⟨rfl,rfl⟩:=h;rfl
 | x::t,u,bs,ds,bs',ds',h=>by
  simp only [Ge,YA] at h ⊢;split at h
  . rename_i hx;rw [QG hx];exact O7 t u _ _ _ _ h
  . cases h

theorem O6 {bs ds:List Int} {x:Nod} (h:okP bs x bs.length):Ge bs ds [x]=some (bs++[nb bs x bs.length],ds++[nd ds x]):=by
 simp only [Ge,QG h]

theorem Iu {l m:List Int} {k j:Nat} (h:l.length=k):(l++m).getD (k+j) 0=m.getD j 0:=by
 subst h;simp only [List.getD]
 rw [ZC (by omega),JK]

theorem Q8 {l:List Int} {j:Nat} (h:j<l.length):l.getD j 0 ∈ l:=by
 simp [List.getD,QM h]

theorem Ek {k m:Nat} (h:0<m):(((k+m:Nat):Int)-1).toNat=k+(m-1):=by omega

theorem Do.run {dim:Int} (hdim:dim<=4) {r k:Nat} {t:List Nod} (h:Do dim r k t):∀ (bs ds:List Int),bs.length=k->ds.length=k ->
  ∃ bs' ds',Ge bs ds t=some (bs++bs',ds++ds')/\bs'.length=t.length/\ds'.length=t.length/\bs'.getD (t.length-1) 0=k /\ ∀ x ∈ ds',x<=r:=by
 induction h with
 | num r k c h =>
  intro bs ds hb hd
  refine ⟨[(k:Int)],[1],?_,rfl,rfl,rfl,by simp;omega⟩
  rw [O6 ⟨by unfold Ff;simp;omega,by simp⟩]
  simp [nb,nd,hb]
 | var r k v h =>
  intro bs ds hb hd
  refine ⟨[(k:Int)],[1],?_,rfl,rfl,rfl,by simp;omega⟩
  rw [O6 ⟨by unfold Ff;simp;omega,by simp⟩]
  simp [nb,nd,hb]
 | neg r k t h ih =>
  intro bs ds hb hd;obtain ⟨b',d',h1,h2,h3,h4,h5⟩:=ih bs ds hb hd;have hp:=h.pos
  have hlen:(bs++b').length=k+t.length:=by simp [hb,h2]
  rw [O7 t _ bs ds _ _ h1,O6 ⟨by rw [hlen];unfold Ff;simp;omega,by simp⟩]
  refine ⟨b'++[nb (bs++b') (7,((k+t.length:Nat):Int)-1,0,0) (bs++b').length],d'++[nd (ds++d') (7,((k+t.length:Nat):Int)-1,0,0)],by simp,by simp [h2],by simp [h3],?_,?_⟩
  . have e:(t++[((7:Int),((k+t.length:Nat):Int)-1,(0:Int),(0:Int))]).length-1=b'.length:=by simp [h2]
    rw [e,Bl];simp only [nb]
    rw [QG (by omega),Ek hp,Iu hb,h4]
  . intro x hx;rcases QE.1 hx with hx | hx
    . have:=h5 x hx;omega
    . simp only [QS] at hx;rw [hx];simp only [nd]
      rw [QI (by omega),QG (by simp),Ek hp,Iu hd]
      have:d'.getD (t.length-1) 0<=r:=by
       exact h5 _ (Q8 (by omega))
      omega
 | pow r k t p hp0 h ih =>
  intro bs ds hb hd;obtain ⟨b',d',h1,h2,h3,h4,h5⟩:=ih bs ds hb hd;have hp:=h.pos
  have hlen:(bs++b').length=k+t.length:=by simp [hb,h2]
  rw [O7 t _ bs ds _ _ h1,O6 ⟨by rw [hlen];unfold Ff;simp;omega,by simp⟩]
  refine ⟨b'++[nb (bs++b') (8,((k+t.length:Nat):Int)-1,0,p) (bs++b').length],d'++[nd (ds++d') (8,((k+t.length:Nat):Int)-1,0,p)],by simp,by simp [h2],by simp [h3],?_,?_⟩
  . have e:(t++[((8:Int),((k+t.length:Nat):Int)-1,(0:Int),p)]).length-1=b'.length:=by simp [h2]
    rw [e,Bl];simp only [nb]
    rw [QG (by omega),Ek hp,Iu hb,h4]
  . intro x hx;rcases QE.1 hx with hx | hx
    . have:=h5 x hx;omega
    . simp only [QS] at hx;rw [hx];simp only [nd]
      rw [QI (by omega),QG (by simp),Ek hp,Iu hd]
      have:d'.getD (t.length-1) 0<=((min r 2:Nat):Int):=by
       exact h5 _ (Q8 (by omega))
      omega
 | bin r k t u op ho h1 h2 ih1 ih2 =>
  intro bs ds hb hd;obtain ⟨b1,d1,a1,a2,a3,a4,a5⟩:=ih1 bs ds hb hd;have hp1:=h1.pos;have hp2:=h2.pos
  obtain ⟨b2,d2,c1,c2,c3,c4,c5⟩:=ih2 (bs++b1) (ds++d1) (by simp [hb,a2]) (by simp [hd,a3])
  have hlen:(bs++b1++b2).length=k+t.length+u.length:=by simp [hb,a2,c2];omega
  have eB:(bs++b1++b2).getD (((k+t.length+u.length:Nat):Int)-1).toNat 0=((k+t.length:Nat):Int):=by
   rw [Ek hp2,Iu (by simp [hb,a2]),c4]
  have eA:(bs++b1++b2).getD (((k+t.length:Nat):Int)-1).toNat 0=(k:Int):=by
   rw [Ek hp1,ZO,Iu hb,B5 (by omega),a4]
  have hrun:Ge bs ds (t++u)=some (bs++b1++b2,ds++d1++d2):=by rw [O7 t u bs ds _ _ a1,c1]
  rw [O7 (t++u) _ bs ds _ _ hrun,O6 ⟨by rw [hlen];unfold Ff;rw [QG (show 3<=op/\op<=6 from ho)];simp;omega,λ_=>⟨by rw [hlen],by
   show (bs++b1++b2).getD (((k+t.length+u.length:Nat):Int)-1).toNat 0=(((k+t.length:Nat):Int)-1)+1
   rw [eB];omega⟩⟩]
  refine ⟨b1++b2++[nb (bs++b1++b2) (op,((k+t.length:Nat):Int)-1,((k+t.length+u.length:Nat):Int)-1,0) (bs++b1++b2).length],d1++d2++[nd (ds++d1++d2) (op,((k+t.length:Nat):Int)-1,((k+t.length+u.length:Nat):Int)-1,0)],by simp [ZO],by simp [a2,c2],by simp [a3,c3],?_,?_⟩
  . have e:(t++u++[(op,((k+t.length:Nat):Int)-1,((k+t.length+u.length:Nat):Int)-1,(0:Int))]).length-1=(b1++b2).length:=by simp [a2,c2]
    rw [e,Bl];simp only [nb]
    rw [QG (by omega),eA]
  . intro x hx;rcases QE.1 hx with hx | hx
    . rcases QE.1 hx with hx | hx
      . have:=a5 x hx;omega
      . have:=c5 x hx;omega
    . simp only [QS] at hx;rw [hx];simp only [nd]
      rw [QG (by omega),Ek hp1,Ek hp2]
      have g1:(ds++d1++d2).getD (k+(t.length-1)) 0<=r:=by
       rw [ZO,Iu hd,B5 (by omega)]
       exact a5 _ (Q8 (by omega))
      have g2:(ds++d1++d2).getD (k+t.length+(u.length-1)) 0<=r:=by
       rw [Iu (by simp [hd,a3])]
       exact c5 _ (Q8 (by omega))
      omega

theorem Do.expr {dim:Int} (hdim:dim<=4) {r:Nat} {t:List Nod} (h:Do dim r 0 t) (hr:r<=5):Asq t:=by
 obtain ⟨bs,ds,h1,h2,h3,h4,h5⟩:=h.run hdim [] [] rfl rfl;have:=h.pos;have h6:=h.len
 have:=XY (n:=2) (by omega) hr
 exact ⟨by omega,bs,ds,by simpa using h1,by simpa using h4,λx hx=>by have:=h5 x hx;omega⟩

theorem Dm.up {P Q:Int} {s:K8} (h:Dm P s) (hq:P<=Q):Dm Q s:=⟨h.1,h.2.1,⟨h.2.2.1.1,Int.le_trans h.2.2.1.2 hq⟩,h.2.2.2⟩

theorem Ik {n:Nat} {P k:Int} {s:K8} (h:Dm P s) (hP:P<=1099511627000) (hk:1<=k) (hk':k<=1048576):∃ v s',Dl n s k=some (v,s')/\(0<=v/\v<k)/\Dm (P+3) s':=by
 by_cases h1:k=1
 . subst h1
   exact ⟨0,s,by unfold Dl;rfl,by omega,h.up (by omega)⟩
 . exact A0l h hP (by omega) hk'

theorem Bc6 {v:Int} (h:0<=v/\v<6):3<=[(3:Int),3,4,5,5,6].getD v.toNat 0/\[(3:Int),3,4,5,5,6].getD v.toNat 0<=6:=by
 obtain ⟨h0,h1⟩:=h
 have:v=0 \/ v=1 \/ v=2 \/ v=3 \/ v=4 \/ v=5:=by omega
 rcases this with rfl | rfl | rfl | rfl | rfl | rfl <;> decide

theorem Sg {n:Nat} {dim:Int} (hdim:1<=dim/\dim<=4) {dv:Bool}:∀ (d r:Nat) {P:Int} {s:K8} {nodes:List Nod},1<=r->r<=d->r<=5->Dm P s->P+12*4 ^ r<=1000000000->nodes.length+2 ^ r<=1000000 ->
  ∃ s' t,Qn n d s nodes (r:Int) dim dv=some ((),s',nodes++t)/\Do dim r nodes.length t/\Dm (P+12*4 ^ r) s'
 | 0,r,P,s,nodes,h1,h2,_,_,_,_=>by omega
 | d+1,r,P,s,nodes,h1,h2,h5,hs,hP,hN=>by
  have h4:(4:Int) ^ r>=4:=by
   obtain ⟨q,rfl⟩:∃ q,r=q+1:=⟨r-1,by omega⟩
   have:(1:Int)<=4 ^ q:=Int.pow_pos (by omega)
   rw [Qal];omega
  have h22:1<=2 ^ r:=Qap
  obtain ⟨k0,s1,e1,hk,hs1⟩:=Ik (n:=n) (k:=9) hs (by omega) (by omega) (by omega)
  rw [Qn,e1,A1];dsimp only
  have leaf:∃ s' t,(ob (A76 n s1 3) λr_3 =>
    bif r_3.1 then
     ob (Dl n r_3.2 6) λr_4 =>
     gd (decide ((nodes.length+1)*32<=140737488355328)) (
      some ((),r_4.2,(nodes++[(1,0,0,r_4.1)])))
    else
     ob (Dl n r_3.2 dim) λr_5 =>
     gd (decide ((nodes.length+1)*32<=140737488355328)) (
      some ((),r_5.2,(nodes++[(2,0,0,r_5.1)]))))=some ((),s',nodes++t)/\Do dim r nodes.length t/\Dm (P+12*4 ^ r) s':=by
   obtain ⟨q,rfl⟩:∃ q,r=q+1:=⟨r-1,by omega⟩
   obtain ⟨b,s2,e2,hs2⟩:=B93 (n:=n) (k:=3) hs1 (by omega) (by omega) (by omega)
   rw [e2,A1]
   cases b with
   | true =>
    obtain ⟨c,s3,e3,hc,hs3⟩:=Ik (n:=n) (k:=6) hs2 (by omega) (by omega) (by omega)
    simp only [ZE]
    rw [e3,A1,A3 (by rw [QN];omega)]
    exact ⟨s3,_,rfl,.num q _ c (by omega),hs3.up (by omega)⟩
   | false =>
    obtain ⟨c,s3,e3,hc,hs3⟩:=Ik (n:=n) (k:=dim) hs2 (by omega) (by omega) (by omega)
    simp only [QR]
    rw [e3,A1,A3 (by rw [QN];omega)]
    exact ⟨s3,_,rfl,.var q _ c (by omega),hs3.up (by omega)⟩
  by_cases hr:(r:Int)<=1
  . rw [QU hr];exact leaf
  rw [QQ hr];by_cases hl:((nodes.length:Int)>30)
  . rw [QU hl];exact leaf
  rw [QQ hl];by_cases h3:k0<3
  . rw [QU h3];exact leaf
  rw [QQ h3];simp only [QR]
  obtain ⟨q,rfl⟩:∃ q,r=q+1:=⟨r-1,by omega⟩
  have hq1:1<=q:=by omega
  have e4:(4:Int) ^ (q+1)=4*4 ^ q:=by rw [Qal];omega
  have e2:2 ^ (q+1)=2*2 ^ q:=by rw [YG];omega
  have h4q:(4:Int) ^ q>=4:=by
   obtain ⟨q',rfl⟩:∃ q',q=q'+1:=⟨q-1,by omega⟩
   have:(1:Int)<=4 ^ q':=Int.pow_pos (by omega)
   rw [Qal];omega
  have w1:W (((q+1:Nat):Int)-1)=(q:Int):=by rw [Ab (by omega) (by omega)];omega
  rw [w1]
  have wl:∀ m:Nat,m<=1000000->W ((m:Int)-1)=(m:Int)-1:=λm hm=>Ab (by omega) (by omega)
  by_cases h7:k0=3
  . subst h7;simp only [beq_self_eq_true,ZE]
    obtain ⟨s2,t,e3,ht,hs2⟩:=Sg hdim d q (n:=n) (dv:=dv) (nodes:=nodes) hq1 (by omega) (by omega) hs1 (by omega) (by omega)
    have hlt:=ht.len
    rw [e3,A1,A3 (by rw [QN];simp only [ZL];omega),ZO,wl _ (by rw [ZL];omega),ZL]
    exact ⟨s2,_,rfl,.neg q _ t ht,hs2.up (by omega)⟩
  . rw [beq_eq_false_iff_ne.2 h7];simp only [QR];by_cases h8:k0=4
    . subst h8;simp only [beq_self_eq_true,ZE]
      have em:min (q:Int) 2=((min q 2:Nat):Int):=by omega
      have hm:=XY (n:=2) (by omega) (show min q 2<=q by omega)
      have hm4:(4:Int) ^ (min q 2)<=4 ^ q:=by
       have:=XY (n:=4) (by omega) (show min q 2<=q by omega)
       exact_mod_cast this
      obtain ⟨s2,t,e3,ht,hs2⟩:=Sg hdim d (min q 2) (n:=n) (dv:=dv) (nodes:=nodes) (by omega) (by omega) (by omega) hs1 (by omega) (by omega)
      have hlt:=ht.len
      obtain ⟨c,s3,e5,hc,hs3⟩:=Ik (n:=n) (k:=4) hs2 (by omega) (by omega) (by omega)
      rw [em,e3,A1,e5,A1,A3 (by rw [QN];simp only [ZL];omega),ZO,wl _ (by rw [ZL];omega),ZL]
      exact ⟨s3,_,rfl,.pow q _ t c (by omega) ht,hs3.up (by omega)⟩
    . rw [beq_eq_false_iff_ne.2 h8];simp only [QR];rw [Kw,A1]
      obtain ⟨v,s2,e3,hv,hs2⟩:=Ik (n:=n) (k:=W (5+(if dv=true then 1 else 0))) hs1 (by omega) (by rw [Ab (by split <;> omega) (by split <;> omega)];split <;> omega) (by rw [Ab (by split <;> omega) (by split <;> omega)];split <;> omega)
      have hv6:0<=v/\v<6:=by
       rw [Ab (by split <;> omega) (by split <;> omega)] at hv
       refine ⟨hv.1,?_⟩;have:=hv.2;split at this <;> omega
      rw [e3,A1,A3 (by simp [hv6]),A3 (by rw [QN];omega)]
      obtain ⟨s3,t,e5,ht,hs3⟩:=Sg hdim d q (n:=n) (dv:=dv) (nodes:=nodes) hq1 (by omega) (by omega) hs2 (by omega) (by omega)
      have hlt:=ht.len;rw [e5,A1]
      obtain ⟨s4,u,e6,hu,hs4⟩:=Sg hdim d q (n:=n) (dv:=dv) (nodes:=nodes++t) hq1 (by omega) (by omega) hs3 (by omega) (by rw [ZL];omega)
      have hlu:=hu.len
      rw [e6,A1,A3 (by rw [QN];simp only [ZL];omega),wl _ (by rw [ZL];omega),wl _ (by simp only [ZL];omega)]
      refine ⟨s4,t++u++[([(3:Int),3,4,5,5,6].getD v.toNat 0,((nodes.length+t.length:Nat):Int)-1,((nodes.length+t.length+u.length:Nat):Int)-1,0)],?_,.bin q _ t u _ (Bc6 hv6) ht (by rw [<- ZL];exact hu),hs4.up (by omega)⟩
      simp only [ZL,ZO,Qaz]

theorem B5i (A:Nat) (g:Nat->Rat):rA A g=vq ((List.range A).map g):=by simp [rA,vq]

theorem Wt {A k:Nat} {g:Nat->Rat} {y:Rat}:(rA A g).set k (rq y)=rA A (Dw g k y):=by
 rw [Bc5];refine B1d λi _=>?_;unfold Dw;by_cases h:k=i
 . rw [QG h,QG h.symm]
 . rw [QI h,QI λe=>h e.symm]

structure Ss (s:Sw) (L:Nat):Prop where
 bar:∀ j,Sz (s.bar j) L
 dot:∀ j,Sz (s.dot j) L
 grad:∀ j,Sz (s.grad j) L
 curve:∀ j,Sz (s.curve j) L

theorem Ss.mono {s:Sw} {L K:Nat} (h:Ss s L) (hK:L<=K):Ss s K:=⟨λj=>(h.bar j).mono hK,λj=>(h.dot j).mono hK,λj=>(h.grad j).mono hK,λj=>(h.curve j).mono hK⟩

theorem Z5 {g:Nat->Rat} {k L K:Nat} {y:Rat} (h:∀ j,Sz (g j) L) (hy:Sz y K) (hK:L<=K) (j:Nat):Sz (Dw g k y j) K:=by
 unfold Dw;split
 . exact hy
 . exact (h j).mono hK

theorem Ss.put {s:Sw} {L C k:Nat} {on to:Rat} (h:Ss s L) (h1:Sz on C) (h2:Sz to C):Ss (Dg s k on to) (L+C+1) :=
 ⟨Z5 h.bar (G3 (h.bar k) h1) (by omega),Z5 h.dot (G3 (h.dot k) h2) (by omega),λj=>(h.grad j).mono (by omega),λj=>(h.curve j).mono (by omega)⟩

theorem Li {n N L C A:Nat} {s:Sw} {on to:Rat} {F D:List Rt} (hs:Ss s L) (h1:Sz on C) (h2:Sz to C) (hL:L+C<=1000000000) (hA:A<N) (hn:68719476736<=n) :
  H2 n (F,D,rA N s.bar,rA N s.dot) (A:Int) (rq on) (rq to)=some ((),(F,D,()),rA N (Dg s A on to).bar,rA N (Dg s A on to).dot):=by
 have g:(decide (0<=(A:Int))&&decide ((A:Int)<((N:Nat):Int)))=true:=by simp;omega
 unfold H2;dsimp only
 rw [Az,Az,A3 g,QO,A3 (by simp;omega),Cq hA,Xe (hs.bar A) h1 hL hn,A1,A3 g,A3 (by simp;omega),Cq hA,Xe (hs.dot A) h2 hL hn,A1,A3 g,A3 (by simp;omega),A3 g,A3 (by simp;omega),Wt,Wt]
 rfl

theorem Og {n L K M P:Nat} {a da f df:Rat} (h1:Sz a L) (h2:Sz da K) (h3:Sz f M) (h4:Sz df P) (hL:L+K+M+P<=100000000) (hn:68719476736<=n):f159 n (rq a) (rq da) (rq f) (rq df)=some (rq (a*f),rq (da*f+a*df)):=by
 unfold f159
 rw [De h1 h3 (by omega) hn,A1,De h2 h3 (by omega) hn,A1,De h1 h4 (by omega) hn,A1,Xe (Aj h2 h3) (Aj h1 h4) (by omega) hn,A1]

theorem Auu {n N k:Nat} {f d:Nat->Rat} {B T:List Rt} (hf:Sz (f k) 40) (hd:Sz (d k) 48061) (h0:f k ≠ 0) (hk:k<N) (hn:68719476736<=n) :
  Aei n (rA N f,rA N d,B,T) (k:Int)=some ((rq (1 / f k),rq (-(1 / f k*(1 / f k)*d k))),(rA N f,rA N d,()),B,T):=by
 have g:(decide (0<=(k:Int))&&decide ((k:Int)<((N:Nat):Int)))=true:=by simp;omega
 have hi:=A8c hf h0;unfold Aei;dsimp only
 rw [iW1 hn,A1,Az,Az,A3 g,QO,Cq hk,iOv (Pw (L:=1) (by omega)) hf h0 (by omega) hn,A1,De hi hi (by omega) hn,A1,A3 g,Cq hk,De (Aj hi hi) hd (by omega) hn,A1,iNg (Aj (Aj hi hi) hd) (by omega),A1]

theorem Aup {n L k:Nat} {f:Rat} {v:Rat} (hf:Sz f L) (hL:L<=1000) (hk:k<=8) (hn:68719476736<=n):A7l n (rq f,(),(),rq v) (k:Int)=some (rq (Q4.d1 f k),rq (Q4.d2 f k)):=by
 unfold A7l;rw [iW0 hn,A1,A1];dsimp only
 match k with
 | 0=>rfl
 | 1 =>
  rw [show decide (((1:Nat):Int)>=1)=true from rfl,ZE,show W (((1:Nat):Int)-1)=((0:Nat):Int) from rfl,Kj hf (by omega) (by omega) hn,A1,iW (by omega) hn,A1,De (Dy hf 0) (Bo (a:=((1:Nat):Int)) (by omega)) (by omega) hn,A1]
  rfl
 | k+2 =>
  have h2:(k+2)*(k+1)<=8*8:=XF (by omega) (by omega)
  have l1:L*(k+1)<=L*8:=XL _ (by omega)
  have l2:L*k<=L*8:=XL _ (by omega)
  rw [QK,QG (by omega),Ab (x:=((k+2:Nat):Int)-1) (by omega) (by omega),show ((k+2:Nat):Int)-1=((k+1:Nat):Int) by omega,Kj hf (by omega) (by omega) hn,A1,iW (by omega) hn,A1,
   De (Dy hf (k+1)) (Bo (a:=((k+2:Nat):Int)) (by omega)) (by omega) hn,A1,QK,QG (by omega),
   Ab (x:=((k+2:Nat):Int)-2) (by omega) (by omega),show ((k+2:Nat):Int)-2=((k:Nat):Int) by omega,Kj hf (by omega) (by omega) hn,A1,show ((k+2:Nat):Int)*((k+1:Nat):Int)=(((k+2)*(k+1):Nat):Int) by rw [XV],
   Ab (x:=(((k+2)*(k+1):Nat):Int)) (by omega) (by omega),iW (by rw [XE];omega) hn,A1,De (Dy hf k) (Bo (a:=(((k+2)*(k+1):Nat):Int)) (by rw [XE];omega)) (by omega) hn,A1]
  rfl

def B6n (f d:Nat->Rat) (x:Nod) (k:Nat):Prop :=
 x.1=6->f x.2.2.1.toNat ≠ 0/\f k=f x.2.1.toNat*(1 / f x.2.2.1.toNat)/\d k=d x.2.1.toNat*(1 / f x.2.2.1.toNat)+f x.2.1.toNat * -(d x.2.2.1.toNat*(1 / f x.2.2.1.toNat*(1 / f x.2.2.1.toNat)))

theorem Bcj {n N L k:Nat} {f d:Nat->Rat} {s:Sw} {x:Nod} (hx:Cc x k) (h2:x.1 ≠ 2) (hk:k<N) (hf:∀ j,Sz (f j) 40) (hd:∀ j,Sz (d j) 48061) (hq:B6n f d x k) (hs:Ss s L) (hL:L<=100000000) (hb:Sz (s.bar k) 40) (ht:Sz (s.dot k) 40) (hn:68719476736<=n) :
  Aek n (rA N f,rA N d,rA N s.bar,rA N s.dot) x (k:Int)=some ((),(rA N f,rA N d,()),rA N (B6 f d x k s).bar,rA N (B6 f d x k s).dot)/\Ss (B6 f d x k s) (L+1000000):=by
 obtain ⟨h1,hnum,hA,hB⟩:=hx
 have g:(decide (0<=(k:Int))&&decide ((k:Int)<((N:Nat):Int)))=true:=by simp;omega
 unfold Aek;dsimp only
 rw [Az,Az,Az,Az,A3 g,QO,A3 (by simp;omega),Cq hk,A3 g,A3 (by simp;omega),Cq hk]
 have p1:∀ {A:Int},0<=A/\A<=(k:Int)-1->∃ a:Nat,A=(a:Int)/\a<k:=λ{A} h=>⟨A.toNat,by omega,by omega⟩
 by_cases c3:x.1=3
 . rw [show (x.1==3)=true by simpa using c3,ZE]
   obtain ⟨a,ea,ha⟩:=p1 (by rw [QG (by simp [B9,c3])] at hA;exact hA)
   obtain ⟨b,eb,hb'⟩:=p1 (by rw [QG (by simp [B9,c3])] at hB;exact hB)
   have es:B6 f d x k s=Dg (Dg s a (s.bar k) (s.dot k)) b (s.bar k) (s.dot k):=by
    unfold B6 By Et Ie;simp only [c3,ea,eb,QO];simp [KW,Rat.mul_zero,JI]
   have s1:=hs.put (k:=a) hb ht
   rw [es,ea,eb,Li hs hb ht (by omega) (by omega) hn,A1]
   dsimp only
   rw [Az,Az,Li s1 hb ht (by omega) (by omega) hn,A1]
   dsimp only
   rw [Az,Az,A3 (by simp),A3 (by simp)]
   exact ⟨rfl,(s1.put hb ht).mono (by omega)⟩
 rw [show (x.1==3)=false by simpa using c3,QR]
 by_cases c4:x.1=4
 . rw [show (x.1==4)=true by simpa using c4,ZE]
   obtain ⟨a,ea,ha⟩:=p1 (by rw [QG (by simp [B9,c4])] at hA;exact hA)
   obtain ⟨b,eb,hb'⟩:=p1 (by rw [QG (by simp [B9,c4])] at hB;exact hB)
   have es:B6 f d x k s=Dg (Dg s a (s.bar k) (s.dot k)) b (-s.bar k) (-s.dot k):=by
    have e1:s.bar k * -1 = -s.bar k:=by grind
    have e2:s.dot k * -1 = -s.dot k:=by grind
    unfold B6 By Et Ie;simp only [c4,ea,eb,QO];simp [KW,Rat.mul_zero,JI,e1,e2]
   have s1:=hs.put (k:=a) hb ht
   rw [es,ea,eb,Li hs hb ht (by omega) (by omega) hn,A1]
   dsimp only
   rw [Az,Az,iNg hb (by omega),A1,iNg ht (by omega),A1,Li s1 (Cm hb) (Cm ht) (by omega) (by omega) hn,A1]
   dsimp only
   rw [Az,Az,A3 (by simp),A3 (by simp)]
   exact ⟨rfl,(s1.put (Cm hb) (Cm ht)).mono (by omega)⟩
 rw [show (x.1==4)=false by simpa using c4,QR]
 by_cases c5:x.1=5
 . rw [show (x.1==5)=true by simpa using c5,ZE]
   obtain ⟨a,ea,ha⟩:=p1 (by rw [QG (by simp [B9,c5])] at hA;exact hA)
   obtain ⟨b,eb,hb'⟩:=p1 (by rw [QG (by simp [B9,c5])] at hB;exact hB)
   have ga:(decide (0<=(a:Int))&&decide ((a:Int)<((N:Nat):Int)))=true:=by simp;omega
   have gb:(decide (0<=(b:Int))&&decide ((b:Int)<((N:Nat):Int)))=true:=by simp;omega
   have es:B6 f d x k s=Dg (Dg s a (s.bar k*f b) (s.dot k*f b+s.bar k*d b)) b (s.bar k*f a) (s.dot k*f a+s.bar k*d a):=by
    unfold B6 By Et Ie;simp only [c5,ea,eb,QO];simp
   have z1:Sz (s.bar k*f b) 100000:=(Aj hb (hf b)).mono (by omega)
   have z2:Sz (s.dot k*f b+s.bar k*d b) 100000:=(G3 (Aj ht (hf b)) (Aj hb (hd b))).mono (by omega)
   have z3:Sz (s.bar k*f a) 100000:=(Aj hb (hf a)).mono (by omega)
   have z4:Sz (s.dot k*f a+s.bar k*d a) 100000:=(G3 (Aj ht (hf a)) (Aj hb (hd a))).mono (by omega)
   have s1:=hs.put (k:=a) z1 z2
   rw [es,ea,eb,A3 gb,QO,Cq (by omega),A3 gb,Cq (by omega),Og hb ht (hf b) (hd b) (by omega) hn,A1,A3 ga,QO,Cq (by omega),A3 ga,Cq (by omega),Og hb ht (hf a) (hd a) (by omega) hn,A1]
   dsimp only
   rw [Li hs z1 z2 (by omega) (by omega) hn,A1]
   dsimp only
   rw [Az,Az,Li s1 z3 z4 (by omega) (by omega) hn,A1]
   dsimp only
   rw [Az,Az,A3 (by simp),A3 (by simp)]
   exact ⟨rfl,(s1.put z3 z4).mono (by omega)⟩
 rw [show (x.1==5)=false by simpa using c5,QR]
 by_cases c6:x.1=6
 . rw [show (x.1==6)=true by simpa using c6,ZE]
   obtain ⟨a,ea,ha⟩:=p1 (by rw [QG (by simp [B9,c6])] at hA;exact hA)
   obtain ⟨b,eb,hb'⟩:=p1 (by rw [QG (by simp [B9,c6])] at hB;exact hB)
   obtain ⟨q1,q2,q3⟩:=hq c6;rw [ea,eb,QO,QO] at q3;rw [ea,eb,QO,QO] at q2;rw [eb,QO] at q1;have hi:=A8c (hf b) q1
   have hdi:Sz (-(1 / f b*(1 / f b)*d b)) 48200:=(Cm (Aj (Aj hi hi) (hd b))).mono (by omega)
   have z1:Sz (s.bar k*(1 / f b)) 100:=(Aj hb hi).mono (by omega)
   have z2:Sz (s.dot k*(1 / f b)+s.bar k * -(1 / f b*(1 / f b)*d b)) 50000:=(G3 (Aj ht hi) (Aj hb hdi)).mono (by omega)
   have z3:Sz (-(s.bar k*(1 / f b)*f k)) 200000:=(Cm (Aj z1 (hf k))).mono (by omega)
   have z4:Sz (-((s.dot k*(1 / f b)+s.bar k * -(1 / f b*(1 / f b)*d b))*f k+s.bar k*(1 / f b)*d k)) 200000:=(Cm (G3 (Aj z2 (hf k)) (Aj z1 (hd k)))).mono (by omega)
   have es:B6 f d x k s=Dg (Dg s a (s.bar k*(1 / f b)) (s.dot k*(1 / f b)+s.bar k * -(1 / f b*(1 / f b)*d b))) b (-(s.bar k*(1 / f b)*f k)) (-((s.dot k*(1 / f b)+s.bar k * -(1 / f b*(1 / f b)*d b))*f k+s.bar k*(1 / f b)*d k)):=by
    unfold B6 By Et Ie;simp only [c6,ea,eb,QO];simp only [q2,q3];generalize 1 / f b=r
    have e1:s.bar k * -(d b*(r*r))=s.bar k * -(r*r*d b):=by grind
    have e2:s.bar k * -(f a*(r*r)) = -(s.bar k*r*(f a*r)):=by grind
    have e3:s.dot k * -(f a*(r*r))+s.bar k*(-(d a*(r*r))+2*(f a*d b*(r*r*r))) = -((s.dot k*r+s.bar k * -(r*r*d b))*(f a*r)+s.bar k*r*(d a*r+f a * -(d b*(r*r)))):=by grind
    simp;rw [e1,e2,e3]
   have s1:=hs.put (C:=50000) (k:=a) (z1.mono (by omega)) z2
   rw [es,ea,eb,Auu (hf b) (hd b) q1 (by omega) hn,A1]
   dsimp only
   rw [Az,Az,Az,Az,A3 (by simp),Og hb ht hi hdi (by omega) hn,A1,A3 g,Cq hk,A3 g,Cq hk]
   dsimp only
   rw [Og z1 z2 (hf k) (hd k) (by omega) hn,A1,Li (C:=50000) hs (z1.mono (by omega)) z2 (by omega) (by omega) hn,A1]
   dsimp only
   rw [Az,Az,A3 (by simp),iNg (Aj z1 (hf k)) (by omega),A1,iNg (G3 (Aj z2 (hf k)) (Aj z1 (hd k))) (by omega),A1,Li s1 z3 z4 (by omega) (by omega) hn,A1]
   dsimp only
   rw [Az,Az,A3 (by simp)]
   exact ⟨rfl,(s1.put z3 z4).mono (by omega)⟩
 rw [show (x.1==6)=false by simpa using c6,QR]
 by_cases c7:x.1=7
 . rw [show (x.1==7)=true by simpa using c7,ZE]
   obtain ⟨a,ea,ha⟩:=p1 (by rw [QG (by simp [B9,c7])] at hA;exact hA)
   have es:B6 f d x k s=Dg s a (-s.bar k) (-s.dot k):=by
    have e1:s.bar k * -1 = -s.bar k:=by grind
    have e2:s.dot k * -1 = -s.dot k:=by grind
    unfold B6 By Et Ie;simp only [c7,ea,QO];simp [Rat.mul_zero,JI,e1,e2]
   rw [es,ea,iNg hb (by omega),A1,iNg ht (by omega),A1,Li hs (Cm hb) (Cm ht) (by omega) (by omega) hn,A1]
   dsimp only
   rw [Az,Az,A3 (by simp)]
   exact ⟨rfl,(hs.put (Cm hb) (Cm ht)).mono (by omega)⟩
 rw [show (x.1==7)=false by simpa using c7,QR]
 by_cases c8:x.1=8
 . rw [show (x.1==8)=true by simpa using c8,ZE]
   obtain ⟨a,ea,ha⟩:=p1 (by rw [QG (by simp [B9,c8])] at hA;exact hA)
   have ga:(decide (0<=(a:Int))&&decide ((a:Int)<((N:Nat):Int)))=true:=by simp;omega
   have hN8:0<=x.2.2.2/\x.2.2.2<=8:=by
    unfold Gf at hnum
    rw [QI (by omega),QI (by omega),QG c8] at hnum
    exact hnum
   have e8:x.2.2.2=((x.2.2.2.toNat:Nat):Int):=by omega
   have d1:=Aeo (k:=x.2.2.2.toNat) (hf a) (by omega)
   have d2:=Bi7 (k:=x.2.2.2.toNat) (hf a) (by omega)
   have es:B6 f d x k s=Dg s a (s.bar k*Q4.d1 (f a) x.2.2.2.toNat) (s.dot k*Q4.d1 (f a) x.2.2.2.toNat+s.bar k*(Q4.d2 (f a) x.2.2.2.toNat*d a)):=by
    unfold B6 By Et Ie;simp only [c8,ea,QO];simp
   have z0:=Aj d2 (hd a)
   have z1:Sz (s.bar k*Q4.d1 (f a) x.2.2.2.toNat) 100000:=(Aj hb d1).mono (by omega)
   have z2:Sz (s.dot k*Q4.d1 (f a) x.2.2.2.toNat+s.bar k*(Q4.d2 (f a) x.2.2.2.toNat*d a)) 100000:=(G3 (Aj ht d1) (Aj hb z0)).mono (by omega)
   have hsl:A7l n (rq (f a),(),(),rq (d a)) x.2.2.2=some (rq (Q4.d1 (f a) x.2.2.2.toNat),rq (Q4.d2 (f a) x.2.2.2.toNat)):=by
    have:=Aup (n:=n) (v:=d a) (k:=x.2.2.2.toNat) (hf a) (by omega) (by omega) hn
    rw [<- e8] at this;exact this
   rw [es,ea,A3 ga,QO,Cq (by omega),A3 ga,Cq (by omega),hsl,A1]
   dsimp only
   rw [De d2 (hd a) (by omega) hn,A1,Og hb ht d1 z0 (by omega) hn,A1]
   dsimp only
   rw [Li hs z1 z2 (by omega) (by omega) hn,A1]
   dsimp only
   rw [Az,Az,A3 (by simp)]
   exact ⟨rfl,(hs.put z1 z2).mono (by omega)⟩
 rw [show (x.1==8)=false by simpa using c8,QR]
 have c1:x.1=1:=by omega
 have es:B6 f d x k s=s:=by
  unfold B6 Et Ie;simp only [c1];simp
 rw [es]
 exact ⟨rfl,hs.mono (by omega)⟩

def swC (f d:Nat->Rat) (S:Nat->Nod):Nat->Sw->Option Sw
 | 0,s=>some s
 | k+1,s=>if Bx (s.bar k)=true/\Bx (s.dot k)=true then swC f d S k (B6 f d (S k) k s) else none

theorem Am8 {f d:Nat->Rat} {S:Nat->Nod}:∀ {k:Nat} {s t:Sw},swC f d S k s=some t->t=Sy f d S k s
 | 0,s,t,h=>(QA h).symm
 | k+1,s,t,h=>by
  simp only [swC] at h;split at h
  . exact Am8 (k:=k) h
  . cases h

structure Way (e:List Nod) (dim:Nat) (f d:Nat->Rat):Prop where
 le:e.length<=60
 dm:dim<=4096
 plain:∀ k,k<e.length->Cc (e.getD k (0,0,0,0)) k
 var:∀ k,k<e.length->(e.getD k (0,0,0,0)).1=2->(e.getD k (0,0,0,0)).2.2.2<(dim:Int)
 hang:∀ k,k<e.length->B6n f d (e.getD k (0,0,0,0)) k
 f:∀ j,Sz (f j) 40
 d:∀ j,Sz (d j) 48061

theorem Ata {x:Nod} {i:Int} (h:Cc x i) (h2:x.1=2):0<=x.2.2.2:=by
 have:=h.2.1;unfold Gf at this
 rw [QI (by omega),QG h2] at this
 exact this.1

theorem A5p {f d:Nat->Rat} {x:Nod} {k:Nat} {s:Sw} (h:x.1=2):B6 f d x k s={ s with grad:=Dw s.grad x.2.2.2.toNat (s.grad x.2.2.2.toNat+s.bar k),curve:=Dw s.curve x.2.2.2.toNat (s.curve x.2.2.2.toNat+s.dot k) }:=by unfold B6;rw [QG h]

theorem Bbn {f d:Nat->Rat} {x:Nod} {k L:Nat} {s:Sw} (h:x.1=2) (hs:Ss s L) (hb:Sz (s.bar k) 40) (ht:Sz (s.dot k) 40):Ss (B6 f d x k s) (L+1000000):=by
 rw [A5p h]
 exact ⟨λj=>(hs.bar j).mono (by omega),λj=>(hs.dot j).mono (by omega),Z5 hs.grad ((G3 (hs.grad _) hb).mono (by omega)) (by omega),Z5 hs.curve ((G3 (hs.curve _) ht).mono (by omega)) (by omega)⟩

def R7 (L k:Nat):Prop:=L+1000000*k<=100000000

theorem R7.step {L k:Nat} (h:R7 L (k+1)):R7 (L+1000000) k:=by unfold R7 at *;omega

theorem R7.le {L k:Nat} (h:R7 L (k+1)):L<=99000000:=by unfold R7 at *;omega

theorem A8y {α:Type} {n dim:Nat} {e:List Nod} {o:Int} {f d:Nat->Rat} (h:Way e dim f d) (hn:68719476736<=n) {k0:Int->Option α} {k1:List Rt->List Rt->Option α}:∀ (fu k L:Nat) (s:Sw),k<=e.length->k<fu->R7 L k->Ss s L ->
  A6r n fu ((k:Int)-1) e o (rA e.length f) (rA e.length d) (rA e.length s.bar) (rA e.length s.dot) (rA dim s.grad) (rA dim s.curve) k0 k1 =
   match swC f d (λj=>e.getD j (0,0,0,0)) k s with
   | some t=>k1 (rA dim t.grad) (rA dim t.curve)
   | none=>k0 7
 | 0,k,L,s,hk,hf,hL,hs=>by omega
 | fu+1,0,L,s,hk,hf,hL,hs=>by
  rw [Ah0];unfold Zv
  rw [QK,QI (by omega)]
  rfl
 | fu+1,k+1,L,s,hk,hf,hL,hs=>by
  have hle:=h.le;have hL':=hL.le;have hdm:=h.dm;rw [Ah0];unfold Zv;dsimp only
  rw [show ((k+1:Nat):Int)-1=(k:Int) by omega,QK,QG (by omega),Az,Az,Az,Az]
  have g:(decide (0<=(k:Int))&&decide ((k:Int)<((e.length:Nat):Int)))=true:=by simp;omega
  rw [A3 g,QO,A3 (by simp;omega),Cq (by omega),Zh,A1]
  by_cases hb:Bx (s.bar k)=true
  case neg =>
   rw [show Bx (s.bar k)=false by simpa using hb]
   unfold swC;rw [QI (λc=>hb c.1)];rfl
  rw [hb,ZT,QR,A3 g,A3 (by simp;omega),Cq (by omega),Zh,A1]
  by_cases ht:Bx (s.dot k)=true
  case neg =>
   rw [show Bx (s.dot k)=false by simpa using ht]
   unfold swC;rw [QI (λc=>ht c.2)];rfl
  unfold swC;rw [QG ⟨hb,ht⟩,ht,ZT,QR,A3 g];have hb:=Db.1 hb;have ht:=Db.1 ht
  have hx:=h.plain k (by omega)
  have hvv:=h.var k (by omega)
  have hhg:=h.hang k (by omega)
  generalize e.getD k (0,0,0,0)=x at hx hvv hhg ⊢;by_cases c2:x.1=2
  . have hv:=hvv c2;have hv0:=Ata hx c2
    have ev:x.2.2.2=((x.2.2.2.toNat:Nat):Int):=by omega
    have gv:(decide (0<=x.2.2.2)&&decide (x.2.2.2<((dim:Nat):Int)))=true:=by simp;omega
    have s1:=Bbn (f:=f) (d:=d) (L:=L) c2 hs hb ht
    have ih:=A8y (o:=o) h hn (k0:=k0) (k1:=k1) fu k (L+1000000) _ (by omega) (by omega) hL.step s1
    rw [A5p c2] at ih ⊢;dsimp only at ih ⊢
    rw [show (x.1==2)=true by simpa using c2,ZE,A3 gv,A3 (by simp;omega),Cq (by omega),A3 g,A3 (by simp;omega),Xe (hs.grad _) hb (by omega) hn,A1,A3 gv,A3 (by simp;omega),Cq (by omega),A3 g,A3 (by simp;omega),Xe (hs.curve _) ht (by omega) hn,A1,A3 gv,A3 (by simp;omega),A3 gv,A3 (by simp;omega),Wt,Wt,Ab (x:=(k:Int)-1) (by omega) (by omega),ih]
  . obtain ⟨e1,s1⟩:=Bcj (N:=e.length) hx c2 (by omega) h.f h.d hhg hs (by omega) hb ht hn
    have ih:=A8y (o:=o) h hn (k0:=k0) (k1:=k1) fu k (L+1000000) _ (by omega) (by omega) hL.step s1
    have eg:(B6 f d x k s).grad=s.grad/\(B6 f d x k s).curve=s.curve:=by
     unfold B6;rw [QI c2];dsimp only;split <;> split <;> exact ⟨rfl,rfl⟩
    rw [eg.1,eg.2] at ih
    rw [show (x.1==2)=false by simpa using c2,QR,e1,A1]
    dsimp only
    rw [Az,Az,A3 (by simp),Ab (x:=(k:Int)-1) (by omega) (by omega),ih]

theorem R9:∀ {a b:List Rat},vq a=vq b->a=b
 | [],[],_=>rfl
 | [],_::_,h=>by simp [vq] at h
 | _::_,[],h=>by simp [vq] at h
 | x::a,y::b,h=>by
  have h:rq x::vq a=rq y::vq b:=h;obtain ⟨h1,h2⟩:=List.cons.inj h;rw [Atr h1,R9 h2]

def Qf (X:List Rat) (w:Nat->Rat) (e:List Nod) (k:Nat):Q4:=(evs (Ak X) (λ_=>0) w e []).getD k (Q4.cst 0)

theorem B6l {X:List Rat} {w:Nat->Rat} {e:List Nod} {k:Nat} (hk:k<e.length) (h6:(e.getD k (0,0,0,0)).1=6) (ha:(e.getD k (0,0,0,0)).2.1.toNat<k) (hb:(e.getD k (0,0,0,0)).2.2.1.toNat<k) :
  Qf X w e k=Q4.mul (Qf X w e (e.getD k (0,0,0,0)).2.1.toNat) (Q4.inv (Qf X w e (e.getD k (0,0,0,0)).2.2.1.toNat)):=by
 unfold Qf;rw [Ajp _ _ _ e hk];unfold Ba
 rw [QI (by omega),QI (by omega),QI (by omega),QI (by omega),QI (by omega),QG h6,L5 _ _ _ e ha (by omega),L5 _ _ _ e hb (by omega)]

theorem B1f {x:Nod} {k:Nat} (h:Cc x k) (h6:x.1=6):x.2.1.toNat<k/\x.2.2.1.toNat<k:=by
 obtain ⟨_,_,hA,hB⟩:=h
 have k1:B9 x.1>0:=by unfold B9;rw [QG (by omega)];omega
 have k2:B9 x.1>1:=by unfold B9;rw [QG (by omega)];omega
 rw [QG k1] at hA;rw [QG k2] at hB;omega

theorem Ci.way {X V:List Rat} {e:List Nod} (h:Ci X V e) (hx:X.length<=4096) {w:Nat->Rat} (hw:w=Ak V \/ w=λ_=>0):Way e X.length (λk=>(Qf X (Ak V) e k).f) (λk=>(Qf X w e k).v):=by
 refine ⟨h.len,hx,λk hk=>(h.all k hk).1,λk hk h2=>(h.all k hk).2 h2,λk hk h6=>?_,h.fit,λj=>?_⟩
 . obtain ⟨ha,hb⟩:=B1f (h.all k hk).1 h6;have hbad:=h.ok k hk
   have hf0:(Qf X (Ak V) e (e.getD k (0,0,0,0)).2.2.1.toNat).f ≠ 0:=λh0=>hbad ⟨h6,by rw [L5 _ _ _ e hb (by omega)];exact h0⟩
   have ff:∀ j,(Qf X w e j).f=(Qf X (Ak V) e j).f:=λj=>A5v _ _ _ _ _ e j;refine ⟨hf0,?_,?_⟩
   . rw [B6l (w:=Ak V) hk h6 ha hb];rfl
   . rw [B6l (w:=w) hk h6 ha hb];show _*(1 / (Qf X w e _).f)+(Qf X w e _).f * -(_*(1 / (Qf X w e _).f*(1 / (Qf X w e _).f)))=_;rw [ff,ff]
 . rcases hw with rfl | rfl
   . exact h.all_v j
   . show Sz (Qf X (λ_=>0) e j).v 48061;rw [show (Qf X (λ_=>0) e j).v=0 from (Atp (Ak X) (λ_=>0) e j).1]
     exact Ch.mono (by omega)

def Qw (X V:List Rat) (w:Nat->Rat) (e:List Nod):Option Sw :=
 swC (λk=>(Qf X (Ak V) e k).f) (λk=>(Qf X w e k).v) (λj=>e.getD j (0,0,0,0)) e.length ⟨Dw (λ_=>0) (e.length-1) 1,λ_=>0,λ_=>0,λ_=>0⟩

theorem Bbg (N:Nat):Ss ⟨Dw (λ_=>0) N 1,λ_=>0,λ_=>0,λ_=>0⟩ 1 :=
 ⟨Z5 (L:=1) (λ_=>Ch) (Pw (by omega)) (ZG _),λ_=>Ch,λ_=>Ch,λ_=>Ch⟩

theorem Bc1 {N:Nat} (h:N<=60):R7 1 N:=by unfold R7;omega

theorem Bcl {X V:List Rat} {w:Nat->Rat} {e:List Nod} {n:Nat} (h:Way e X.length (λk=>(Qf X (Ak V) e k).f) (λk=>(Qf X w e k).v)) (h1:1<=e.length) (hx:X.length<=100) (hn:68719476736<=n) :
  f49 n (e,(e.length:Int)-1) (vq X) (rA e.length λk=>(Qf X (Ak V) e k).f) (rA e.length λk=>(Qf X w e k).v)=some (match Qw X V w e with
   | some t=>(rA X.length t.grad,rA X.length t.curve,0)
   | none=>([],[],7)):=by
 have hle:=h.le;unfold f49;dsimp only
 have e1:(e.length:Int)-1=((e.length-1:Nat):Int):=by omega
 rw [Auv (by omega) hn,A1,A1,iW1 hn,A1,Az,Ab (x:=(e.length:Int)-1) (by omega) (by omega)]
 rw [A3 (by simp;omega),A3 (by simp;omega),Bn,Auv (by omega) hn,A1,A1]
 have:=A8y (α:=List Rt × List Rt × Int) (o:=(e.length:Int)-1) h hn (k0:=λz_18=>some ([],[],z_18)) (k1:=λz_19 z_20=>some (z_19,z_20,0)) n e.length 1 ⟨Dw (λ_=>0) (e.length-1) 1,λ_=>0,λ_=>0,λ_=>0⟩ (ZG _) (by omega) (Bc1 hle) (Bbg _)
 dsimp only at this
 rw [show ((e.length:Int)-1).toNat=e.length-1 by omega,Wt,this]
 unfold Qw
 cases swC (λk=>(Qf X (Ak V) e k).f) (λk=>(Qf X w e k).v) (λj=>e.getD j (0,0,0,0)) e.length ⟨Dw (λ_=>0) (e.length-1) 1,λ_=>0,λ_=>0,λ_=>0⟩ <;> rfl

theorem Bgy {X:List Rat} {w:Nat->Rat} {e:List Nod} (p:Q4->Rat):vq ((evs (Ak X) (λ_=>0) w e []).map p)=rA e.length λk=>p (Qf X w e k):=by
 have hl:(evs (Ak X) (λ_=>0) w e []).length=e.length:=by rw [Cp];simp
 rw [B5i];congr 1;apply Qbb
 . simp [hl]
 . intro i h1 h2;simp only [List.getElem_map,List.getElem_range];unfold Qf;rw [QZ] at h1;simp [QH,QM h1]

def Bir (g:Sw->Nat->Rat) (m:Nat):Option Sw->List Rt × Int
 | some t=>Mi ((List.range m).map (g t))
 | none=>([],7)

theorem Akk {x:Nod} {k:Nat} (h:Cc x k):A8b x k:=by
 obtain ⟨h1,_,hA,hB⟩:=h
 have t2:Et x=true->3<=x.1/\x.1<=6:=λh=>by unfold Et at h;simp at h;omega
 have o2:Ie x=true->x.1=7 \/ x.1=8:=λh=>by unfold Ie at h;simpa using h
 refine ⟨h1,λh=>?_,λh=>?_⟩
 . have k1 : B9 x.1 > 0 := by
    have:3<=x.1/\x.1<=8:=by
     rcases h with h | h
     . have:=t2 h;omega
     . have:=o2 h;omega
    unfold B9;split;omega;split <;> omega
   rw [QG k1] at hA;omega
 . have:=t2 h
   have k2:B9 x.1>1:=by unfold B9;rw [QG (by omega)];omega
   rw [QG k2] at hB;omega

theorem Bby {x u w:Nat->Rat} {e:List Nod} (hp:∀ k,k<e.length->Cc (e.getD k (0,0,0,0)) k) {k:Nat} (hk:k<e.length) :
  (evs x u w e []).getD k (Q4.cst 0)=Ic x u w (λk=>(evs x u w e []).getD k (Q4.cst 0)) (e.getD k (0,0,0,0)):=by
 rw [Ajp x u w e hk,A8r]
 exact Apl (Akk (hp k hk)) λj hj=>L5 x u w e hj (by omega)

theorem B51 {X V:List Rat} {w:Nat->Rat} {e:List Nod} (ht:Ci X V e) (h1:1<=e.length) {t:Sw} (hb:Qw X V w e=some t) (u:Nat->Rat) :
  ((evs (Ak X) u w e []).getD (e.length-1) (Q4.cst 0)).a=sm X.length (λj=>t.grad j*u j)/\((evs (Ak X) u w e []).getD (e.length-1) (Q4.cst 0)).c=sm X.length (λj=>t.curve j*u j):=by
 have hp:∀ k,k<e.length->Cc (e.getD k (0,0,0,0)) k:=λk hk=>(ht.all k hk).1;have:=Am8 hb
 have key:=Atf (x:=Ak X) (u:=u) (w:=w) (S:=λj=>e.getD j (0,0,0,0)) (dim:=X.length) (N:=e.length) (out:=e.length-1) (Q:=λk=>(evs (Ak X) u w e []).getD k (Q4.cst 0))
  (λk hk=>⟨Akk (hp k hk),λh2=>by have:=(ht.all k hk).2 h2;have:=Ata (hp k hk) h2;omega,Bby hp hk⟩) (by omega)
 have ef:(λk=>((evs (Ak X) u w e []).getD k (Q4.cst 0)).f)=λk=>(Qf X (Ak V) e k).f:=by funext k;exact A5v _ _ _ _ _ e k
 have ed:(λk=>((evs (Ak X) u w e []).getD k (Q4.cst 0)).v)=λk=>(Qf X w e k).v:=by funext k;exact Bgw _ _ _ _ e k
 rw [ef,ed,<- this] at key;exact key

theorem Bg8:∀ (m:Nat) (g:Nat->Rat) {V:List Rat},V.length=m->Bt 0 ((List.range m).map g) V=sm m (λj=>g j*Ak V j):=by
 have snoc:∀ {x y:List Rat} {a b acc:Rat},x.length=y.length->Bt acc (x++[a]) (y++[b])=Bt acc x y+a*b:=by
  intro x
  induction x with
  | nil=>intro y a b acc h;cases y with | nil=>rfl | cons=>simp at h
  | cons p x ih=>intro y a b acc h;cases y with
   | nil=>simp at h
   | cons q y=>exact ih (by simpa using h)
 intro m
 induction m with
 | zero=>intro g V hV;rw [YK hV];rfl
 | succ m ih =>
  intro g V hV
  obtain ⟨W0,b,rfl⟩:∃ W0 b,V=W0++[b]:=⟨V.dropLast,V.getLast (by intro h;rw [h] at hV;simp at hV),(List.dropLast_concat_getLast _).symm⟩
  have hW:W0.length=m:=by simpa using hV
  rw [List.range_succ,YT,QT,XN,snoc (by simp [hW]),ih g hW]
  simp only [sm]
  have e1:Ak (W0++[b]) m=b:=by unfold Ak;subst hW;simp [List.getD]
  rw [e1];congr 1;refine O5 λj hj=>?_
  have:Ak (W0++[b]) j=Ak W0 j:=by unfold Ak;simp [List.getD,ZB (show j<W0.length by omega)]
  rw [this]

theorem B23 {n:Nat} {e:List Nod} {o:Int} {x:List Rt} (hN:e.length<=1048576) (hn:68719476736<=n):∃ (r:List Rt) (c:Int),f23 n (e,o) x=some (r,c) /\
  (c=0->∃ X:List Rat,x=vq X/\o=(e.length:Int)-1/\1<=e.length/\Ci X X e /\ ∃ t,Qw X X (λ_=>0) e=some t/\r=vq ((List.range X.length).map t.grad)/\Sv ((List.range X.length).map t.grad) 40)/\(c ≠ 0->r=[]):=by
 have h103:=A92 (n:=n) (e:=e) (o:=o) (l:=x) hN (by omega)
 by_cases ha:G6 e o x=0
 . have hs : Dh e o x x = 0 := by
    obtain ⟨_,hv,_,hl⟩:=A0t ha;unfold Dh Qx
    rw [QI (by omega),QI (by rw [ha];simp),QG hv,QG rfl]
   obtain ⟨_,_,_,h4096⟩:=A0t ha;obtain ⟨X,V,rfl,hxv,x1,x4,eo,e1,hr⟩:=Am3 (n:=n) hN hn hs;have hXV:X=V:=R9 hxv;subst hXV;rw [Bn] at h4096;rcases hr with ⟨c,c0,h52,h93⟩ | ⟨ht,h52,h93⟩
   . have hc:(c != 0)=true:=by simpa using c0
     refine ⟨[],c,?_,λh=>absurd h c0,λ_=>rfl⟩
     . unfold f23;rw [h52,A1];dsimp only;rw [hc,ZE]
   . have hw:=ht.way (by omega) (w:=λ_=>0) (.inr rfl)
     have z0:(λk=>(Qf X (λ_=>0) e k).v)=λ_=>0:=by
      funext k;exact (Atp (Ak X) (λ_=>0) e k).1
     have hle:=ht.len
     have hB:=Bcl (n:=n) hw e1 (by omega) hn
     rw [z0] at hB;rw [Bgy] at h52 h93
     have gI:f23 n (e,o) (vq X)=some (Bir Sw.grad X.length (Qw X X (λ_=>0) e)):=by
      unfold f23;rw [h52,A1];dsimp only
      rw [XK,QR,Az,Bh3 (by omega) hn,A1,eo,hB,A1]
      cases Qw X X (λ_=>0) e with
      | none=>rfl
      | some t =>
       dsimp only
       rw [XK,QR,B5i,Aga (by simp;omega) (by omega),A1]
       rfl
     refine ⟨_,_,gI,λhc=>?_,λhc=>?_⟩
     . refine ⟨X,rfl,eo,e1,ht,?_⟩;revert hc
       cases Qw X X (λ_=>0) e with
       | none=>intro hc;cases hc
       | some t =>
        intro hc;have hc:(Mi ((List.range X.length).map (Sw.grad t))).2=0:=hc;show ∃ u,some t=some u/\(Mi ((List.range X.length).map (Sw.grad t))).1=vq ((List.range X.length).map u.grad)/\Sv ((List.range X.length).map u.grad) 40;unfold Mi at hc ⊢;by_cases hf:((List.range X.length).map (Sw.grad t)).all Bx=true
        . rw [QG hf];exact ⟨t,rfl,rfl,λy hy=>Db.1 (QJ.1 hf y hy)⟩
        . rw [QI hf] at hc;cases hc
     . revert hc
       cases Qw X X (λ_=>0) e with
       | none=>intro _;rfl
       | some t=>exact An1
 . have hc:(G6 e o x != 0)=true:=by simpa using ha
   refine ⟨[],G6 e o x,?_,λh=>absurd h ha,λ_=>rfl⟩
   . unfold f23 f63;rw [h103,A1,hc,ZE,A1];dsimp only;rw [hc,ZE]

theorem B6q {n:Nat} {e:List Nod} {o:Int} {x v:List Rt} (hN:e.length<=1048576) (hn:68719476736<=n):∃ (r:List Rt) (c:Int),f40 n (e,o) x v=some (r,c)/\f41 n (e,o) x v=some (r,c) /\
  (c=0->∃ X V:List Rat,x=vq X/\v=vq V/\o=(e.length:Int)-1/\1<=e.length/\Ci X V e/\r=vq (Cg X V e)/\Sv (Cg X V e) 40)/\(c ≠ 0->r=[]):=by
 have g96:=B33 (n:=n) (e:=e) (o:=o) (x:=x) (v:=v) hN (by omega)
 have g42 : f41 n (e, o) x v = _ := B6w (n := n) (e := e) (o := o) (x := x) (v := v) (k := fun r_1 => bif (r_1 != 0) then some (([], r_1) : List Rt × Int) else
       ob (f88 n (e,o) x) λr_2 =>
       bif (r_2.2 != 0) then
        some ([],r_2.2)
       else
        ob (f90 n (e,o) r_2.1 v) λr_3 =>
        ob (f89 n r_3) λr_4 =>
        some (r_4.1,r_4.2)) hN (by omega) (λ_ _=>rfl)
 by_cases ha:Dh e o x v=0
 . obtain ⟨X,V,rfl,rfl,x1,x4,eo,e1,hr⟩:=Am3 (n:=n) hN hn ha;rw [ha,XK,QR] at g96 g42;rcases hr with ⟨c,c0,h52,h93⟩ | ⟨ht,h52,h93⟩
   . have hc:(c != 0)=true:=by simpa using c0
     rw [h52,A1] at g96;rw [h93,A1] at g42;dsimp only at g42;rw [hc,ZE] at g42;refine ⟨[],c,?_,g42,λh=>absurd h c0,λ_=>rfl⟩;unfold f40;rw [g96,A1];dsimp only;rw [hc,ZE]
   . have hlen:(Cg X V e).length=e.length:=by unfold Cg;rw [QZ,Cp];simp
     have he:=ht.len
     have h95:f90 n (e,o) (vq ((evs (Ak X) (λ_=>0) (Ak V) e []).map Q4.f)) (vq V)=some (vq (Cg X V e)):=by
      unfold f90;dsimp only
      rw [B6u (by omega) (by omega),A1]
      have:=A5t (o:=o) ht hn rfl (k0:=λz_20=>some z_20) n 0 (by omega) (by omega)
      exact this
     rw [h52,A1] at g96;rw [h93,A1] at g42;dsimp only at g42
     rw [XK,QR,h95,A1,B6x (by omega) (by omega),A1] at g42
     refine ⟨(Mi (Cg X V e)).1,(Mi (Cg X V e)).2,?_,g42,λhc=>?_,An1⟩
     . unfold f40;rw [g96,A1];dsimp only
       rw [XK,QR,Bgz ht x1 hn,A1,Aga (by omega) (by omega),A1];rfl
     . refine ⟨X,V,rfl,rfl,eo,e1,ht,?_⟩;unfold Mi at hc ⊢;by_cases hf:(Cg X V e).all Bx=true
       . rw [QG hf];exact ⟨rfl,λy hy=>Db.1 (QJ.1 hf y hy)⟩
       . rw [QI hf] at hc;cases hc
 . have hc:(Dh e o x v != 0)=true:=by simpa using ha
   rw [hc,ZE] at g96 g42;refine ⟨[],_,?_,g42,λh=>absurd h ha,λ_=>rfl⟩;unfold f40;rw [g96,A1];dsimp only;rw [hc,ZE]

theorem Yw:∀ (r:List Nod) (p:List Nod × List Int),(r.foldl cst p).1.length<=p.1.length+r.length
 | [],p=>by simp
 | x::r,p=>by
  rw [List.foldl_cons];have h1:=Yw r (cst p x);have h2:=(Aav p x).2;simp only [ZD];omega

theorem Bdl {n:Nat} {l:List Int} (hn:1048577<=n) (h:∀ x ∈ l,0<=x/\x<=255) (hl:l.length<=1048576):∃ e o,f39 n l=some (e,o)/\e.length<=60:=by
 unfold f39 A9q B2i B2w;rw [A1]
 obtain ⟨c0,s0,e0,hc0,hs0⟩:=Ik (n:=n) (k:=3) (Bbr h hl) (by omega) (by omega) (by omega)
 rw [e0,A1]
 obtain ⟨c,s1,e1,hc,hs1⟩:=Ik (n:=n) (k:=3) hs0 (by omega) (by omega) (by omega)
 dsimp only;rw [e1,A1]
 have hw:W (2+c)=(((2+c).toNat:Nat):Int):=by rw [Ab (by omega) (by omega)];omega
 have hw2:W (1+c0)=1+c0:=Ab (by omega) (by omega)
 have h4:(4:Int) ^ (2+c).toNat<=4 ^ 4:=by
  have:=XY (n:=4) (by omega) (show (2+c).toNat<=4 by omega)
  exact_mod_cast this
 have h2:=XY (n:=2) (by omega) (show (2+c).toNat<=4 by omega)
 have e44:(4:Int) ^ 4=256:=by decide
 obtain ⟨s2,t,e2,ht,_⟩:=Sg (dim:=1+c0) (by omega) n (2+c).toNat (n:=n) (dv:=true) (nodes:=[]) (by omega) (by omega) (by omega) hs1 (by omega) (by simp only [XD];omega)
 have hlt:=ht.len;rw [hw,hw2];dsimp only
 rw [e2,A1,List.nil_append,A3 (by rw [decide_eq_true_eq];dsimp only;omega),A1]
 dsimp only
 rw [Bad (by omega) hn (ht.expr (by omega) (by omega)),A1,A1]
 refine ⟨_,_,rfl,?_⟩;have:=Yw t ([],[]);simp only [XD] at this;show (t.foldl cst ([],[])).1.length<=60;omega

theorem Bbc {b:List Int} (hb:∀ x ∈ b,0<=x/\x<=255):∀ x ∈ [5]++b,0<=x/\x<=255:=λx hx=>by
 simp at hx;rcases hx with rfl | hx
 . omega
 . exact hb x hx

theorem Bhg {n:Nat} {a b:List Int} (ha:∀ x ∈ a,0<=x/\x<=255) (hb:∀ x ∈ b,0<=x/\x<=255) (hn:68719476736<=n):f7 n a b=some true:=by
 unfold f7;by_cases hl:(a.length:Int)>1048576
 . rw [QU hl];rfl
 rw [QQ hl,QR];by_cases hl2:(b.length:Int)>1048576
 . rw [QU hl2];rfl
 rw [QQ hl2,QR]
 obtain ⟨e,o,e1,hle⟩:=Bdl (n:=n) (by omega) ha (by omega)
 rw [e1,A1]
 obtain ⟨X0,e2,hX,bX⟩:=Bdv (n:=n) (k:=3) hb (by omega) (by omega) (by omega)
 have e2:f21 n b 3=some (vq X0):=e2
 rw [e2,A1,A3 (by simp;omega)]
 have hl3:([5]++b).length<=1048577:=by simp;omega
 obtain ⟨V0,e3,hV,bV⟩:=B83 (n:=n) (k:=3) (Bbc hb) hl3 (by omega) (by omega)
 have e3:f21 n ([5]++b) 3=some (vq V0):=e3;rw [e3,A1]
 obtain ⟨r,c,t1,t2,t3,t4⟩:=B6q (n:=n) (e:=e) (o:=o) (x:=vq X0) (v:=vq V0) (by omega) hn
 obtain ⟨r2,c2,g1,g3,g4⟩:=B23 (n:=n) (e:=e) (o:=o) (x:=vq X0) (by omega) hn
 rw [t1,A1,t2,A1,g1,A1];dsimp only;rw [XK,QR]
 have hz25:f25 n [] []=some true:=Aum (x:=[]) (y:=[]) rfl (by simp) (λa ha=>by simp at ha) (by omega)
 by_cases hc:c=0
 case neg =>
  rw [t4 hc,hz25,A1,ZT,QR,show (c != 0)=true by simpa using hc,ZE]
 obtain ⟨X,V,q1,q2,eo,h1,ht,hr,hs⟩:=t3 hc;subst hc;have q1:=R9 q1;have q2:=R9 q2;subst q1;subst q2
 have hlen:(Cg X0 V0 e).length=e.length:=by unfold Cg;rw [QZ,Cp];simp
 rw [hr,Aum rfl (by omega) (λa ha=>(hs a ha).mono (by omega)) (by omega),A1,QU rfl,ZT,QR,XK,QR]
 by_cases hc2:c2=0
 case neg=>rw [show (c2 != 0)=true by simpa using hc2,ZE]
 obtain ⟨X,p1,_,_,ht2,t,hb2,hr2,hs2⟩:=g3 hc2;subst hc2;have p1:=R9 p1;subst p1;rw [XK,QR]
 have hdot:Bt 0 ((List.range X0.length).map t.grad) V0=(Cg X0 V0 e).getD (e.length-1) 0:=by
  rw [Bg8 X0.length t.grad (by omega)]
  have k1:=(B51 ht2 h1 hb2 (Ak V0)).1;rw [<- k1,(B6y (Ak X0) (Ak V0) (λ_=>0) e (e.length-1)).1];unfold Cg
  rw [QH,QH,QP,QM (by rw [Cp];simp;omega)]
  rfl
 have hout:Sz ((Cg X0 V0 e).getD (e.length-1) 0) 40:=hs.get (by omega)
 unfold f33
 rw [hr2,Bd4 hs2 (bV.sz (by decide) (by decide)) (by simp;omega) (by simp;omega) (by simp;omega) (by rw [hdot];exact hout) (by omega),A1,A1]
 dsimp only
 rw [beq_self_eq_true,ZE,Bn,hlen,show ((e.length:Int)==(e.length:Int))=true by simp,ZE,eo,A3 (by simp;omega),show ((e.length:Int)-1).toNat=e.length-1 by omega,Bz (by omega),hdot,Avr (hout.mono (by omega)) (by omega),A1,QU rfl]

end Go.Ev
