/- DERIVED. The plain laws: what the models compute. -/
import Derived.Test.YtdheaaapdlekdaaGreatVd

set_option linter.all false
set_option linter.unusedVariables false
set_option linter.unusedSimpArgs false

namespace Go.Ev
open Go

theorem Bkr {n i:Nat} {l:List Q4} (h:i<l.length):f103 n (i:Int) (l.map Ay)=some (rq (l.getD i (Q4.cst 0)).v):=by
 unfold f103
 rw [ZA,A2 (by simp;omega),QM,Aom h];rfl

theorem Blb {l:List Q4} {i:Nat} (h:i<l.length):vq ((l.take (i+1)).map Q4.v)=vq ((l.take i).map Q4.v)++[rq (l.getD i (Q4.cst 0)).v]:=by
 rw [KA h,YS,QJ,QN h];simp [vq]

theorem Aef {α:Type} {n:Nat} {l:List Q4} (hl:l.length<=60) (hs:∀ k,Sz (l.getD k (Q4.cst 0)).v 48061) {k0:List Rt->Option α}:∀ (m i:Nat),i<=l.length->l.length<i+m ->
  Jw n m (l.map Ay) (l.length:Int) (i:Int) (vq ((l.take i).map Q4.v)) k0=k0 (vq (l.map Q4.v))
 | 0,i,hi,hm=>by omega
 | m+1,i,hi,hm=>by
  rw [Al4];unfold Tg;rw [QE];by_cases h:i<l.length
  . rw [QC (by omega),Bkr h,A0,Avr (hs i) (by omega),A0,A2 (by simp;omega),A8 (by omega) (by omega),<- Blb h]
    exact Aef hl hs m (i+1) (by omega) (by omega)
  . rw [QB (by omega),XS (by omega)]

theorem D7.all_v {X V:List Rat} {e:List Nod} (h:D7 X V e) (k:Nat):Sz ((evs (Ac X) (λ_=>0) (Ac V) e []).getD k (Q4.cst 0)).v 48061:=by
 have:=h.sv (i:=e.length) (ZF _) k
 rwa [YE] at this

theorem Bqn {X V:List Rat} {e:List Nod} {o:Int} (h:D7 X V e) (h1:1<=X.length) {n:Nat} (hn:68719476736<=n):f50 n (e,o) (vq X) (vq V)=some (vq (Qk X V e)):=by
 have hl:(evs (Ac X) (λ_=>0) (Ac V) e []).length=e.length:=by rw [Ct];simp
 have he:=h.len;unfold f50
 have:=An2 h h1 hn (k0:=λz_3=>(
   ob (Zk n (z_3.length:Int) z_3) λr_4 =>
   some r_4)) n 0 (by omega) (by omega)
 refine Eq.trans this ?_
 have h2:=Aef (n:=n) (l:=evs (Ac X) (λ_=>0) (Ac V) e []) (by omega) h.all_v (k0:=λz_3=>some z_3) n 0 (by omega) (by omega)
 unfold Zk;rw [ZA];have h2:Jw n n _ _ 0 [] _=_:=h2;rw [h2,A0];rfl

theorem Bbf {op:Int}:decide (3<=op/\op<=6)=decide (Aw op>1):=by
 unfold Aw;apply decide_eq_decide.2;split
 . omega
 . split <;> omega

theorem Bla {l:List Rat} {x:Rat}:vq (l++[x])=vq l++[rq x]:=by simp [vq]

theorem Bmd {l:List Q4} {k:Nat} (h:k<l.length):(vq (l.map Q4.v)).getD k (false,[],[])=rq (l.getD k (Q4.cst 0)).v:=by
 rw [Cc (by simpa using h)]
 simp [QJ,QN h]

theorem Ac2 {α:Type} {X V:List Rat} {e:List Nod} {o:Int} (h:D7 X V e) {n:Nat} (hn:68719476736<=n) {F:List Rat} (hF:F=(evs (Ac X) (λ_=>0) (Ac V) e []).map Q4.f) {k0:List Rt->Option α}:∀ (m i:Nat),i<=e.length->e.length<i+m ->
  S0 n m (vq F) (vq V) (vq (List.replicate e.length 0)) (i:Int) e o (vq ((evs (Ac X) (λ_=>0) (Ac V) (e.take i) []).map Q4.v)) k0=k0 (vq (Qk X V e))
 | 0,i,hi,hm=>by omega
 | m+1,i,hi,hm=>by
  have he:=h.len
  have hrec:=λhh=>Ac2 h hn hF (o:=o) (k0:=k0) m (i+1) hh (by omega)
  rw [Bc6];unfold Ag1;rw [QE];by_cases hh:i<e.length
  . have hrec:=hrec (by omega)
    rw [Zn _ _ _ _ hh,YS,QT,XN,Bla] at hrec;obtain ⟨hp,hd⟩:=h.all i hh;have hbad:=h.ok i hh
    have hf:=h.pre (i:=i) (by omega)
    have hv:=h.sv (i:=i) (by omega)
    have hgf:∀ k,k<i->Pm F k=((evs (Ac X) (λ_=>0) (Ac V) (e.take i) []).getD k (Q4.cst 0)).f:=λk hk=>by
     have hl:(evs (Ac X) (λ_=>0) (Ac V) e []).length=e.length:=by rw [Ct];simp
     rw [L5 _ _ _ e hk (by omega),hF]
     unfold Pm
     simp [QJ,QN (show k<(evs (Ac X) (λ_=>0) (Ac V) e []).length by omega)]
    have hlF:F.length=e.length:=by rw [hF,ZA,Ct];simp
    have sF:Sv F 40:=λa ha=>by
     rw [hF] at ha;obtain ⟨q,hq,rfl⟩:=ZK.1 ha;obtain ⟨k,hk,rfl⟩:=Qbs hq;have:=h.fit k
     rwa [QJ,QN hk] at this
    have hlen:(evs (Ac X) (λ_=>0) (Ac V) (e.take i) []).length=i:=by rw [Ct];simp;omega
    rw [QC (by omega),A2 (by simp;omega),QM,sW0 hn,A0]
    dsimp only;generalize hl:evs (Ac X) (λ_=>0) (Ac V) (e.take i) []=l at *;generalize hx:e.getD i (0,0,0,0)=x at *
    have hfin:∀ y:Rat,y=(Ak (Ac X) (λ_=>0) (Ac V) l x).v->gd (decide (((vq (l.map Q4.v)).length+1)*56<=140737488355328)) (S0 n m (vq F) (vq V) (vq (List.replicate e.length 0)) (W ((i:Int)+1)) e o (vq (l.map Q4.v)++[rq y]) k0)=k0 (vq (Qk X V e)):=λy hy=>by
     rw [A2 (by simp;omega),A8 (by omega) (by omega),hy]
     exact hrec
    by_cases h2:x.1=2
    . have hN:=hp.2.1;unfold Fc at hN
      rw [QB (by omega),QC h2] at hN
      have hd2:=hd h2;have vx:=h.vx
      rw [show (x.1==2)=true by rw [h2];rfl,QW,Ba,A2 (by simp;omega),Cc (show x.2.2.2.toNat<V.length by omega),Ho,A0,QR (by omega),QP,Ky,A0,QR (by omega),QP]
      exact hfin (V.getD x.2.2.2.toNat 0) (by unfold Ak;rw [QB (by omega),QC h2];rfl)
    . rw [show (x.1==2)=false by rw [beq_eq_false_iff_ne];exact h2,QP]
      have hq:=(Afk (Ac X) (λ_=>0) (Ac V) (λk=>l.getD k (Q4.cst 0)) x hp.1 h2).2.1;rw [<- A4q] at hq;have hpA:=hp.2.2.1;have hpB:=hp.2.2.2;by_cases h1:x.1=1
      . rw [Ho,A0,QR (by omega),QP,Ky,A0,QR (by omega),QP]
        exact hfin 0 (by unfold Ak;rw [QC h1];rfl)
      . have kA : Aw x.1 > 0 := by
         have:=hp.1;unfold Aw;split
         . omega
         . split <;> omega
        rw [QC kA] at hpA
        have lA:x.2.1.toNat<l.length:=by omega
        have hpart:=B3m (n:=n) (F:=F) (D:=List.replicate e.length 0) (K:=1) (k:=i) hp (.inr (by omega)) (by simp;omega) sF (Bq8 (by omega)) (by omega) (λh6 h0=>hbad ⟨h6,by
         have k2:Aw x.1>1:=by rw [h6];decide
         rw [QC k2] at hpB
         rw [<- hgf _ (by omega)];exact h0⟩) hn
        have pab:(Bu (Pm F) (Pm (List.replicate e.length 0)) x).a=(Bu (λk=>(l.getD k (Q4.cst 0)).f) (λk=>(l.getD k (Q4.cst 0)).v) x).a/\(Aw x.1>1->(Bu (Pm F) (Pm (List.replicate e.length 0)) x).b=(Bu (λk=>(l.getD k (Q4.cst 0)).f) (λk=>(l.getD k (Q4.cst 0)).v) x).b):=by
         have e1:=Bgy (f:=Pm F) (d:=Pm (List.replicate e.length 0)) (d':=λk=>(l.getD k (Q4.cst 0)).v) (n:=x);rw [e1.1,e1.2]
         have gA:=hgf x.2.1.toNat (by omega)
         unfold Bu;dsimp only;by_cases k2:Aw x.1>1
         . rw [QC k2] at hpB
           have gB:=hgf x.2.2.1.toNat (by omega)
           rw [gA,gB];exact ⟨rfl,λ_=>rfl⟩
         . refine ⟨?_,λc=>absurd c k2⟩
           have:x.1=7 \/ x.1=8:=by
            unfold Aw at k2 kA;split at k2
            . omega
            . rename_i q;have:=hp.1;omega
           rcases this with h7 | h8
           . simp only [h7,Int.reduceEq,if_false,if_true]
           . simp only [h8,Int.reduceEq,if_false,if_true,gA]
        obtain ⟨sa,sb⟩:=Az7 (f:=λk=>(l.getD k (Q4.cst 0)).f) (d:=λk=>(l.getD k (Q4.cst 0)).v) (n:=x) hf (λh6 h0=>hbad ⟨h6,h0⟩) (λh8=>by
         have hN:=hp.2.1;unfold Fc at hN
         rw [QB (by omega),QB (by omega),QC h8] at hN;omega)
        have go:∀ b:Bool,b=decide (Aw x.1>1)->(ob (f148 n x (vq F) (vq (List.replicate e.length 0))) λr_11 =>
          gd (decide (0<=x.2.1)&&decide (x.2.1<((vq (l.map Q4.v)).length:Int))) (
           gd (decide (x.2.1.toNat<(vq (l.map Q4.v)).length)) (
            ob (f140 n r_11.1 ((vq (l.map Q4.v)).getD x.2.1.toNat (false,[],[]))) λr_13 =>
            ob (f146 n x.1) λr_14 =>
            bif r_14 then
             gd (decide (0<=x.2.2.1)&&decide (x.2.2.1<((vq (l.map Q4.v)).length:Int))) (
              gd (decide (x.2.2.1.toNat<(vq (l.map Q4.v)).length)) (
               ob (f140 n r_11.2.1 ((vq (l.map Q4.v)).getD x.2.2.1.toNat (false,[],[]))) λr_16 =>
               ob (f138 n r_13 r_16) λr_17 =>
               gd (decide (((vq (l.map Q4.v)).length+1)*56<=140737488355328)) (
                S0 n m (vq F) (vq V) (vq (List.replicate e.length 0)) (W ((i:Int)+1)) e o (vq (l.map Q4.v)++[r_17]) k0)))
            else
             gd (decide (((vq (l.map Q4.v)).length+1)*56<=140737488355328)) (
              S0 n m (vq F) (vq V) (vq (List.replicate e.length 0)) (W ((i:Int)+1)) e o (vq (l.map Q4.v)++[r_13]) k0))))=k0 (vq (Qk X V e)):=by
         intro b hb
         rw [hpart,A0,Ba,ZA,A2 (by simp;omega),A2 (by simp;omega),Bmd lA]
         unfold A4s;dsimp only
         rw [pab.1,H9 sa (hv _) (by omega) hn,A0,Ho,A0,Bbf,QE]
         by_cases k2:Aw x.1>1
         . rw [QC k2] at hpB ⊢
           have lB:x.2.2.1.toNat<l.length:=by omega
           rw [A2 (by simp;omega),A2 (by simp;omega),Bmd lB,pab.2 k2,H9 sb (hv _) (by omega) hn,A0,Tx (A7 sa (hv _)) (A7 sb (hv _)) (by omega) hn,A0]
           have:=hfin _ hq.symm;rw [Ba,ZA] at this;exact this
         . rw [QB k2]
           have hb0:(Bu (λk=>(l.getD k (Q4.cst 0)).f) (λk=>(l.getD k (Q4.cst 0)).v) x).b=0:=by
            refine (Av4 ?_).1
            have:x.1=7 \/ x.1=8:=by
             unfold Aw at k2 kA;split at k2
             . omega
             . rename_i q;have:=hp.1;omega
            rcases this with h7 | h8
            . simp [Cw,h7]
            . simp [Cw,h8]
           have:=hfin ((Bu (λk=>(l.getD k (Q4.cst 0)).f) (λk=>(l.getD k (Q4.cst 0)).v) x).a*(l.getD x.2.1.toNat (Q4.cst 0)).v) (by rw [hq,hb0];grind)
           rw [Ba,ZA] at this;exact this
        have key:=go _ rfl;rw [Ho,A0];by_cases k3:3<=x.1/\x.1<=6
        . rw [QS k3,QW,QW];rw [Ho] at key;rw [QS k3] at key;exact key
        . have h78:x.1=7 \/ x.1=8:=by have:=hp.1;omega
          rw [QR k3,QP,Ky,A0,QS h78,QW];rw [Ho] at key;rw [QR k3] at key;exact key
  . rw [QB (by omega),XS (by omega)];rfl

def Em (e:List Nod) (o:Int) (x v:List Rt):Int:=if 4096<x.length \/ 4096<v.length then 2 else if Gj e o x ≠ 0 then Gj e o x else P5 x v

theorem Bcs {n:Nat} {e:List Nod} {o:Int} {x v:List Rt} (hN:e.length<=1048576) (hn:1048577<=n):f48 n (e,o) x v=(bif (Em e o x v != 0) then some ([],Em e o x v) else ob (f63 n (e,o) x) λr_5=>some (r_5.1,r_5.2)):=by
 unfold f48
 rw [A56 (by simp) hn,A0,Afw hN hn,A0,Avw hn,A0,Gf (by simp) hn,A0,Bbb]
 have:Fw [if decide (4096<x.length \/ 4096<v.length)=true then 2 else 0,Gj e o x,P5 x v]=Em e o x v:=by
  unfold Em Fw Fw Fw;by_cases h1:4096<x.length \/ 4096<v.length
  . simp [h1]
  . simp only [h1,decide_false,if_false,XG,if_true];by_cases h2:Gj e o x=0
    . simp only [h2,if_true,not_true_eq_false,ne_eq,if_false];unfold Fw;split <;> simp_all
    . simp [h2]
 rw [this]

theorem Aux {e:List Nod} {o:Int} {x v:List Rt} (h:Em e o x v=0):Gj e o x=0/\H7 v=true/\v.length=x.length:=by
 unfold Em P5 at h;split at h
 . omega
 . split at h
   . rename_i h2;exact absurd h h2
   . rename_i h2;split at h
     . split at h
       . exact ⟨by simpa using h2,‹_›,‹_›⟩
       . omega
     . omega

theorem Bgr {α:Type} {n:Nat} {e:List Nod} {o:Int} {x v:List Rt} (hN:e.length<=1048576) (hn:1048577<=n) {k:Int->Option α} (hk:∀ c,c ≠ 0->k c=k c) :
  (bif (decide ((x.length:Int)>4096)) then k 2 else bif (decide ((v.length:Int)>4096)) then k 2 else ob (f44 n (e,o) x v) λr_1=>k r_1)=k (Em e o x v):=by
 rw [QE,QE];by_cases h1:4096<x.length
 . have:Em e o x v=2:=by unfold Em;rw [QC (.inl h1)]
   rw [QC (by omega),this]
 . by_cases h2:4096<v.length
   . have:Em e o x v=2:=by unfold Em;rw [QC (.inr h2)]
     rw [QB (by omega),QC (by omega),this]
   . rw [QB (by omega),QB (by omega)]
     have hs:Em e o x v=if Gj e o x ≠ 0 then Gj e o x else P5 x v:=by unfold Em;rw [QB (by omega)]
     unfold f44
     rw [QE,QB (by omega),Avy hN hn,A0]
     by_cases h3:Gj e o x=0
     . rw [h3,ZX,QP,Bhr hn,A0,A0];have hv:=(Wt h3).2.1
       have hw:Ays [x,v]=P5 x v:=by
        unfold Ays P5
        rw [Bbb,QR (by omega),QB (by simp)]
        have:([x,v].all H7)=H7 v:=by simp [hv]
        rw [this]
        cases h4:H7 v with
        | false=>rfl
        | true =>
         simp only [if_true];by_cases h5:v.length=x.length
         . rw [QC h5,QC (by simp [h5])]
         . rw [QB h5,QB (by simp;omega)]
       have hs:Em e o x v=P5 x v:=by rw [hs,h3];rfl
       rw [hs,hw]
     . rw [show (Gj e o x != 0)=true by simpa using h3,QW,A0,hs,QC h3]

theorem Bho {l:List Q4}:l.map fq=vq (l.map Q4.f):=by simp [vq,fq,JJ]

theorem Auq {n:Nat} {e:List Nod} {o:Int} {x v:List Rt} (hN:e.length<=1048576) (hn:68719476736<=n) (hs:Em e o x v=0) :
  ∃ X V:List Rat,x=vq X/\v=vq V/\1<=X.length/\X.length<=4/\o=(e.length:Int)-1/\1<=e.length/\((∃ c,c ≠ 0/\f63 n (e,o) x=some ([],c)/\f88 n (e,o) x=some ([],c)) \/
   (D7 X V e/\f63 n (e,o) x=some (vq ((evs (Ac X) (λ_=>0) (Ac V) e []).map Q4.f),0)/\f88 n (e,o) x=some (vq ((evs (Ac X) (λ_=>0) (Ac V) e []).map Q4.f),0))):=by
 obtain ⟨ha,hvv,hlen⟩:=Aux hs;obtain ⟨ht,hv,hd,hl⟩:=Wt ha;obtain ⟨X,rfl,hX,x1,x4⟩:=B35 hv;obtain ⟨V,rfl,hV,v1,v4⟩:=B35 hvv;rw [Ba] at hd hl;rw [Ba,Ba] at hlen;obtain ⟨hp,e1,e60,eo⟩:=Bar ht hd;refine ⟨X,V,rfl,rfl,x1,x4,eo,e1,?_⟩
 have h103:=Afw (n:=n) (e:=e) (o:=o) (l:=vq X) hN (by omega)
 rw [ha] at h103
 have h104:=Bhb (n:=n) (X:=X) (V:=List.replicate X.length 0) hp e60 (by simp) hn
 have h93:=Bam (n:=n) (o:=o) hp e60 hX hn;rcases Baq (X:=X) (e:=e) with ⟨c,c1,c2,c0⟩ | ⟨L,M,c1,c2,c3,c4,c5⟩
 . left;rw [c1] at h93;rw [c2] at h104
   have hc:(c != 0)=true:=by simpa using c0
   refine ⟨c,c0,?_,h93⟩;unfold f63;rw [h103,A0,ZX,QP,h104,A0];dsimp only;rw [hc,QW]
 . right;have htv:=D7.of hp e60 hlen hX hV c1;rw [c1] at h93;rw [c2] at h104
   have eL:L=evs (Ac X) (λ_=>0) (λ_=>0) e []:=(A6e e [] L (λk hk=>by simp at hk) c1).2
   have e52:f63 n (e,o) (vq X)=some (M.map fq,0):=by
    unfold f63;rw [h103,A0,ZX,QP,h104,A0];dsimp only
    rw [ZX,QP,ZA,Bks (by omega) c5 (by omega),A0]
   have same:L.map fq=vq ((evs (Ac X) (λ_=>0) (Ac V) e []).map Q4.f):=by
    rw [<- Bho]
    refine B4g (by rw [eL,Ct,Ct]) (λk=>?_)
    rw [eL];exact A4p _ _ _ _ _ e k
   exact ⟨htv,by rw [e52,<- c4,same],by rw [h93];show some (L.map fq,(0:Int))=_;rw [same]⟩

def rA (A:Nat) (g:Nat->Rat):List Rt:=(List.range A).map λi=>rq (g i)

theorem Ab (A:Nat) (g:Nat->Rat):(rA A g).length=A:=by simp [rA]

theorem Aq {A i:Nat} {g:Nat->Rat} (h:i<A):(rA A g).getD i (false,[],[])=rq (g i):=by
 simp [rA,QJ,h]

theorem Gc (i:Nat) (g:Nat->Rat):rA i g++[rq (g i)]=rA (i+1) g:=by simp [rA,Qas]

theorem Oa {A:Nat} {g:Nat->Rat} (h:0<A):(!(rA A g).isEmpty)=true:=by
 cases A with
 | zero=>omega
 | succ A=>simp [rA,Qas]

theorem I6 {A:Nat} {g h:Nat->Rat} (e:∀ i,i<A->g i=h i):rA A g=rA A h:=by
 unfold rA
 exact ZE λi hi=>by rw [e i (XP.1 hi)]

theorem Av3 (A:Nat):rA A (λ_=>0)=vq (List.replicate A 0):=by
 unfold rA vq;rw [List.map_replicate];apply Qbg
 . simp
 . intro i h1 h2;simp

theorem Anq {A k:Nat} {g:Nat->Rat} {y:Rat}:(rA A g).set k (rq y)=rA A (λi=>if k=i then y else g i):=by
 apply Qbg
 . simp [rA]
 . intro i h1 h2;simp only [rA,Qbk,ZA,JI] at h1;rw [List.getElem_set];simp only [rA,List.getElem_map,List.getElem_range];by_cases e:k=i
   . rw [QC e,QC e]
   . rw [QB e,QB e]

def gn (A:Nat) (f v:Rat) (a:Nat->Rat):Jn:=(rq f,rA A a,(),rq v)

def gc (A:Nat) (f v:Rat) (a c:Nat->Rat):Jc:=(rq f,rA A a,rA A c,rq v)

theorem Azo {n A:Nat} (hA:A<=100) (hn:68719476736<=n):f64 n (A:Int)=some (rA A λ_=>0):=by
 have loop:∀ {α:Type} {k0:List Rt->Option α} (m i:Nat),i<=A->A<i+m->Ad4 n m (A:Int) (i:Int) (rA i λ_=>0) k0=k0 (rA A λ_=>0):=by
  intro α k0 m
  induction m with
  | zero=>intro i h1 h2;omega
  | succ m ih =>
   intro i h1 h2;rw [Bck];unfold Agi;rw [QE];by_cases h:i<A
   . rw [QC (by omega),iW0 hn,A0,A2 (by rw [Ab];simp;omega),A8 (by omega) (by omega)]
     rw [show rA i (λ_=>0)++[rq 0]=rA (i+1) (λ_=>0) from Gc i _]
     exact ih (i+1) (by omega) (by omega)
   . obtain rfl:i=A:=by omega
     rw [QB (by omega)]
 unfold f64
 exact loop (k0:=λz_2=>some z_2) n 0 (by omega) (by omega)

theorem Acq {n A:Nat} (hA:A<=100) (hn:68719476736<=n):Pe n (A:Int)=some (rA A λ_=>0):=by
 rw [Bbv (by omega) (by omega),Av3]

theorem A2c {α:Type} {n A L:Nat} {f v g w:Rat} {a b c d a2 c2:Nat->Rat} (sa:∀ i,Sz (a i) L) (sb:∀ i,Sz (b i) L) (sc:∀ i,Sz (c i) L) (sd:∀ i,Sz (d i) L) (hA:A<=100) (hL:L<=100000) (hn:68719476736<=n) (ha:∀ i,a2 i=a i+b i) (hc:∀ i,c2 i=c i+d i) {R S:Rt} {k0:Bool->Bool->Bool->List Int->List Int->Bool->List Int->List Int->List Rt->Option α}:∀ (m i:Nat),i<=A->A<i+m ->
  A5u n m (rA A a) (A:Int) (i:Int) (rq f).1 (rq f).2.1 (rq f).2.2 (rA A a) (rq v).1 (rq v).2.1 (rq v).2.2 (rq g).1 (rq g).2.1 (rq g).2.2 (rA A b) (rq w).1 (rq w).2.1 (rq w).2.2 false false R.1 R.2.1 R.2.2 S.1 S.2.1 S.2.2 (rA i a2) k0=k0 false false R.1 R.2.1 R.2.2 S.1 S.2.1 S.2.2 (rA A a2)
 | 0,i,hi,hm=>by omega
 | m+1,i,hi,hm=>by
  rw [B7r];unfold Aa4;rw [QE];by_cases h:i<A
  . rw [QC (by omega),Ab,A2 (by simp;omega),QM,Aq h]
    dsimp only
    rw [Ab,A2 (by simp;omega),Aq h,Dz (sa i) (sb i) (by omega) hn,A0,A2 (by rw [Ab];simp;omega),A8 (by omega) (by omega),<- ha i,Gc]
    exact A2c (f:=f) (v:=v) (g:=g) (w:=w) (a:=a) (b:=b) (c:=c) (d:=d) (a2:=a2) (c2:=c2) sa sb sc sd hA hL hn ha hc m (i+1) (by omega) (by omega)
  . obtain rfl:i=A:=by omega
    rw [QB (by omega)]

theorem Bhl {n A L:Nat} {f v g w:Rat} {a b c d:Nat->Rat} (sf:Sz f L) (sg:Sz g L) (sv:Sz v L) (sw:Sz w L) (sa:∀ i,Sz (a i) L) (sb:∀ i,Sz (b i) L) (sc:∀ i,Sz (c i) L) (sd:∀ i,Sz (d i) L) (hA:A<=100) (hL:L<=100000) (hn:68719476736<=n) :
  f165 n (gn A f v a) (gn A g w b)=some (gn A (f+g) (v+w) (λi=>a i+b i)):=by
 unfold f165 gn;dsimp only
 rw [Dz sf sg (by omega) hn,A0,Dz sv sw (by omega) hn,A0,Ab,QE]
 by_cases h:0<A
 . rw [QC (by omega),A2 (by simp;omega),Aq h,Ab,A2 (by simp;omega),Aq h,Dz (sa 0) (sb 0) (by omega) hn,A0]
   have hl:=A2c (n:=n) (A:=A) (f:=f) (v:=v) (g:=g) (w:=w) sa sb sc sd hA hL hn (a2:=(λi=>a i+b i)) (c2:=(λi=>c i+d i)) (λ_=>rfl) (λ_=>rfl) (R:=rq (f+g)) (S:=rq (v+w))
    (k0:=λz_9 z_10 z_11 z_12 z_13 z_14 z_15 z_16 z_17=>(some (((z_11,z_12,z_13),z_17,(),z_14,z_15,z_16):Jn))) n 1 (by omega) (by omega)
   exact hl
 . obtain rfl:A=0:=by omega
   rw [QB (by omega)];rfl

theorem A0l {α:Type} {n A L:Nat} {f v g w:Rat} {a b c d a2 c2:Nat->Rat} (sf:Sz f L) (sg:Sz g L) (sv:Sz v L) (sw:Sz w L) (sa:∀ i,Sz (a i) L) (sb:∀ i,Sz (b i) L) (sc:∀ i,Sz (c i) L) (sd:∀ i,Sz (d i) L) (hA:A<=100) (hL:L<=100000) (hn:68719476736<=n) (ha:∀ i,a2 i=a i*g+f*b i) (hc:∀ i,c2 i=c i*g+a i*w+v*b i+f*d i) {R S:Rt} {k0:Bool->Bool->Bool->List Int->List Int->Bool->List Int->List Int->List Rt->Option α}:∀ (m i:Nat),i<=A->A<i+m ->
  A5t n m (rA A a) (A:Int) (i:Int) (rq f).1 (rq f).2.1 (rq f).2.2 (rA A a) (rq v).1 (rq v).2.1 (rq v).2.2 (rq g).1 (rq g).2.1 (rq g).2.2 (rA A b) (rq w).1 (rq w).2.1 (rq w).2.2 false false R.1 R.2.1 R.2.2 S.1 S.2.1 S.2.2 (rA i a2) k0=k0 false false R.1 R.2.1 R.2.2 S.1 S.2.1 S.2.2 (rA A a2)
 | 0,i,hi,hm=>by omega
 | m+1,i,hi,hm=>by
  rw [B7m];unfold Aa1;rw [QE];by_cases h:i<A
  . rw [QC (by omega),Ab,A2 (by simp;omega),QM,Aq h]
    dsimp only
    have tm:∀ {x y:Rat},Sz x L->Sz y L->f162 n ((rq x).1,(rq x).2.1,(rq x).2.2) (rq y)=some (rq (x*y)):=λhx hy=>Bf hx hy (by omega) hn
    have tm2:∀ {x y:Rat},Sz x L->Sz y L->f162 n (rq x) ((rq y).1,(rq y).2.1,(rq y).2.2)=some (rq (x*y)):=λhx hy=>Bf hx hy (by omega) hn
    have tm0:∀ {x y:Rat},Sz x L->Sz y L->f162 n (rq x) (rq y)=some (rq (x*y)):=λhx hy=>Bf hx hy (by omega) hn
    rw [Ab,A2 (by simp;omega),Aq h,tm2 (sa i) sg,A0,tm sf (sb i),A0,Dz (A7 (sa i) sg) (A7 sf (sb i)) (by omega) hn,A0,A2 (by rw [Ab];simp;omega),A8 (by omega) (by omega),<- ha i,Gc]
    exact A0l (c:=c) (d:=d) (c2:=c2) sf sg sv sw sa sb sc sd hA hL hn ha hc m (i+1) (by omega) (by omega)
  . obtain rfl:i=A:=by omega
    rw [QB (by omega)]

theorem Bbw {n A L:Nat} {f v g w:Rat} {a b c d:Nat->Rat} (sf:Sz f L) (sg:Sz g L) (sv:Sz v L) (sw:Sz w L) (sa:∀ i,Sz (a i) L) (sb:∀ i,Sz (b i) L) (sc:∀ i,Sz (c i) L) (sd:∀ i,Sz (d i) L) (hA:A<=100) (hL:L<=100000) (hn:68719476736<=n) :
  f167 n (gn A f v a) (gn A g w b)=some (gn A (f*g) (v*g+f*w) (λi=>a i*g+f*b i)):=by
 have tm0:∀ {x y:Rat},Sz x L->Sz y L->f162 n (rq x) (rq y)=some (rq (x*y)):=λhx hy=>Bf hx hy (by omega) hn
 unfold f167 gn;dsimp only
 rw [tm0 sf sg,A0,tm0 sv sg,A0,tm0 sf sw,A0,Dz (A7 sv sg) (A7 sf sw) (by omega) hn,A0,Ab,QE]
 by_cases h:0<A
 . rw [QC (by omega),A2 (by simp;omega),Aq h,Ab,A2 (by simp;omega),Aq h,tm0 (sa 0) sg,A0,tm0 sf (sb 0),A0,Dz (A7 (sa 0) sg) (A7 sf (sb 0)) (by omega) hn,A0]
   have hl:=A0l (n:=n) (A:=A) sf sg sv sw sa sb sc sd hA hL hn (a2:=(λi=>a i*g+f*b i)) (c2:=(λi=>c i*g+a i*w+v*b i+f*d i)) (λ_=>rfl) (λ_=>rfl) (R:=rq (f*g)) (S:=rq (v*g+f*w))
    (k0:=λz_9 z_10 z_11 z_12 z_13 z_14 z_15 z_16 z_17=>(some (((z_11,z_12,z_13),z_17,(),z_14,z_15,z_16):Jn))) n 1 (by omega) (by omega)
   exact hl
 . obtain rfl:A=0:=by omega
   rw [QB (by omega)];rfl

theorem Acs {α:Type} {n A L:Nat} {f v k:Rat} {a c a2 c2:Nat->Rat} {s4:(Bool × List Int × List Int × List Rt × Unit × Bool × List Int × List Int) × Rt} (sk:Sz k L) (sa:∀ i,Sz (a i) L) (sc:∀ i,Sz (c i) L) (hA:A<=100) (hL:L<=100000) (hn:68719476736<=n) (ha:∀ i,a2 i=a i*k) (hc:∀ i,c2 i=c i*k) {R S:Rt} {k0:Bool->Bool->Bool->List Int->List Int->Bool->List Int->List Int->List Rt->Option α}:∀ (m i:Nat),i<=A->A<i+m ->
  Hy n m (rq k) s4 (rA A a) (A:Int) (i:Int) (rq f).1 (rq f).2.1 (rq f).2.2 (rA A a) (rq v).1 (rq v).2.1 (rq v).2.2 false false R.1 R.2.1 R.2.2 S.1 S.2.1 S.2.2 (rA i a2) k0=k0 false false R.1 R.2.1 R.2.2 S.1 S.2.1 S.2.2 (rA A a2)
 | 0,i,hi,hm=>by omega
 | m+1,i,hi,hm=>by
  rw [A6t];unfold Kj;rw [QE];by_cases h:i<A
  . rw [QC (by omega),Ab,A2 (by simp;omega),QM,Aq h]
    dsimp only
    have e221:f208 n (rq (a i)) (rq k)=some (rq (a i*k)):=by unfold f208;rw [Bf (sa i) sk (by omega) hn,A0]
    rw [e221,A0,A2 (by rw [Ab];simp;omega),A8 (by omega) (by omega),<- ha i,Gc]
    exact Acs (f:=f) (v:=v) (c:=c) (c2:=c2) sk sa sc hA hL hn ha hc m (i+1) (by omega) (by omega)
  . obtain rfl:i=A:=by omega
    rw [QB (by omega)]

theorem Bqr {n A L:Nat} {f v k:Rat} {a c:Nat->Rat} (sf:Sz f L) (sv:Sz v L) (sk:Sz k L) (sa:∀ i,Sz (a i) L) (sc:∀ i,Sz (c i) L) (hA:A<=100) (hL:L<=100000) (hn:68719476736<=n) :
  f166 n (gn A f v a) (rq k)=some (gn A (f*k) (v*k) (λi=>a i*k)):=by
 have e221:f208 n (rq (a 0)) (rq k)=some (rq (a 0*k)):=by unfold f208;rw [Bf (sa 0) sk (by omega) hn,A0]
 unfold f166 gn;dsimp only
 rw [Bf sf sk (by omega) hn,A0,Bf sv sk (by omega) hn,A0]
 unfold Sl;dsimp only;rw [Ab,QE];by_cases h:0<A
 . rw [QC (by omega),A2 (by simp;omega),Aq h,e221,A0]
   have hl:=Acs (n:=n) (A:=A) (f:=f) (v:=v) (s4:=(((rq f).1,(rq f).2.1,(rq f).2.2,rA A a,(),(rq v).1,(rq v).2.1,(rq v).2.2),rq k)) sk sa sc hA hL hn (a2:=(λi=>a i*k)) (c2:=(λi=>c i*k)) (λ_=>rfl) (λ_=>rfl) (R:=rq (f*k)) (S:=rq (v*k))
    (k0:=λz_9 z_10 z_11 z_12 z_13 z_14 z_15 z_16 z_17=>(some (((z_11,z_12,z_13),z_17,(),z_14,z_15,z_16):Jn))) n 1 (by omega) (by omega)
   exact ZY (λz=>ob z λr_3=>some r_3) hl
 . obtain rfl:A=0:=by omega
   rw [QB (by omega),A0];rfl

theorem A0m {α:Type} {n A L:Nat} {f v d e:Rat} {a c a2 c2:Nat->Rat} {s4:Rt × (Bool × List Int × List Int × List Rt × Unit × Bool × List Int × List Int) × Rt} (sd:Sz d L) (se:Sz e L) (sv:Sz v L) (sa:∀ i,Sz (a i) L) (sc:∀ i,Sz (c i) L) (hA:A<=100) (hL:L<=100000) (hn:68719476736<=n) (ha:∀ i,a2 i=d*a i) (hc:∀ i,c2 i=e*a i*v+d*c i) {R S:Rt} {k0:Bool->Bool->Bool->List Int->List Int->Bool->List Int->List Int->List Rt->Option α}:∀ (m i:Nat),i<=A->A<i+m ->
  Hx n m (rq d) s4 (rA A a) (A:Int) (i:Int) (rq f).1 (rq f).2.1 (rq f).2.2 (rA A a) (rq v).1 (rq v).2.1 (rq v).2.2 false false R.1 R.2.1 R.2.2 S.1 S.2.1 S.2.2 (rA i a2) k0=k0 false false R.1 R.2.1 R.2.2 S.1 S.2.1 S.2.2 (rA A a2)
 | 0,i,hi,hm=>by omega
 | m+1,i,hi,hm=>by
  rw [A6r];unfold Kg;rw [QE];by_cases h:i<A
  . rw [QC (by omega),Ab,A2 (by simp;omega),QM,Aq h]
    dsimp only
    have e232:f221 n (rq (a i)) (rq d)=some (rq (d*a i)):=by unfold f221;rw [Bf sd (sa i) (by omega) hn,A0]
    rw [e232,A0,A2 (by rw [Ab];simp;omega),A8 (by omega) (by omega),<- ha i,Gc]
    exact A0m (f:=f) (c:=c) (c2:=c2) sd se sv sa sc hA hL hn ha hc m (i+1) (by omega) (by omega)
  . obtain rfl:i=A:=by omega
    rw [QB (by omega)]

theorem Aop {n A L:Nat} {f v g d e:Rat} {a c:Nat->Rat} (sv:Sz v L) (sd:Sz d L) (se:Sz e L) (sa:∀ i,Sz (a i) L) (sc:∀ i,Sz (c i) L) (hA:A<=100) (hL:L<=100000) (hn:68719476736<=n) :
  f210 n (gn A f v a) (rq g) (rq d) (rq e)=some (gn A g (d*v) (λi=>d*a i)):=by
 have e232:f221 n (rq (a 0)) (rq d)=some (rq (d*a 0)):=by unfold f221;rw [Bf sd (sa 0) (by omega) hn,A0]
 unfold f210 gn;dsimp only
 rw [Bf sd sv (by omega) hn,A0]
 unfold Sf;dsimp only;rw [Ab,QE];by_cases h:0<A
 . rw [QC (by omega),A2 (by simp;omega),Aq h,e232,A0]
   have hl:=A0m (n:=n) (A:=A) (f:=f) (s4:=(rq e,((rq f).1,(rq f).2.1,(rq f).2.2,rA A a,(),rq v),rq d)) sd se sv sa sc hA hL hn (a2:=(λi=>d*a i)) (c2:=(λi=>e*a i*v+d*c i)) (λ_=>rfl) (λ_=>rfl) (R:=rq g) (S:=rq (d*v))
    (k0:=λz_9 z_10 z_11 z_12 z_13 z_14 z_15 z_16 z_17=>(some (((z_11,z_12,z_13),z_17,(),z_14,z_15,z_16):Jn))) n 1 (by omega) (by omega)
   exact ZY (λz=>ob z λr_2=>some r_2) hl
 . obtain rfl:A=0:=by omega
   rw [QB (by omega),A0];rfl

theorem A2e {α:Type} {n A L:Nat} {f v g w:Rat} {a b c d a2 c2:Nat->Rat} (sa:∀ i,Sz (a i) L) (sb:∀ i,Sz (b i) L) (sc:∀ i,Sz (c i) L) (sd:∀ i,Sz (d i) L) (hA:A<=100) (hL:L<=100000) (hn:68719476736<=n) (ha:∀ i,a2 i=a i+b i) (hc:∀ i,c2 i=c i+d i) {R S:Rt} {k0:Bool->Bool->Bool->List Int->List Int->Bool->List Int->List Int->List Rt->List Rt->Option α}:∀ (m i:Nat),i<=A->A<i+m ->
  Yu n m (rA A a) (A:Int) (i:Int) (rq f).1 (rq f).2.1 (rq f).2.2 (rA A a) (rA A c) (rq v).1 (rq v).2.1 (rq v).2.2 (rq g).1 (rq g).2.1 (rq g).2.2 (rA A b) (rA A d) (rq w).1 (rq w).2.1 (rq w).2.2 false false R.1 R.2.1 R.2.2 S.1 S.2.1 S.2.2 (rA i a2) (rA i c2) k0=k0 false false R.1 R.2.1 R.2.2 S.1 S.2.1 S.2.2 (rA A a2) (rA A c2)
 | 0,i,hi,hm=>by omega
 | m+1,i,hi,hm=>by
  rw [B1j];unfold A3c;rw [QE];by_cases h:i<A
  . rw [QC (by omega),Ab,A2 (by simp;omega),QM,Aq h]
    dsimp only
    rw [Ab,A2 (by simp;omega),Aq h,Dz (sa i) (sb i) (by omega) hn,A0,A2 (by rw [Ab];simp;omega),Oa (by omega),Hm,Ab,A2 (by simp;omega),Aq h,Ab,A2 (by simp;omega),Aq h,Dz (sc i) (sd i) (by omega) hn,A0,A2 (by rw [Ab];simp;omega),A8 (by omega) (by omega),<- ha i,<- hc i,Gc,Gc]
    exact A2e (f:=f) (v:=v) (g:=g) (w:=w) (a:=a) (b:=b) (c:=c) (d:=d) (a2:=a2) (c2:=c2) sa sb sc sd hA hL hn ha hc m (i+1) (by omega) (by omega)
  . obtain rfl:i=A:=by omega
    rw [QB (by omega)]

theorem Bhm {n A L:Nat} {f v g w:Rat} {a b c d:Nat->Rat} (sf:Sz f L) (sg:Sz g L) (sv:Sz v L) (sw:Sz w L) (sa:∀ i,Sz (a i) L) (sb:∀ i,Sz (b i) L) (sc:∀ i,Sz (c i) L) (sd:∀ i,Sz (d i) L) (hA:A<=100) (hL:L<=100000) (hn:68719476736<=n) :
  G6 n (gc A f v a c) (gc A g w b d)=some (gc A (f+g) (v+w) (λi=>a i+b i) (λi=>c i+d i)):=by
 unfold G6 gc;dsimp only
 rw [Dz sf sg (by omega) hn,A0,Dz sv sw (by omega) hn,A0,Ab,QE]
 by_cases h:0<A
 . rw [QC (by omega),A2 (by simp;omega),Aq h,Ab,A2 (by simp;omega),Aq h,Dz (sa 0) (sb 0) (by omega) hn,A0,Oa h,Hm,Ab,A2 (by simp;omega),Aq h,Ab,A2 (by simp;omega),Aq h,Dz (sc 0) (sd 0) (by omega) hn,A0]
   have hl:=A2e (n:=n) (A:=A) (f:=f) (v:=v) (g:=g) (w:=w) sa sb sc sd hA hL hn (a2:=(λi=>a i+b i)) (c2:=(λi=>c i+d i)) (λ_=>rfl) (λ_=>rfl) (R:=rq (f+g)) (S:=rq (v+w))
    (k0:=λz_9 z_10 z_11 z_12 z_13 z_14 z_15 z_16 z_17 z_18=>(some (((z_11,z_12,z_13),z_17,z_18,z_14,z_15,z_16):Jc))) n 1 (by omega) (by omega)
   exact hl
 . obtain rfl:A=0:=by omega
   rw [QB (by omega)];rfl

theorem A0n {α:Type} {n A L:Nat} {f v g w:Rat} {a b c d a2 c2:Nat->Rat} (sf:Sz f L) (sg:Sz g L) (sv:Sz v L) (sw:Sz w L) (sa:∀ i,Sz (a i) L) (sb:∀ i,Sz (b i) L) (sc:∀ i,Sz (c i) L) (sd:∀ i,Sz (d i) L) (hA:A<=100) (hL:L<=100000) (hn:68719476736<=n) (ha:∀ i,a2 i=a i*g+f*b i) (hc:∀ i,c2 i=c i*g+a i*w+v*b i+f*d i) {R S:Rt} {k0:Bool->Bool->Bool->List Int->List Int->Bool->List Int->List Int->List Rt->List Rt->Option α}:∀ (m i:Nat),i<=A->A<i+m ->
  Ys n m (rA A a) (A:Int) (i:Int) (rq f).1 (rq f).2.1 (rq f).2.2 (rA A a) (rA A c) (rq v).1 (rq v).2.1 (rq v).2.2 (rq g).1 (rq g).2.1 (rq g).2.2 (rA A b) (rA A d) (rq w).1 (rq w).2.1 (rq w).2.2 false false R.1 R.2.1 R.2.2 S.1 S.2.1 S.2.2 (rA i a2) (rA i c2) k0=k0 false false R.1 R.2.1 R.2.2 S.1 S.2.1 S.2.2 (rA A a2) (rA A c2)
 | 0,i,hi,hm=>by omega
 | m+1,i,hi,hm=>by
  rw [B1e];unfold A39;rw [QE];by_cases h:i<A
  . rw [QC (by omega),Ab,A2 (by simp;omega),QM,Aq h]
    dsimp only
    have tm:∀ {x y:Rat},Sz x L->Sz y L->f162 n ((rq x).1,(rq x).2.1,(rq x).2.2) (rq y)=some (rq (x*y)):=λhx hy=>Bf hx hy (by omega) hn
    have tm2:∀ {x y:Rat},Sz x L->Sz y L->f162 n (rq x) ((rq y).1,(rq y).2.1,(rq y).2.2)=some (rq (x*y)):=λhx hy=>Bf hx hy (by omega) hn
    have tm0:∀ {x y:Rat},Sz x L->Sz y L->f162 n (rq x) (rq y)=some (rq (x*y)):=λhx hy=>Bf hx hy (by omega) hn
    rw [Ab,A2 (by simp;omega),Aq h,tm2 (sa i) sg,A0,tm sf (sb i),A0,Dz (A7 (sa i) sg) (A7 sf (sb i)) (by omega) hn,A0,A2 (by rw [Ab];simp;omega),Oa (by omega),Hm,Ab,A2 (by simp;omega),Aq h,tm2 (sc i) sg,A0,tm2 (sa i) sw,A0,Dz (A7 (sc i) sg) (A7 (sa i) sw) (by omega) hn,A0,tm sv (sb i),A0,Dz (Cl (A7 (sc i) sg) (A7 (sa i) sw)) (A7 sv (sb i)) (by omega) hn,A0,Ab,A2 (by simp;omega),Aq h,tm sf (sd i),A0,Dz (Cl (Cl (A7 (sc i) sg) (A7 (sa i) sw)) (A7 sv (sb i))) (A7 sf (sd i)) (by omega) hn,A0,A2 (by rw [Ab];simp;omega),A8 (by omega) (by omega),<- ha i,<- hc i,Gc,Gc]
    exact A0n (c:=c) (d:=d) (c2:=c2) sf sg sv sw sa sb sc sd hA hL hn ha hc m (i+1) (by omega) (by omega)
  . obtain rfl:i=A:=by omega
    rw [QB (by omega)]

theorem Bbx {n A L:Nat} {f v g w:Rat} {a b c d:Nat->Rat} (sf:Sz f L) (sg:Sz g L) (sv:Sz v L) (sw:Sz w L) (sa:∀ i,Sz (a i) L) (sb:∀ i,Sz (b i) L) (sc:∀ i,Sz (c i) L) (sd:∀ i,Sz (d i) L) (hA:A<=100) (hL:L<=100000) (hn:68719476736<=n) :
  G4 n (gc A f v a c) (gc A g w b d)=some (gc A (f*g) (v*g+f*w) (λi=>a i*g+f*b i) (λi=>c i*g+a i*w+v*b i+f*d i)):=by
 have tm0:∀ {x y:Rat},Sz x L->Sz y L->f162 n (rq x) (rq y)=some (rq (x*y)):=λhx hy=>Bf hx hy (by omega) hn
 unfold G4 gc;dsimp only
 rw [tm0 sf sg,A0,tm0 sv sg,A0,tm0 sf sw,A0,Dz (A7 sv sg) (A7 sf sw) (by omega) hn,A0,Ab,QE]
 by_cases h:0<A
 . rw [QC (by omega),A2 (by simp;omega),Aq h,Ab,A2 (by simp;omega),Aq h,tm0 (sa 0) sg,A0,tm0 sf (sb 0),A0,Dz (A7 (sa 0) sg) (A7 sf (sb 0)) (by omega) hn,A0,Oa h,Hm,Ab,A2 (by simp;omega),Aq h,tm0 (sc 0) sg,A0,tm0 (sa 0) sw,A0,Dz (A7 (sc 0) sg) (A7 (sa 0) sw) (by omega) hn,A0,tm0 sv (sb 0),A0,Dz (Cl (A7 (sc 0) sg) (A7 (sa 0) sw)) (A7 sv (sb 0)) (by omega) hn,A0,Ab,A2 (by simp;omega),Aq h,tm0 sf (sd 0),A0,Dz (Cl (Cl (A7 (sc 0) sg) (A7 (sa 0) sw)) (A7 sv (sb 0))) (A7 sf (sd 0)) (by omega) hn,A0]
   have hl:=A0n (n:=n) (A:=A) sf sg sv sw sa sb sc sd hA hL hn (a2:=(λi=>a i*g+f*b i)) (c2:=(λi=>c i*g+a i*w+v*b i+f*d i)) (λ_=>rfl) (λ_=>rfl) (R:=rq (f*g)) (S:=rq (v*g+f*w))
    (k0:=λz_9 z_10 z_11 z_12 z_13 z_14 z_15 z_16 z_17 z_18=>(some (((z_11,z_12,z_13),z_17,z_18,z_14,z_15,z_16):Jc))) n 1 (by omega) (by omega)
   exact hl
 . obtain rfl:A=0:=by omega
   rw [QB (by omega)];rfl

theorem Acu {α:Type} {n A L:Nat} {f v k:Rat} {a c a2 c2:Nat->Rat} {s4:(Bool × List Int × List Int × List Rt × List Rt × Bool × List Int × List Int) × Rt} (sk:Sz k L) (sa:∀ i,Sz (a i) L) (sc:∀ i,Sz (c i) L) (h4:s4.1.2.2.2.2.1=rA A c/\s4.2=rq k) (hA:A<=100) (hL:L<=100000) (hn:68719476736<=n) (ha:∀ i,a2 i=a i*k) (hc:∀ i,c2 i=c i*k) {R S:Rt} {k0:Bool->Bool->Bool->List Int->List Int->Bool->List Int->List Int->List Rt->List Rt->Option α}:∀ (m i:Nat),i<=A->A<i+m ->
  Gv n m (rq k) s4 (rA A a) (A:Int) (i:Int) (rq f).1 (rq f).2.1 (rq f).2.2 (rA A a) (rA A c) (rq v).1 (rq v).2.1 (rq v).2.2 false false R.1 R.2.1 R.2.2 S.1 S.2.1 S.2.2 (rA i a2) (rA i c2) k0=k0 false false R.1 R.2.1 R.2.2 S.1 S.2.1 S.2.2 (rA A a2) (rA A c2)
 | 0,i,hi,hm=>by omega
 | m+1,i,hi,hm=>by
  rw [A2y];unfold Je;rw [QE];by_cases h:i<A
  . rw [QC (by omega),Ab,A2 (by simp;omega),QM,Aq h]
    dsimp only
    have e221:f208 n (rq (a i)) (rq k)=some (rq (a i*k)):=by unfold f208;rw [Bf (sa i) sk (by omega) hn,A0]
    have e222:f209 n (i:Int) s4.1 s4.2=some (rq (c i*k)):=by
     unfold f209;rw [h4.1,h4.2];dsimp only
     rw [Ab,A2 (by simp;omega),QM,Aq h,Bf (sc i) sk (by omega) hn,A0]
    rw [e221,A0,A2 (by rw [Ab];simp;omega),Oa (by omega),Hm,e222,A0,A2 (by rw [Ab];simp;omega),A8 (by omega) (by omega),<- ha i,<- hc i,Gc,Gc]
    exact Acu (f:=f) (v:=v) (c:=c) (c2:=c2) sk sa sc h4 hA hL hn ha hc m (i+1) (by omega) (by omega)
  . obtain rfl:i=A:=by omega
    rw [QB (by omega)]

theorem Bqs {n A L:Nat} {f v k:Rat} {a c:Nat->Rat} (sf:Sz f L) (sv:Sz v L) (sk:Sz k L) (sa:∀ i,Sz (a i) L) (sc:∀ i,Sz (c i) L) (hA:A<=100) (hL:L<=100000) (hn:68719476736<=n) :
  G5 n (gc A f v a c) (rq k)=some (gc A (f*k) (v*k) (λi=>a i*k) (λi=>c i*k)):=by
 have e221:f208 n (rq (a 0)) (rq k)=some (rq (a 0*k)):=by unfold f208;rw [Bf (sa 0) sk (by omega) hn,A0]
 unfold G5 gc;dsimp only
 rw [Bf sf sk (by omega) hn,A0,Bf sv sk (by omega) hn,A0]
 unfold Pg;dsimp only;rw [Ab,QE];by_cases h:0<A
 . have e222 : f209 n 0 ((rq f).1, (rq f).2.1, (rq f).2.2, rA A a, rA A c, (rq v).1, (rq v).2.1, (rq v).2.2) (rq k) = some (rq (c 0 * k)) := by
    unfold f209;dsimp only
    rw [Ab,A2 (by simp;omega),show Int.toNat 0=0 from rfl,Aq h,Bf (sc 0) sk (by omega) hn,A0]
   rw [QC (by omega),A2 (by simp;omega),Aq h,e221,A0,Oa h,Hm,e222,A0]
   have hl:=Acu (n:=n) (A:=A) (f:=f) (v:=v) (s4:=(((rq f).1,(rq f).2.1,(rq f).2.2,rA A a,rA A c,(rq v).1,(rq v).2.1,(rq v).2.2),rq k)) sk sa sc ⟨rfl,rfl⟩ hA hL hn (a2:=(λi=>a i*k)) (c2:=(λi=>c i*k)) (λ_=>rfl) (λ_=>rfl) (R:=rq (f*k)) (S:=rq (v*k))
    (k0:=λz_9 z_10 z_11 z_12 z_13 z_14 z_15 z_16 z_17 z_18=>(some (((z_11,z_12,z_13),z_17,z_18,z_14,z_15,z_16):Jc))) n 1 (by omega) (by omega)
   exact ZY (λz=>ob z λr_3=>some r_3) hl
 . obtain rfl:A=0:=by omega
   rw [QB (by omega),A0];rfl

theorem A0o {α:Type} {n A L:Nat} {f v d e:Rat} {a c a2 c2:Nat->Rat} {s4:Rt × (Bool × List Int × List Int × List Rt × List Rt × Bool × List Int × List Int) × Rt} (sd:Sz d L) (se:Sz e L) (sv:Sz v L) (sa:∀ i,Sz (a i) L) (sc:∀ i,Sz (c i) L) (h4:s4.1=rq e/\s4.2.1.2.2.2.1=rA A a/\s4.2.1.2.2.2.2.1=rA A c/\s4.2.1.2.2.2.2.2=rq v/\s4.2.2=rq d) (hA:A<=100) (hL:L<=100000) (hn:68719476736<=n) (ha:∀ i,a2 i=d*a i) (hc:∀ i,c2 i=e*a i*v+d*c i) {R S:Rt} {k0:Bool->Bool->Bool->List Int->List Int->Bool->List Int->List Int->List Rt->List Rt->Option α}:∀ (m i:Nat),i<=A->A<i+m ->
  Gt n m (rq d) s4 (rA A a) (A:Int) (i:Int) (rq f).1 (rq f).2.1 (rq f).2.2 (rA A a) (rA A c) (rq v).1 (rq v).2.1 (rq v).2.2 false false R.1 R.2.1 R.2.2 S.1 S.2.1 S.2.2 (rA i a2) (rA i c2) k0=k0 false false R.1 R.2.1 R.2.2 S.1 S.2.1 S.2.2 (rA A a2) (rA A c2)
 | 0,i,hi,hm=>by omega
 | m+1,i,hi,hm=>by
  rw [A2v];unfold Ja;rw [QE];by_cases h:i<A
  . rw [QC (by omega),Ab,A2 (by simp;omega),QM,Aq h]
    dsimp only
    have e232:f221 n (rq (a i)) (rq d)=some (rq (d*a i)):=by unfold f221;rw [Bf sd (sa i) (by omega) hn,A0]
    have e233:f222 n (i:Int) s4.1 s4.2.1 s4.2.2=some (rq (e*a i*v+d*c i)):=by
     unfold f222;rw [h4.1,h4.2.1,h4.2.2.1,h4.2.2.2.1,h4.2.2.2.2];dsimp only
     rw [Ab,Ab,A2 (by simp;omega),QM,Aq h,Bf se (sa i) (by omega) hn,A0,Bf (A7 se (sa i)) sv (by omega) hn,A0,A2 (by simp;omega),Aq h,Bf sd (sc i) (by omega) hn,A0,Dz (A7 (A7 se (sa i)) sv) (A7 sd (sc i)) (by omega) hn,A0]
    rw [e232,A0,A2 (by rw [Ab];simp;omega),Oa (by omega),Hm,e233,A0,A2 (by rw [Ab];simp;omega),A8 (by omega) (by omega),<- ha i,<- hc i,Gc,Gc]
    exact A0o (f:=f) (c:=c) (c2:=c2) sd se sv sa sc h4 hA hL hn ha hc m (i+1) (by omega) (by omega)
  . obtain rfl:i=A:=by omega
    rw [QB (by omega)]

theorem Aor {n A L:Nat} {f v g d e:Rat} {a c:Nat->Rat} (sv:Sz v L) (sd:Sz d L) (se:Sz e L) (sa:∀ i,Sz (a i) L) (sc:∀ i,Sz (c i) L) (hA:A<=100) (hL:L<=100000) (hn:68719476736<=n) :
  Nz n (gc A f v a c) (rq g) (rq d) (rq e)=some (gc A g (d*v) (λi=>d*a i) (λi=>e*a i*v+d*c i)):=by
 have e232:f221 n (rq (a 0)) (rq d)=some (rq (d*a 0)):=by unfold f221;rw [Bf sd (sa 0) (by omega) hn,A0]
 unfold Nz gc;dsimp only
 rw [Bf sd sv (by omega) hn,A0]
 unfold Pf;dsimp only;rw [Ab,QE];by_cases h:0<A
 . have e233 : f222 n 0 (rq e) ((rq f).1, (rq f).2.1, (rq f).2.2, rA A a, rA A c, rq v) (rq d) = some (rq (e * a 0 * v + d * c 0)) := by
    unfold f222;dsimp only
    rw [Ab,Ab,A2 (by simp;omega),show Int.toNat 0=0 from rfl,Aq h,Bf se (sa 0) (by omega) hn,A0,Bf (A7 se (sa 0)) sv (by omega) hn,A0,A2 (by simp;omega),Aq h,Bf sd (sc 0) (by omega) hn,A0,Dz (A7 (A7 se (sa 0)) sv) (A7 sd (sc 0)) (by omega) hn,A0]
   rw [QC (by omega),A2 (by simp;omega),Aq h,e232,A0,Oa h,Hm,e233,A0]
   have hl:=A0o (n:=n) (A:=A) (f:=f) (s4:=(rq e,((rq f).1,(rq f).2.1,(rq f).2.2,rA A a,rA A c,rq v),rq d)) sd se sv sa sc ⟨rfl,rfl,rfl,rfl,rfl⟩ hA hL hn (a2:=(λi=>d*a i)) (c2:=(λi=>e*a i*v+d*c i)) (λ_=>rfl) (λ_=>rfl) (R:=rq g) (S:=rq (d*v))
    (k0:=λz_9 z_10 z_11 z_12 z_13 z_14 z_15 z_16 z_17 z_18=>(some (((z_11,z_12,z_13),z_17,z_18,z_14,z_15,z_16):Jc))) n 1 (by omega) (by omega)
   exact ZY (λz=>ob z λr_2=>some r_2) hl
 . obtain rfl:A=0:=by omega
   rw [QB (by omega),A0];rfl

def B1 (A i:Nat):Nat->Rat:=λk=>if k=i/\i<A then 1 else 0

structure Fz (R:Nat->Q4) (L:Nat):Prop where
 f:∀ i,(R i).f=(R 0).f
 v:∀ i,(R i).v=(R 0).v
 s:∀ i,SzQ (R i) L

theorem Fz.mono {R:Nat->Q4} {L K:Nat} (h:Fz R L) (hK:L<=K):Fz R K:=⟨h.f,h.v,λi=>(h.s i).mono hK⟩

theorem A6q {r:Rat} {L:Nat} (h:Sz r L) (h1:1<=L):Fz (λ_=>Q4.cst r) L:=⟨λ_=>rfl,λ_=>rfl,λ_=>Bl4 h h1⟩

def Pj (A:Nat) (p:Nat->Bool):Bool:=(List.range A).all p

theorem Bq6 {A:Nat} {g:Nat->Rat}:((List.range A).map g).all B6=Pj A λi=>B6 (g i):=by simp [Pj,YB,JJ]

theorem Afs {n A:Nat} {g:Nat->Rat} (hA:A<=100) (hn:68719476736<=n):∃ l,f51 n (rA A g)=some (l,if Pj A (λi=>B6 (g i))=true then 0 else 7):=by
 have e:rA A g=vq ((List.range A).map g):=by simp [rA,vq,JJ]
 rw [e,Acp (by simp;omega) (by omega),Bq6]
 by_cases h:Pj A (λi=>B6 (g i))=true
 . rw [QC h,QC h];exact ⟨_,rfl⟩
 . rw [QB h,QB h];exact ⟨_,rfl⟩

theorem Anr {A:Nat} {x w:Nat->Rat} {ls:Nat->List Q4} (hf:∀ k i,((ls i).getD k (Q4.cst 0)).f=((ls 0).getD k (Q4.cst 0)).f/\((ls i).getD k (Q4.cst 0)).v=((ls 0).getD k (Q4.cst 0)).v) (n:Nod) (i:Nat) :
  (Ak x (B1 A i) w (ls i) n).f=(Ak x (B1 A 0) w (ls 0) n).f/\(Ak x (B1 A i) w (ls i) n).v=(Ak x (B1 A 0) w (ls 0) n).v:=by
 have h:Ea x (λb:Bool=>bif b then B1 A i else B1 A 0) (λ_=>w) (λp=>(p true).f=(p false).f/\(p true).v=(p false).v):=by
  refine ⟨λ_=>⟨rfl,rfl⟩,λ_=>⟨rfl,rfl⟩,λh1 h2=>?_,λh1=>?_,λh1 h2=>?_,λh1=>?_⟩ <;> simp only [Q4.add,Q4.neg,Q4.mul,Q4.inv,h1] <;> (try simp only [h2]) <;> (try simp only [and_self])
 exact h.of (l:=λb=>bif b then ls i else ls 0) (λk=>hf k i) n

def Ao (A:Nat) (R:Nat->Q4):Jn:=gn A (R 0).f (R 0).v (λi=>(R i).a)

theorem Ach {A:Nat} {f v:Rat} {a:Nat->Rat} {R:Nat->Q4} (hf:f=(R 0).f) (hv:v=(R 0).v) (ha:∀ i,a i=(R i).a):gn A f v a=Ao A R:=by
 unfold Ao gn;rw [hf,hv,I6 λi _=>ha i]

theorem B4r {n A:Nat} {f:Rat} (hA:A<=100) (hn:68719476736<=n):f163 n ((A:Int),()) (rq f)=some (Ao A λ_=>Q4.cst f):=by
 unfold f163;dsimp only;rw [Azo hA hn,A0,iW0 hn,A0];rfl

theorem Aoc {n A L:Nat} {P Q:Nat->Q4} (hP:Fz P L) (hQ:Fz Q L) (hA:A<=100) (hL:L<=100000) (hn:68719476736<=n):f165 n (Ao A P) (Ao A Q)=some (Ao A λi=>Q4.add (P i) (Q i)) :=
 Bhl (hP.s 0).f (hQ.s 0).f (hP.s 0).v (hQ.s 0).v (λi=>(hP.s i).a) (λi=>(hQ.s i).a) (λi=>(hP.s i).c) (λi=>(hQ.s i).c) hA hL hn

theorem Avi {n A L:Nat} {P:Nat->Q4} (hP:Fz P L) (h2:2<=L) (hA:A<=100) (hL:L<=100000) (hn:68719476736<=n):f166 n (Ao A P) (rq (-1))=some (Ao A λi=>Q4.neg (P i)):=by
 have h:=Bqr (n:=n) (A:=A) (hP.s 0).f (hP.s 0).v (k:=-1) (Bj (Ij (by omega))) (λi=>(hP.s i).a) (λi=>(hP.s i).c) hA hL hn
 refine Eq.trans h (ZY some ?_);refine Ach ?_ ?_ (λi=>?_) <;> simp only [Q4.neg] <;> grind

theorem Aik {n A L:Nat} {P Q:Nat->Q4} (hP:Fz P L) (hQ:Fz Q L) (hA:A<=100) (hL:L<=100000) (hn:68719476736<=n):f167 n (Ao A P) (Ao A Q)=some (Ao A λi=>Q4.mul (P i) (Q i)):=by
 have h:=Bbw (n:=n) (A:=A) (hP.s 0).f (hQ.s 0).f (hP.s 0).v (hQ.s 0).v (λi=>(hP.s i).a) (λi=>(hQ.s i).a) (λi=>(hP.s i).c) (λi=>(hQ.s i).c) hA hL hn;refine Eq.trans h (ZY some ?_);refine Ach ?_ ?_ (λi=>?_)
 . rfl
 . rfl
 . simp only [Q4.mul,hP.f i,hQ.f i]

theorem Bh8 {n A L:Nat} {P:Nat->Q4} (hP:Fz P L) (h0:(P 0).f ≠ 0) (hA:A<=100) (hL:L<=10000) (hn:68719476736<=n):f169 n (Ao A P)=some (Ao A λi=>Q4.inv (P i)):=by
 have r:=P0 (hP.s 0).f h0;have r2:=A7 r r;have r3:=A7 r2 r
 have k2:Sz 2 1:=A4a (c:=2) (by omega)
 unfold f169
 rw [iW1 hn,A0,show (Ao A P).1=rq (P 0).f from rfl,iOv (Ij (L:=1) (by omega)) (hP.s 0).f h0 (by omega) hn,A0,Bf r r (by omega) hn,A0,iNg r2 (by omega),A0,Bf r2 r (by omega) hn,A0,iW2 hn,A0,Bf r3 k2 (by omega) hn,A0]
 have h:=Aop (n:=n) (A:=A) (L:=8*L+100) (f:=(P 0).f) (g:=1 / (P 0).f) (d:=-(1 / (P 0).f*(1 / (P 0).f))) (e:=1 / (P 0).f*(1 / (P 0).f)*(1 / (P 0).f)*2) ((hP.s 0).v.mono (by omega)) ((Bj r2).mono (by omega)) ((A7 r3 k2).mono (by omega)) (λi=>(hP.s i).a.mono (by omega)) (λi=>(hP.s i).c.mono (by omega)) hA (by omega) hn
 have h:f210 n (rq (P 0).f,(Ao A P).2.1,(),(Ao A P).2.2.2) (rq (1 / (P 0).f)) (rq (-(1 / (P 0).f*(1 / (P 0).f)))) (rq (1 / (P 0).f*(1 / (P 0).f)*(1 / (P 0).f)*2))=_:=h;rw [h,A0];refine ZY some (Ach ?_ ?_ (λi=>?_))
 . rfl
 . simp only [Q4.inv];grind
 . simp only [Q4.inv,hP.f i];grind

theorem Azj {n A L k:Nat} {P:Nat->Q4} (hP:Fz P L) (hL:L<=1000) (hk:k<=8) (hn:68719476736<=n):f161 n (Ao A P) (k:Int)=some (rq (Q4.d1 (P 0).f k),rq (Q4.d2 (P 0).f k)):=by
 have:=Ain (n:=n) (f:=(P 0).f) (v:=0) (hP.s 0).f hL hk hn;exact this

theorem B4p {n A L k:Nat} {P:Nat->Q4} (hP:Fz P L) (hA:A<=100) (hL:L<=1000) (hk:k<=8) (hn:68719476736<=n):f171 n (Ao A P) (k:Int)=some (Ao A λi=>Q4.pow (P i) k):=by
 unfold f171
 rw [Azj hP hL hk hn,A0,show (Ao A P).1=rq (P 0).f from rfl,I8 (hP.s 0).f (by omega) (by omega) hn,A0]
 have h:=Aop (n:=n) (A:=A) (L:=8*L+100) (f:=(P 0).f) (g:=(P 0).f ^ k) (d:=Q4.d1 (P 0).f k) (e:=Q4.d2 (P 0).f k) ((hP.s 0).v.mono (by omega)) ((A6m (hP.s 0).f hk).mono (by omega)) ((Ami (hP.s 0).f hk).mono (by omega)) (λi=>(hP.s i).a.mono (by omega)) (λi=>(hP.s i).c.mono (by omega)) hA (by omega) hn
 dsimp only;have h:f210 n (Ao A P) (rq ((P 0).f ^ k)) (rq (Q4.d1 (P 0).f k)) (rq (Q4.d2 (P 0).f k))=_:=h;rw [h,A0];refine ZY some (Ach ?_ ?_ (λi=>?_))
 . simp only [Q4.pow_eq]
 . simp only [Q4.pow_eq]
 . simp only [Q4.pow_eq,hP.f i]

def Ry (A:Nat) (R:Nat->Q4):Bool:=B6 (R 0).f&&(B6 (R 0).v&&(Pj A (λi=>B6 (R i).a)))

theorem Bbh {n A:Nat} {R:Nat->Q4} (hA:A<=100) (hn:68719476736<=n):f180 n (Ao A R)=some (Ry A R):=by
 obtain ⟨l1,e1⟩:=Afs (n:=n) (A:=A) (g:=λi=>(R i).a) hA hn

 unfold f180 Ao gn;dsimp only;rw [e1,A0,Aoo hn,A0,K3,A0,K3];unfold Ry
 cases B6 (R 0).f
 . rfl
 cases B6 (R 0).v
 . rfl
 cases Pj A (λi=>B6 (R i).a)
 . rfl
 rfl

theorem Bh7 {n A:Nat} {f:Rat} {k:Int} {V:List Rat} (hk:0<=k/\k<V.length) (hA:A<=100) (hn:68719476736<=n):f164 n ((A:Int),()) (rq f) k=some (Ao A λi=>⟨f,B1 A i k.toNat,0,0⟩):=by
 unfold f164 Amb;dsimp only;rw [Acq hA hn,A0,iW0 hn,A0,A0,QE];dsimp only;by_cases h:k<(A:Int)
 . rw [QC h,iW1 hn,A0,Ab,A2 (by simp;omega),A2 (by simp;omega),Anq]
   refine ZY some ?_;unfold Ao gn
   rw [I6 (h:=λi=>B1 A i k.toNat) (g:=λi=>if k.toNat=i then 1 else 0) λi hi=>by unfold B1;by_cases e:k.toNat=i <;> simp [e,hi]]
   try rfl
 . rw [QB h];refine ZY some ?_;unfold Ao gn
   rw [I6 (h:=λi=>B1 A i k.toNat) (g:=λ_=>0) λi hi=>by unfold B1;rw [QB (by omega)]]

theorem Avj {A N k:Nat} {ls:Nat->List Q4} (h:k<N):((List.range N).map λk=>Ao A λi=>(ls i).getD k (Q4.cst 0)).getD k ((false,[],[]),[],(),(false,[],[]))=Ao A λi=>(ls i).getD k (Q4.cst 0):=by
 simp [QJ,h]

theorem B4q {n A N:Nat} {X V:List Rat} {ls:Nat->List Q4} {x:Nod} (hl:∀ i,(ls i).length=N) (hx:Bg x N) (hd:x.1=2->x.2.2.2<X.length/\x.2.2.2<V.length) (hs:∀ k,Fz (λi=>(ls i).getD k (Q4.cst 0)) 40) (hA:A<=100) (hn:68719476736<=n) :
  A6b n ((A:Int),()) x (vq X) ((List.range N).map λk=>Ao A λi=>(ls i).getD k (Q4.cst 0))=some ((if x.1=6/\((ls 0).getD x.2.2.1.toNat (Q4.cst 0)).f=0 then (((false,[],[]),[],(),(false,[],[])),10) else if x.1=8/\B6 (((ls 0).getD x.2.1.toNat (Q4.cst 0)).f ^ x.2.2.2.toNat)=false then (((false,[],[]),[],(),(false,[],[])),7) else (Ao A (λi=>Ak (Ac X) (B1 A i) (λ_=>0) (ls i) x),0)),(List.range N).map λk=>Ao A λi=>(ls i).getD k (Q4.cst 0)):=by
 obtain ⟨op,a,b,m⟩:=x;obtain ⟨⟨o1,o2⟩,hN,ha,hb⟩:=hx
 have hll:((List.range N).map λk=>Ao A λi=>(ls i).getD k (Q4.cst 0)).length=N:=by simp
 unfold A6b;simp only [S5,A0];unfold Fc at hN;unfold Aw at ha hb ⊢;dsimp only at *;generalize hJ:((List.range N).map λk=>Ao A λi=>(ls i).getD k (Q4.cst 0))=J at hll ⊢
 have get:∀ {k:Nat},k<N->J.getD k ((false,[],[]),[],(),(false,[],[]))=Ao A λi=>(ls i).getD k (Q4.cst 0):=λ{k} hk=>by rw [<- hJ];exact Avj hk
 obtain rfl | rfl | rfl | rfl | rfl | rfl | rfl | rfl:op=1 \/ op=2 \/ op=3 \/ op=4 \/ op=5 \/ op=6 \/ op=7 \/ op=8:=by omega
 . simp only [Ak,Int.reduceEq,JL,if_false,if_true,Int.reduceBEq,QW,QP,Int.reduceLT,gt_iff_lt,decide_false,KI] at *
   rw [iW (by omega) hn,A0,B4r  hA hn,A0]
 . simp only [Ak,Int.reduceEq,JL,if_false,if_true,Int.reduceBEq,QW,QP,Int.reduceLT,gt_iff_lt,decide_false,KI] at *;have hd:=hd trivial
   rw [Ba,A2 (by simp;omega),Cc (by omega),Bh7 (V:=V) ⟨hN.1,hd.2⟩ hA hn,A0];rfl
 all_goals simp only [Ak,Int.reduceEq,JL,or_true,true_or,if_false,if_true,Int.reduceBEq,QW,QP,Int.reduceLT,gt_iff_lt,decide_true,KI,Qaf] at *
 all_goals (have lA:a.toNat<N:=by omega)
 all_goals (have lB:b.toNat<N:=by omega)
 all_goals (rw [hll,A2 (by simp;omega),A2 (by simp;omega),A2 (by simp;omega),A2 (by simp;omega),get lA])
 all_goals (try rw [get lB])
 all_goals (have a1:=hs a.toNat;have b1:=hs b.toNat)
 all_goals (generalize hP:(λi=>(ls i).getD a.toNat (Q4.cst 0))=P at a1 ⊢;generalize hQ:(λi=>(ls i).getD b.toNat (Q4.cst 0))=Q at b1 ⊢)
 all_goals (have eP:∀ i,(ls i).getD a.toNat (Q4.cst 0)=P i:=λi=>congrFun hP i)
 all_goals (have eQ:∀ i,(ls i).getD b.toNat (Q4.cst 0)=Q i:=λi=>congrFun hQ i)
 all_goals simp only [eP,eQ]
 . have e:f165 n (Ao A P) (Ao A Q)=_:=Aoc a1 b1 hA (by omega) hn
   have e:f165 n (((Ao A P).1.1,(Ao A P).1.2.1,(Ao A P).1.2.2),(Ao A P).2.1,(),(Ao A P).2.2.2.1,(Ao A P).2.2.2.2.1,(Ao A P).2.2.2.2.2) (((Ao A Q).1.1,(Ao A Q).1.2.1,(Ao A Q).1.2.2),(Ao A Q).2.1,(),(Ao A Q).2.2.2.1,(Ao A Q).2.2.2.2.1,(Ao A Q).2.2.2.2.2)=some _:=e;rw [e,A0]
 . have e:f166 n (Ao A Q) (rq (-1))=_:=Avi b1 (by omega) hA (by omega) hn
   have e:f166 n (((Ao A Q).1.1,(Ao A Q).1.2.1,(Ao A Q).1.2.2),(Ao A Q).2.1,(),(Ao A Q).2.2.2.1,(Ao A Q).2.2.2.2.1,(Ao A Q).2.2.2.2.2) (rq (-1))=some _:=e
   have nF:Fz (λi=>Q4.neg (Q i)) 40:=⟨λi=>by simp only [Q4.neg,b1.f i],λi=>by simp only [Q4.neg,b1.v i],λi=>Aya (b1.s i)⟩
   have e2:f165 n (Ao A P) (Ao A λi=>Q4.neg (Q i))=_:=Aoc a1 nF hA (by omega) hn
   have e2:f165 n (((Ao A P).1.1,(Ao A P).1.2.1,(Ao A P).1.2.2),(Ao A P).2.1,(),(Ao A P).2.2.2.1,(Ao A P).2.2.2.2.1,(Ao A P).2.2.2.2.2) (Ao A λi=>Q4.neg (Q i))=some _:=e2;rw [iWm hn,A0,e,A0,e2,A0]
 . have e:f167 n (Ao A P) (Ao A Q)=_:=Aik a1 b1 hA (by omega) hn
   have e:f167 n (((Ao A P).1.1,(Ao A P).1.2.1,(Ao A P).1.2.2),(Ao A P).2.1,(),(Ao A P).2.2.2.1,(Ao A P).2.2.2.2.1,(Ao A P).2.2.2.2.2) (((Ao A Q).1.1,(Ao A Q).1.2.1,(Ao A Q).1.2.2),(Ao A Q).2.1,(),(Ao A Q).2.2.2.1,(Ao A Q).2.2.2.2.1,(Ao A Q).2.2.2.2.2)=some _:=e;rw [e,A0]
 . have z:f168 n (rq (Q 0).f)=_:=Aco;have z:f168 n ((Ao A Q).1.1,(Ao A Q).1.2.1,(Ao A Q).1.2.2)=_:=z;rw [z,A0,QE];by_cases h0:(Q 0).f=0
   . rw [QC h0,QC h0]
   . rw [QB h0,QB h0]
     have e:f169 n (Ao A Q)=_:=Bh8 b1 h0 hA (by omega) hn
     have e:f169 n (((Ao A Q).1.1,(Ao A Q).1.2.1,(Ao A Q).1.2.2),(Ao A Q).2.1,(),(Ao A Q).2.2.2.1,(Ao A Q).2.2.2.2.1,(Ao A Q).2.2.2.2.2)=some _:=e
     have iF:Fz (λi=>Q4.inv (Q i)) 400:=⟨λi=>by simp only [Q4.inv,b1.f i],λi=>by simp only [Q4.inv,b1.f i,b1.v i],λi=>(Ayb (b1.s i) (by rw [b1.f i];exact h0)).mono (by omega)⟩
     have e2:f167 n (Ao A P) (Ao A λi=>Q4.inv (Q i))=_:=Aik (a1.mono (by omega)) iF hA (by omega) hn
     have e2:f167 n (((Ao A P).1.1,(Ao A P).1.2.1,(Ao A P).1.2.2),(Ao A P).2.1,(),(Ao A P).2.2.2.1,(Ao A P).2.2.2.2.1,(Ao A P).2.2.2.2.2) (Ao A λi=>Q4.inv (Q i))=some _:=e2;rw [e,A0,e2,A0]
 . have e:f166 n (Ao A P) (rq (-1))=_:=Avi a1 (by omega) hA (by omega) hn
   have e:f166 n (((Ao A P).1.1,(Ao A P).1.2.1,(Ao A P).1.2.2),(Ao A P).2.1,(),(Ao A P).2.2.2.1,(Ao A P).2.2.2.2.1,(Ao A P).2.2.2.2.2) (rq (-1))=some _:=e;rw [iWm hn,A0,e,A0]
 . obtain ⟨N',rfl⟩:∃ N':Nat,m=(N':Int):=⟨m.toNat,by omega⟩
   have e0:f170 n (rq (P 0).f) (N':Int)=_:=I8 (a1.s 0).f (by omega) (by omega) hn
   have e0:f170 n ((Ao A P).1.1,(Ao A P).1.2.1,(Ao A P).1.2.2) (N':Int)=some _:=e0
   have e:f171 n (Ao A P) (N':Int)=_:=B4p a1 hA (by omega) (by omega) hn
   have e:f171 n (((Ao A P).1.1,(Ao A P).1.2.1,(Ao A P).1.2.2),(Ao A P).2.1,(),(Ao A P).2.2.2.1,(Ao A P).2.2.2.2.1,(Ao A P).2.2.2.2.2) (N':Int)=some _:=e;rw [e0,A0,K3,A0,QM]
   cases hfit:B6 ((P 0).f ^ N') with
   | false=>simp only [ZW,QW,if_true]
   | true =>
    simp only [ZJ,QP,Qay,if_false];rw [e,A0]

def evN (A:Nat) (x w:Nat->Rat):List Nod->(Nat->List Q4)->(Nat->List Q4) ⊕ Int
 | [],ls=>.inl ls
 | n::r,ls=>if Dh (ls 0) n then .inr 10 else if Ry A (λi=>Ak x (B1 A i) w (ls i) n)=true then evN A x w r (λi=>ls i++[Ak x (B1 A i) w (ls i) n]) else .inr 7

def Al (A:Nat) (R:Nat->Q4):Jc:=gc A (R 0).f (R 0).v (λi=>(R i).a) (λi=>(R i).c)

theorem Aci {A:Nat} {f v:Rat} {a c:Nat->Rat} {R:Nat->Q4} (hf:f=(R 0).f) (hv:v=(R 0).v) (ha:∀ i,a i=(R i).a) (hc:∀ i,c i=(R i).c):gc A f v a c=Al A R:=by
 unfold Al gc;rw [hf,hv,I6 λi _=>ha i,I6 λi _=>hc i]

theorem B4u {n A:Nat} {f:Rat} {V:List Rat} (hV:0<V.length) (hA:A<=100) (hn:68719476736<=n):A5x n ((A:Int),vq V) (rq f)=some (Al A λ_=>Q4.cst f):=by
 unfold A5x;dsimp only
 rw [Azo hA hn,A0,iW0 hn,A0,A2 (by simp [vq];intro e;rw [e] at hV;simp at hV),A0];rfl

theorem Aoe {n A L:Nat} {P Q:Nat->Q4} (hP:Fz P L) (hQ:Fz Q L) (hA:A<=100) (hL:L<=100000) (hn:68719476736<=n):G6 n (Al A P) (Al A Q)=some (Al A λi=>Q4.add (P i) (Q i)) :=
 Bhm (hP.s 0).f (hQ.s 0).f (hP.s 0).v (hQ.s 0).v (λi=>(hP.s i).a) (λi=>(hQ.s i).a) (λi=>(hP.s i).c) (λi=>(hQ.s i).c) hA hL hn

theorem Avk {n A L:Nat} {P:Nat->Q4} (hP:Fz P L) (h2:2<=L) (hA:A<=100) (hL:L<=100000) (hn:68719476736<=n):G5 n (Al A P) (rq (-1))=some (Al A λi=>Q4.neg (P i)):=by
 have h:=Bqs (n:=n) (A:=A) (hP.s 0).f (hP.s 0).v (k:=-1) (Bj (Ij (by omega))) (λi=>(hP.s i).a) (λi=>(hP.s i).c) hA hL hn
 refine Eq.trans h (ZY some ?_);refine Aci ?_ ?_ (λi=>?_) (λi=>?_) <;> simp only [Q4.neg] <;> grind

theorem Ail {n A L:Nat} {P Q:Nat->Q4} (hP:Fz P L) (hQ:Fz Q L) (hA:A<=100) (hL:L<=100000) (hn:68719476736<=n):G4 n (Al A P) (Al A Q)=some (Al A λi=>Q4.mul (P i) (Q i)):=by
 have h:=Bbx (n:=n) (A:=A) (hP.s 0).f (hQ.s 0).f (hP.s 0).v (hQ.s 0).v (λi=>(hP.s i).a) (λi=>(hQ.s i).a) (λi=>(hP.s i).c) (λi=>(hQ.s i).c) hA hL hn;refine Eq.trans h (ZY some ?_);refine Aci ?_ ?_ (λi=>?_) (λi=>?_)
 . rfl
 . rfl
 . simp only [Q4.mul,hP.f i,hQ.f i]
 . simp only [Q4.mul,hP.f i,hQ.f i,hP.v i,hQ.v i];grind

theorem Bha {n A L:Nat} {P:Nat->Q4} (hP:Fz P L) (h0:(P 0).f ≠ 0) (hA:A<=100) (hL:L<=10000) (hn:68719476736<=n):O1 n (Al A P)=some (Al A λi=>Q4.inv (P i)):=by
 have r:=P0 (hP.s 0).f h0;have r2:=A7 r r;have r3:=A7 r2 r
 have k2:Sz 2 1:=A4a (c:=2) (by omega)
 unfold O1
 rw [iW1 hn,A0,show (Al A P).1=rq (P 0).f from rfl,iOv (Ij (L:=1) (by omega)) (hP.s 0).f h0 (by omega) hn,A0,Bf r r (by omega) hn,A0,iNg r2 (by omega),A0,Bf r2 r (by omega) hn,A0,iW2 hn,A0,Bf r3 k2 (by omega) hn,A0]
 have h:=Aor (n:=n) (A:=A) (L:=8*L+100) (f:=(P 0).f) (g:=1 / (P 0).f) (d:=-(1 / (P 0).f*(1 / (P 0).f))) (e:=1 / (P 0).f*(1 / (P 0).f)*(1 / (P 0).f)*2) ((hP.s 0).v.mono (by omega)) ((Bj r2).mono (by omega)) ((A7 r3 k2).mono (by omega)) (λi=>(hP.s i).a.mono (by omega)) (λi=>(hP.s i).c.mono (by omega)) hA (by omega) hn
 have h:Nz n (Al A P) (rq (1 / (P 0).f)) (rq (-(1 / (P 0).f*(1 / (P 0).f)))) (rq (1 / (P 0).f*(1 / (P 0).f)*(1 / (P 0).f)*2))=_:=h;rw [h,A0];refine ZY some (Aci ?_ ?_ (λi=>?_) (λi=>?_))
 . rfl
 . simp only [Q4.inv];grind
 . simp only [Q4.inv,hP.f i];grind
 . simp only [Q4.inv,hP.f i,hP.v i];grind

theorem Azk {n A L k:Nat} {P:Nat->Q4} (hP:Fz P L) (hL:L<=1000) (hk:k<=8) (hn:68719476736<=n):Ae6 n (Al A P) (k:Int)=some (rq (Q4.d1 (P 0).f k),rq (Q4.d2 (P 0).f k)):=by
 have:=Aio (n:=n) (f:=(P 0).f) (v:=0) (hP.s 0).f hL hk hn;exact this

theorem B4s {n A L k:Nat} {P:Nat->Q4} (hP:Fz P L) (hA:A<=100) (hL:L<=1000) (hk:k<=8) (hn:68719476736<=n):O0 n (Al A P) (k:Int)=some (Al A λi=>Q4.pow (P i) k):=by
 unfold O0
 rw [Azk hP hL hk hn,A0,show (Al A P).1=rq (P 0).f from rfl,I8 (hP.s 0).f (by omega) (by omega) hn,A0]
 have h:=Aor (n:=n) (A:=A) (L:=8*L+100) (f:=(P 0).f) (g:=(P 0).f ^ k) (d:=Q4.d1 (P 0).f k) (e:=Q4.d2 (P 0).f k) ((hP.s 0).v.mono (by omega)) ((A6m (hP.s 0).f hk).mono (by omega)) ((Ami (hP.s 0).f hk).mono (by omega)) (λi=>(hP.s i).a.mono (by omega)) (λi=>(hP.s i).c.mono (by omega)) hA (by omega) hn
 dsimp only;have h:Nz n (Al A P) (rq ((P 0).f ^ k)) (rq (Q4.d1 (P 0).f k)) (rq (Q4.d2 (P 0).f k))=_:=h;rw [h,A0];refine ZY some (Aci ?_ ?_ (λi=>?_) (λi=>?_))
 . simp only [Q4.pow_eq]
 . simp only [Q4.pow_eq]
 . simp only [Q4.pow_eq,hP.f i]
 . simp only [Q4.pow_eq,hP.f i,hP.v i]

def Rz (A:Nat) (R:Nat->Q4):Bool:=B6 (R 0).f&&(B6 (R 0).v&&(Pj A (λi=>B6 (R i).a)&&Pj A (λi=>B6 (R i).c)))

theorem Bbj {n A:Nat} {R:Nat->Q4} (hA:A<=100) (hn:68719476736<=n):Ado n (Al A R)=some (Rz A R):=by
 obtain ⟨l1,e1⟩:=Afs (n:=n) (A:=A) (g:=λi=>(R i).a) hA hn;obtain ⟨l2,e2⟩:=Afs (n:=n) (A:=A) (g:=λi=>(R i).c) hA hn;unfold Ado Al gc;dsimp only;rw [e1,A0,e2,A0,K3,A0,K3];unfold Rz
 cases B6 (R 0).f
 . rfl
 cases B6 (R 0).v
 . rfl
 cases Pj A (λi=>B6 (R i).a)
 . rfl
 cases Pj A (λi=>B6 (R i).c) <;> rfl

theorem Bh9 {n A:Nat} {f:Rat} {k:Int} {V:List Rat} (hk:0<=k/\k<V.length) (hA:A<=100) (hn:68719476736<=n):A5w n ((A:Int),vq V) (rq f) k=some (Al A λi=>⟨f,B1 A i k.toNat,(V.getD k.toNat 0),0⟩):=by
 unfold A5w Ae4;dsimp only
 rw [Acq hA hn,A0,iW0 hn,A0,A2 (by simp [vq];intro e;rw [e] at hk;simp at hk;omega),A0,A0,QE]
 dsimp only
 have g1:(!(vq V).isEmpty)=true:=by simp [vq];intro e;rw [e] at hk;simp at hk;omega
 have g2:(decide (0<=k)&&decide (k<((vq V).length:Int)))=true:=by simp;omega
 by_cases h:k<(A:Int)
 . rw [QC h,iW1 hn,A0,Ab,A2 (by simp;omega),A2 (by simp;omega),Anq,g1,Hm,A2 g2,Cc (by omega)]
   refine ZY some ?_;unfold Al gc
   rw [I6 (h:=λi=>B1 A i k.toNat) (g:=λi=>if k.toNat=i then 1 else 0) λi hi=>by unfold B1;by_cases e:k.toNat=i <;> simp [e,hi]]
   try rfl
 . rw [QB h,g1,Hm,A2 g2,Cc (by omega)]
   refine ZY some ?_;unfold Al gc
   rw [I6 (h:=λi=>B1 A i k.toNat) (g:=λ_=>0) λi hi=>by unfold B1;rw [QB (by omega)]]

theorem Avl {A N k:Nat} {ls:Nat->List Q4} (h:k<N):((List.range N).map λk=>Al A λi=>(ls i).getD k (Q4.cst 0)).getD k ((false,[],[]),[],[],(false,[],[]))=Al A λi=>(ls i).getD k (Q4.cst 0):=by
 simp [QJ,h]

theorem B4t {n A N:Nat} {X V:List Rat} {ls:Nat->List Q4} {x:Nod} (hl:∀ i,(ls i).length=N) (hx:Bg x N) (hd:x.1=2->x.2.2.2<X.length/\x.2.2.2<V.length) (hV:0<V.length) (hs:∀ k,Fz (λi=>(ls i).getD k (Q4.cst 0)) 40) (hA:A<=100) (hn:68719476736<=n) :
  Oy n ((A:Int),vq V) x (vq X) ((List.range N).map λk=>Al A λi=>(ls i).getD k (Q4.cst 0))=some ((if x.1=6/\((ls 0).getD x.2.2.1.toNat (Q4.cst 0)).f=0 then (((false,[],[]),[],[],(false,[],[])),10) else if x.1=8/\B6 (((ls 0).getD x.2.1.toNat (Q4.cst 0)).f ^ x.2.2.2.toNat)=false then (((false,[],[]),[],[],(false,[],[])),7) else (Al A (λi=>Ak (Ac X) (B1 A i) (Ac V) (ls i) x),0)),(List.range N).map λk=>Al A λi=>(ls i).getD k (Q4.cst 0)):=by
 obtain ⟨op,a,b,m⟩:=x;obtain ⟨⟨o1,o2⟩,hN,ha,hb⟩:=hx
 have hll:((List.range N).map λk=>Al A λi=>(ls i).getD k (Q4.cst 0)).length=N:=by simp
 unfold Oy;simp only [S5,A0];unfold Fc at hN;unfold Aw at ha hb ⊢;dsimp only at *;generalize hJ:((List.range N).map λk=>Al A λi=>(ls i).getD k (Q4.cst 0))=J at hll ⊢
 have get:∀ {k:Nat},k<N->J.getD k ((false,[],[]),[],[],(false,[],[]))=Al A λi=>(ls i).getD k (Q4.cst 0):=λ{k} hk=>by rw [<- hJ];exact Avl hk
 obtain rfl | rfl | rfl | rfl | rfl | rfl | rfl | rfl:op=1 \/ op=2 \/ op=3 \/ op=4 \/ op=5 \/ op=6 \/ op=7 \/ op=8:=by omega
 . simp only [Ak,Int.reduceEq,JL,if_false,if_true,Int.reduceBEq,QW,QP,Int.reduceLT,gt_iff_lt,decide_false,KI] at *
   rw [iW (by omega) hn,A0,B4u hV hA hn,A0]
 . simp only [Ak,Int.reduceEq,JL,if_false,if_true,Int.reduceBEq,QW,QP,Int.reduceLT,gt_iff_lt,decide_false,KI] at *;have hd:=hd trivial
   rw [Ba,A2 (by simp;omega),Cc (by omega),Bh9 (V:=V) ⟨hN.1,hd.2⟩ hA hn,A0];rfl
 all_goals simp only [Ak,Int.reduceEq,JL,or_true,true_or,if_false,if_true,Int.reduceBEq,QW,QP,Int.reduceLT,gt_iff_lt,decide_true,KI,Qaf] at *
 all_goals (have lA:a.toNat<N:=by omega)
 all_goals (have lB:b.toNat<N:=by omega)
 all_goals (rw [hll,A2 (by simp;omega),A2 (by simp;omega),A2 (by simp;omega),A2 (by simp;omega),get lA])
 all_goals (try rw [get lB])
 all_goals (have a1:=hs a.toNat;have b1:=hs b.toNat)
 all_goals (generalize hP:(λi=>(ls i).getD a.toNat (Q4.cst 0))=P at a1 ⊢;generalize hQ:(λi=>(ls i).getD b.toNat (Q4.cst 0))=Q at b1 ⊢)
 all_goals (have eP:∀ i,(ls i).getD a.toNat (Q4.cst 0)=P i:=λi=>congrFun hP i)
 all_goals (have eQ:∀ i,(ls i).getD b.toNat (Q4.cst 0)=Q i:=λi=>congrFun hQ i)
 all_goals simp only [eP,eQ]
 . have e:G6 n (Al A P) (Al A Q)=_:=Aoe a1 b1 hA (by omega) hn
   have e:G6 n (((Al A P).1.1,(Al A P).1.2.1,(Al A P).1.2.2),(Al A P).2.1,(Al A P).2.2.1,(Al A P).2.2.2.1,(Al A P).2.2.2.2.1,(Al A P).2.2.2.2.2) (((Al A Q).1.1,(Al A Q).1.2.1,(Al A Q).1.2.2),(Al A Q).2.1,(Al A Q).2.2.1,(Al A Q).2.2.2.1,(Al A Q).2.2.2.2.1,(Al A Q).2.2.2.2.2)=some _:=e;rw [e,A0]
 . have e:G5 n (Al A Q) (rq (-1))=_:=Avk b1 (by omega) hA (by omega) hn
   have e:G5 n (((Al A Q).1.1,(Al A Q).1.2.1,(Al A Q).1.2.2),(Al A Q).2.1,(Al A Q).2.2.1,(Al A Q).2.2.2.1,(Al A Q).2.2.2.2.1,(Al A Q).2.2.2.2.2) (rq (-1))=some _:=e
   have nF:Fz (λi=>Q4.neg (Q i)) 40:=⟨λi=>by simp only [Q4.neg,b1.f i],λi=>by simp only [Q4.neg,b1.v i],λi=>Aya (b1.s i)⟩
   have e2:G6 n (Al A P) (Al A λi=>Q4.neg (Q i))=_:=Aoe a1 nF hA (by omega) hn
   have e2:G6 n (((Al A P).1.1,(Al A P).1.2.1,(Al A P).1.2.2),(Al A P).2.1,(Al A P).2.2.1,(Al A P).2.2.2.1,(Al A P).2.2.2.2.1,(Al A P).2.2.2.2.2) (Al A λi=>Q4.neg (Q i))=some _:=e2;rw [iWm hn,A0,e,A0,e2,A0]
 . have e:G4 n (Al A P) (Al A Q)=_:=Ail a1 b1 hA (by omega) hn
   have e:G4 n (((Al A P).1.1,(Al A P).1.2.1,(Al A P).1.2.2),(Al A P).2.1,(Al A P).2.2.1,(Al A P).2.2.2.1,(Al A P).2.2.2.2.1,(Al A P).2.2.2.2.2) (((Al A Q).1.1,(Al A Q).1.2.1,(Al A Q).1.2.2),(Al A Q).2.1,(Al A Q).2.2.1,(Al A Q).2.2.2.1,(Al A Q).2.2.2.2.1,(Al A Q).2.2.2.2.2)=some _:=e;rw [e,A0]
 . have z:f168 n (rq (Q 0).f)=_:=Aco;have z:f168 n ((Al A Q).1.1,(Al A Q).1.2.1,(Al A Q).1.2.2)=_:=z;rw [z,A0,QE];by_cases h0:(Q 0).f=0
   . rw [QC h0,QC h0]
   . rw [QB h0,QB h0]
     have e:O1 n (Al A Q)=_:=Bha b1 h0 hA (by omega) hn
     have e:O1 n (((Al A Q).1.1,(Al A Q).1.2.1,(Al A Q).1.2.2),(Al A Q).2.1,(Al A Q).2.2.1,(Al A Q).2.2.2.1,(Al A Q).2.2.2.2.1,(Al A Q).2.2.2.2.2)=some _:=e
     have iF:Fz (λi=>Q4.inv (Q i)) 400:=⟨λi=>by simp only [Q4.inv,b1.f i],λi=>by simp only [Q4.inv,b1.f i,b1.v i],λi=>(Ayb (b1.s i) (by rw [b1.f i];exact h0)).mono (by omega)⟩
     have e2:G4 n (Al A P) (Al A λi=>Q4.inv (Q i))=_:=Ail (a1.mono (by omega)) iF hA (by omega) hn
     have e2:G4 n (((Al A P).1.1,(Al A P).1.2.1,(Al A P).1.2.2),(Al A P).2.1,(Al A P).2.2.1,(Al A P).2.2.2.1,(Al A P).2.2.2.2.1,(Al A P).2.2.2.2.2) (Al A λi=>Q4.inv (Q i))=some _:=e2;rw [e,A0,e2,A0]
 . have e:G5 n (Al A P) (rq (-1))=_:=Avk a1 (by omega) hA (by omega) hn
   have e:G5 n (((Al A P).1.1,(Al A P).1.2.1,(Al A P).1.2.2),(Al A P).2.1,(Al A P).2.2.1,(Al A P).2.2.2.1,(Al A P).2.2.2.2.1,(Al A P).2.2.2.2.2) (rq (-1))=some _:=e;rw [iWm hn,A0,e,A0]
 . obtain ⟨N',rfl⟩:∃ N':Nat,m=(N':Int):=⟨m.toNat,by omega⟩
   have e0:f170 n (rq (P 0).f) (N':Int)=_:=I8 (a1.s 0).f (by omega) (by omega) hn
   have e0:f170 n ((Al A P).1.1,(Al A P).1.2.1,(Al A P).1.2.2) (N':Int)=some _:=e0
   have e:O0 n (Al A P) (N':Int)=_:=B4s a1 hA (by omega) (by omega) hn
   have e:O0 n (((Al A P).1.1,(Al A P).1.2.1,(Al A P).1.2.2),(Al A P).2.1,(Al A P).2.2.1,(Al A P).2.2.2.1,(Al A P).2.2.2.2.1,(Al A P).2.2.2.2.2) (N':Int)=some _:=e;rw [e0,A0,K3,A0,QM]
   cases hfit:B6 ((P 0).f ^ N') with
   | false=>simp only [ZW,QW,if_true]
   | true =>
    simp only [ZJ,QP,Qay,if_false];rw [e,A0]

def evX (A:Nat) (x w:Nat->Rat):List Nod->(Nat->List Q4)->(Nat->List Q4) ⊕ Int
 | [],ls=>.inl ls
 | n::r,ls=>if Dh (ls 0) n then .inr 10 else if Rz A (λi=>Ak x (B1 A i) w (ls i) n)=true then evX A x w r (λi=>ls i++[Ak x (B1 A i) w (ls i) n]) else .inr 7

theorem H3 {l:List Q4} {q:Q4} {k:Nat}:(l++[q]).getD k (Q4.cst 0)=if k<l.length then l.getD k (Q4.cst 0) else if k=l.length then q else Q4.cst 0:=by
 by_cases h:k<l.length
 . rw [QC h,A05 h]
 . by_cases h2:k=l.length
   . rw [QB h,QC h2,h2,A06]
   . rw [QB h,QB h2,J3 (by simp;omega)]

theorem B3t (x w:Nat->Rat):Ea x (λ_:Unit=>λ_=>0) (λ_=>w) (λp=>(p ()).a=0/\(p ()).c=0):=by
 refine ⟨λ_=>⟨rfl,rfl⟩,λ_=>⟨rfl,rfl⟩,λh1 h2=>?_,λh1=>?_,λh1 h2=>?_,λh1=>?_⟩ <;> simp only [Q4.add,Q4.neg,Q4.mul,Q4.inv,h1] <;> (try simp only [h2]) <;> grind

theorem Blr (x u:Nat->Rat):Ea x (λ_:Unit=>u) (λ_=>λ_=>0) (λp=>(p ()).v=0/\(p ()).c=0):=by
 refine ⟨λ_=>⟨rfl,rfl⟩,λ_=>⟨rfl,rfl⟩,λh1 h2=>?_,λh1=>?_,λh1 h2=>?_,λh1=>?_⟩ <;> simp only [Q4.add,Q4.neg,Q4.mul,Q4.inv,h1] <;> (try simp only [h2]) <;> grind

theorem B9m {A i:Nat} (h:A<=i):B1 A i=λ_=>0:=by funext k;unfold B1;rw [QB (by omega)]

theorem Tp {A:Nat} {p:Nat->Bool}:Pj A p=true ↔ ∀ i,i<A->p i=true:=by
 unfold Pj;rw [QK];exact ⟨λh i hi=>h i (XP.2 hi),λh i hi=>h i (XP.1 hi)⟩

structure OkN (A N:Nat) (ls:Nat->List Q4):Prop where
 n:∀ i,(ls i).length=N
 s:∀ k,Fz (λi=>(ls i).getD k (Q4.cst 0)) 40
 z:∀ i,A<=i->∀ k,((ls i).getD k (Q4.cst 0)).a=0/\((ls i).getD k (Q4.cst 0)).c=0
 w:∀ i k,((ls i).getD k (Q4.cst 0)).v=0/\((ls i).getD k (Q4.cst 0)).c=0

theorem Bl5 (A:Nat):OkN A 0 (λ_=>[]):=⟨λ_=>rfl,λk=>A6q (Bi.mono (by omega)) (by omega),λi _ k=>⟨rfl,rfl⟩,λi k=>⟨rfl,rfl⟩⟩

theorem Bes {A N:Nat} {x:Nat->Rat} {ls:Nat->List Q4} {nd:Nod} (h:OkN A N ls) (hf:Ry A (λi=>Ak x (B1 A i) (λ_=>0) (ls i) nd)=true):OkN A (N+1) (λi=>ls i++[Ak x (B1 A i) (λ_=>0) (ls i) nd]):=by
 unfold Ry at hf;simp only [QH,Tp,Cp] at hf;have fam:=Anr (A:=A) (x:=x) (w:=(λ_=>0)) (ls:=ls) (λk i=>⟨(h.s k).f i,(h.s k).v i⟩) nd
 have zu:∀ i,A<=i->(Ak x (B1 A i) (λ_=>0) (ls i) nd).a=0/\(Ak x (B1 A i) (λ_=>0) (ls i) nd).c=0:=λi hi=>by
  have:=(B3t x (λ_=>0)).of (l:=λ_=>ls i) (λk=>h.z i hi k) nd;rw [B9m hi];exact this
 have zw:∀ i,(Ak x (B1 A i) (λ_=>0) (ls i) nd).v=0/\(Ak x (B1 A i) (λ_=>0) (ls i) nd).c=0:=λi=>(Blr x (B1 A i)).of (l:=λ_=>ls i) (λk=>h.w i k) nd
 refine ⟨λi=>by simp [h.n i],λk=>?_,λi hi k=>?_,λi k=>?_⟩
 . have e : (fun i => (ls i ++ [Ak x (B1 A i) (fun _ => 0) (ls i) nd]).getD k (Q4.cst 0)) = fun i => if k < N then (ls i).getD k (Q4.cst 0) else if k = N then Ak x (B1 A i) (fun _ => 0) (ls i) nd else Q4.cst 0 := by
    funext i;rw [H3,h.n i]
   rw [e];by_cases h1:k<N
   . simp only [QC h1];exact h.s k
   . by_cases h2:k=N
     . simp only [QB h1,QC h2];refine ⟨λi=>(fam i).1,λi=>(fam i).2,λi=>⟨?_,?_,?_,?_⟩⟩
       . rw [(fam i).1];exact hf.1
       . by_cases hi:i<A
         . exact hf.2.2 i hi
         . rw [(zu i (by omega)).1];exact Bi.mono (by omega)
       . rw [(fam i).2];exact hf.2.1
       . rw [(zw i).2];exact Bi.mono (by omega)
     . simp only [QB h1,QB h2];exact A6q (Bi.mono (by omega)) (by omega)
 . rw [H3,h.n i];split
   . exact h.z i hi k
   . split
     . exact zu i hi
     . exact ⟨rfl,rfl⟩
 . rw [H3,h.n i];split
   . exact h.w i k
   . split
     . exact zw i
     . exact ⟨rfl,rfl⟩

theorem As7 {A:Nat} {x:Nat->Rat}:∀ (ns:List Nod) (ls:Nat->List Q4) (c:Int),evN A x (λ_=>0) ns ls = .inr c->c=7 \/ c=10
 | [],ls,c,e=>by simp [evN] at e
 | nd::r,ls,c,e=>by
  rw [evN] at e;split at e
  . exact .inr (by simpa using e.symm)
  . split at e
    . exact As7 r _ c e
    . exact .inl (by simpa using e.symm)

theorem Aod {α:Type} {n A:Nat} {X V:List Rat} {e:List Nod} (hp:allP e X.length) (he:e.length<=60) (hVX:V.length=X.length) (hA:A<=100) (hn:68719476736<=n)
  {k0:Int->Option α} {k1:List Jn->Option α}:∀ (m N:Nat) (ls:Nat->List Q4),OkN A N ls->N<=e.length->e.length<N+m ->
  Wi n m (vq X) e (e.length:Int) (N:Int) (A:Int) ((List.range N).map λk=>Ao A λi=>(ls i).getD k (Q4.cst 0)) k0 k1=match evN A (Ac X) (λ_=>0) (e.drop N) ls with
   | .inl l'=>k1 ((List.range e.length).map λk=>Ao A λi=>(l' i).getD k (Q4.cst 0))
   | .inr c=>k0 c
 | 0,N,ls,hs,hl,hm=>by omega
 | m+1,N,ls,hs,hl,hm=>by
  rw [Ake];unfold Ze;rw [QE];by_cases h:N<e.length
  . obtain ⟨h1,h2⟩:=hp _ h
    rw [QC (by omega),A2 (by simp;omega),QM,J0 h,evN]
    generalize hx:e.getD N (0,0,0,0)=x at h1 h2
    have hg:=B4q (n:=n) (X:=X) (V:=V) (ls:=ls) hs.n h1 (λh=>⟨h2 h,by rw [hVX];exact h2 h⟩) hs.s hA hn
    dsimp only
    rw [hg,A0,A2 (by simp)]
    by_cases hb:Dh (ls 0) x
    . have hb':x.1=6/\((ls 0).getD x.2.2.1.toNat (Q4.cst 0)).f=0:=hb;rw [QC hb,QC hb'];rfl
    . have hb':¬ (x.1=6/\((ls 0).getD x.2.2.1.toNat (Q4.cst 0)).f=0):=hb;rw [QB hb,QB hb'];by_cases h8:x.1=8/\B6 (((ls 0).getD x.2.1.toNat (Q4.cst 0)).f ^ x.2.2.2.toNat)=false
      . rw [QC h8]
        have:Ry A (λi=>Ak (Ac X) (B1 A i) (λ_=>0) (ls i) x)=false:=by
         unfold Ry;rw [Xs h8.1,h8.2];rfl
        rw [this,QB (by simp)];rfl
      . rw [QB h8];show (ob (f180 n (Ao A λi=>Ak (Ac X) (B1 A i) (λ_=>0) (ls i) x)) λr_3=>_)=_;rw [Bbh hA hn,A0]
        show (bif (!Ry A (λi=>Ak (Ac X) (B1 A i) (λ_=>0) (ls i) x)) then k0 7 else _)=_
        cases hf:Ry A (λi=>Ak (Ac X) (B1 A i) (λ_=>0) (ls i) x) with
        | false=>rfl
        | true =>
         rw [ZJ,QP,A2 (by simp;omega),A8 (by omega) (by omega)]
         simp only [if_true]
         have:=Aod hp he hVX hA hn (k0:=k0) (k1:=k1) m (N+1) _ (Bes hs hf) (by omega) (by omega)
         rw [<- this,Qas,YS]
         have e1:((List.range N).map λk=>Ao A λi=>(ls i++[Ak (Ac X) (B1 A i) (λ_=>0) (ls i) x]).getD k (Q4.cst 0))=(List.range N).map λk=>Ao A λi=>(ls i).getD k (Q4.cst 0) :=
          ZE λk hk=>by
           congr 1;funext i
           rw [H3,QC (by rw [hs.n i];exact XP.1 hk)]
         have e2:(λi=>(ls i++[Ak (Ac X) (B1 A i) (λ_=>0) (ls i) x]).getD N (Q4.cst 0))=λi=>Ak (Ac X) (B1 A i) (λ_=>0) (ls i) x:=by
          funext i
          rw [H3,QB (by rw [hs.n i];omega),QC (hs.n i).symm]
         rw [e1,QT,XN,e2];rfl
  . obtain rfl:N=e.length:=by omega
    rw [QB (by omega),ZB (by omega)]
    rfl

theorem Bbg {n A:Nat} {X V:List Rat} {e:List Nod} (hp:allP e X.length) (he:e.length<=60) (hVX:V.length=X.length) (hA:A<=100) (hn:68719476736<=n) :
  f113 n ((A:Int),()) e (vq X)=some (match evN A (Ac X) (λ_=>0) e (λ_=>[]) with
   | .inl l=>((List.range e.length).map λk=>Ao A λi=>(l i).getD k (Q4.cst 0),0)
   | .inr c=>([],c)):=by
 unfold f113
 have:=Aod (n:=n) hp he hVX hA hn (k0:=λz_4=>(some (([],z_4):List Jn × Int))) (k1:=λz_5=>some (z_5,0)) n 0 (λ_=>[]) (Bl5 A) (by omega) (by omega)
 refine Eq.trans this ?_;rw [ZR]
 cases evN A (Ac X) (λ_=>0) e (λ_=>[]) <;> rfl

theorem Bm0 {n A:Nat} {X V:List Rat} {e:List Nod} (hp:allP e X.length) (h1:1<=e.length) (he:e.length<=60) (hVX:V.length=X.length) (hA:A<=100) (hn:68719476736<=n) :
  f68 n ((A:Int),()) e (vq X)=some (match evN A (Ac X) (λ_=>0) e (λ_=>[]) with
   | .inl l=>(Ao A λi=>(l i).getD (e.length-1) (Q4.cst 0),0)
   | .inr c=>(((false,[],[]),[],(),(false,[],[])),c)):=by
 unfold f68;rw [Bbg hp he hVX hA hn,A0]
 cases hev:evN A (Ac X) (λ_=>0) e (λ_=>[]) with
 | inr c =>
  have hc:(c != 0)=true:=by rcases As7 _ _ _ hev with rfl | rfl <;> rfl
  dsimp only;rw [hc];rfl
 | inl l =>
  simp only [ZA,JI]
  rw [A8 (by omega) (by omega),show ((0:Int) != 0)=false from rfl,QP,A2 (by simp;omega),show ((e.length:Int)-1).toNat=e.length-1 by omega,Avj (by omega)]

structure OkC (A N:Nat) (ls:Nat->List Q4):Prop where
 n:∀ i,(ls i).length=N
 s:∀ k,Fz (λi=>(ls i).getD k (Q4.cst 0)) 40
 z:∀ i,A<=i->∀ k,((ls i).getD k (Q4.cst 0)).a=0/\((ls i).getD k (Q4.cst 0)).c=0

theorem Bl6 (A:Nat):OkC A 0 (λ_=>[]):=⟨λ_=>rfl,λk=>A6q (Bi.mono (by omega)) (by omega),λi _ k=>⟨rfl,rfl⟩⟩

theorem Bet {A N:Nat} {x:Nat->Rat} {w:Nat->Rat} {ls:Nat->List Q4} {nd:Nod} (h:OkC A N ls) (hf:Rz A (λi=>Ak x (B1 A i) w (ls i) nd)=true):OkC A (N+1) (λi=>ls i++[Ak x (B1 A i) w (ls i) nd]):=by
 unfold Rz at hf;simp only [QH,Tp,Cp] at hf;have fam:=Anr (A:=A) (x:=x) (w:=w) (ls:=ls) (λk i=>⟨(h.s k).f i,(h.s k).v i⟩) nd
 have zu:∀ i,A<=i->(Ak x (B1 A i) w (ls i) nd).a=0/\(Ak x (B1 A i) w (ls i) nd).c=0:=λi hi=>by
  have:=(B3t x w).of (l:=λ_=>ls i) (λk=>h.z i hi k) nd;rw [B9m hi];exact this
 refine ⟨λi=>by simp [h.n i],λk=>?_,λi hi k=>?_⟩
 . have e : (fun i => (ls i ++ [Ak x (B1 A i) w (ls i) nd]).getD k (Q4.cst 0)) = fun i => if k < N then (ls i).getD k (Q4.cst 0) else if k = N then Ak x (B1 A i) w (ls i) nd else Q4.cst 0 := by
    funext i;rw [H3,h.n i]
   rw [e];by_cases h1:k<N
   . simp only [QC h1];exact h.s k
   . by_cases h2:k=N
     . simp only [QB h1,QC h2];refine ⟨λi=>(fam i).1,λi=>(fam i).2,λi=>⟨?_,?_,?_,?_⟩⟩
       . rw [(fam i).1];exact hf.1
       . by_cases hi:i<A
         . exact hf.2.2.1 i hi
         . rw [(zu i (by omega)).1];exact Bi.mono (by omega)
       . rw [(fam i).2];exact hf.2.1
       . by_cases hi:i<A
         . exact hf.2.2.2 i hi
         . rw [(zu i (by omega)).2];exact Bi.mono (by omega)
     . simp only [QB h1,QB h2];exact A6q (Bi.mono (by omega)) (by omega)
 . rw [H3,h.n i];split
   . exact h.z i hi k
   . split
     . exact zu i hi
     . exact ⟨rfl,rfl⟩

theorem As6 {A:Nat} {x:Nat->Rat} {w:Nat->Rat}:∀ (ns:List Nod) (ls:Nat->List Q4) (c:Int),evX A x w ns ls = .inr c->c=7 \/ c=10
 | [],ls,c,e=>by simp [evX] at e
 | nd::r,ls,c,e=>by
  rw [evX] at e;split at e
  . exact .inr (by simpa using e.symm)
  . split at e
    . exact As6 r _ c e
    . exact .inl (by simpa using e.symm)

theorem Aof {α:Type} {n A:Nat} {X V:List Rat} {e:List Nod} (hp:allP e X.length) (he:e.length<=60) (hVX:V.length=X.length) (hV:0<V.length) (hA:A<=100) (hn:68719476736<=n)
  {k0:Int->Option α} {k1:List Jc->Option α}:∀ (m N:Nat) (ls:Nat->List Q4),OkC A N ls->N<=e.length->e.length<N+m ->
  Zc n m (vq X) e (e.length:Int) (N:Int) (A:Int) (vq V) ((List.range N).map λk=>Al A λi=>(ls i).getD k (Q4.cst 0)) k0 k1=match evX A (Ac X) (Ac V) (e.drop N) ls with
   | .inl l'=>k1 ((List.range e.length).map λk=>Al A λi=>(l' i).getD k (Q4.cst 0))
   | .inr c=>k0 c
 | 0,N,ls,hs,hl,hm=>by omega
 | m+1,N,ls,hs,hl,hm=>by
  rw [B2a];unfold A3s;rw [QE];by_cases h:N<e.length
  . obtain ⟨h1,h2⟩:=hp _ h
    rw [QC (by omega),A2 (by simp;omega),QM,J0 h,evX]
    generalize hx:e.getD N (0,0,0,0)=x at h1 h2
    have hg:=B4t (n:=n) (X:=X) (V:=V) (ls:=ls) hs.n h1 (λh=>⟨h2 h,by rw [hVX];exact h2 h⟩) hV hs.s hA hn
    dsimp only
    rw [hg,A0,A2 (by simp)]
    by_cases hb:Dh (ls 0) x
    . have hb':x.1=6/\((ls 0).getD x.2.2.1.toNat (Q4.cst 0)).f=0:=hb;rw [QC hb,QC hb'];rfl
    . have hb':¬ (x.1=6/\((ls 0).getD x.2.2.1.toNat (Q4.cst 0)).f=0):=hb;rw [QB hb,QB hb'];by_cases h8:x.1=8/\B6 (((ls 0).getD x.2.1.toNat (Q4.cst 0)).f ^ x.2.2.2.toNat)=false
      . rw [QC h8]
        have:Rz A (λi=>Ak (Ac X) (B1 A i) (Ac V) (ls i) x)=false:=by
         unfold Rz;rw [Xs h8.1,h8.2];rfl
        rw [this,QB (by simp)];rfl
      . rw [QB h8];show (ob (Ado n (Al A λi=>Ak (Ac X) (B1 A i) (Ac V) (ls i) x)) λr_3=>_)=_;rw [Bbj hA hn,A0]
        show (bif (!Rz A (λi=>Ak (Ac X) (B1 A i) (Ac V) (ls i) x)) then k0 7 else _)=_
        cases hf:Rz A (λi=>Ak (Ac X) (B1 A i) (Ac V) (ls i) x) with
        | false=>rfl
        | true =>
         rw [ZJ,QP,A2 (by simp;omega),A8 (by omega) (by omega)]
         simp only [if_true]
         have:=Aof hp he hVX hV hA hn (k0:=k0) (k1:=k1) m (N+1) _ (Bet hs hf) (by omega) (by omega)
         rw [<- this,Qas,YS]
         have e1:((List.range N).map λk=>Al A λi=>(ls i++[Ak (Ac X) (B1 A i) (Ac V) (ls i) x]).getD k (Q4.cst 0))=(List.range N).map λk=>Al A λi=>(ls i).getD k (Q4.cst 0) :=
          ZE λk hk=>by
           congr 1;funext i
           rw [H3,QC (by rw [hs.n i];exact XP.1 hk)]
         have e2:(λi=>(ls i++[Ak (Ac X) (B1 A i) (Ac V) (ls i) x]).getD N (Q4.cst 0))=λi=>Ak (Ac X) (B1 A i) (Ac V) (ls i) x:=by
          funext i
          rw [H3,QB (by rw [hs.n i];omega),QC (hs.n i).symm]
         rw [e1,QT,XN,e2];rfl
  . obtain rfl:N=e.length:=by omega
    rw [QB (by omega),ZB (by omega)]
    rfl

theorem Bbi {n A:Nat} {X V:List Rat} {e:List Nod} (hp:allP e X.length) (he:e.length<=60) (hVX:V.length=X.length) (hV:0<V.length) (hA:A<=100) (hn:68719476736<=n) :
  Amd n ((A:Int),vq V) e (vq X)=some (match evX A (Ac X) (Ac V) e (λ_=>[]) with
   | .inl l=>((List.range e.length).map λk=>Al A λi=>(l i).getD k (Q4.cst 0),0)
   | .inr c=>([],c)):=by
 unfold Amd
 have:=Aof (n:=n) hp he hVX hV hA hn (k0:=λz_4=>(some (([],z_4):List Jc × Int))) (k1:=λz_5=>some (z_5,0)) n 0 (λ_=>[]) (Bl6 A) (by omega) (by omega)
 refine Eq.trans this ?_;rw [ZR]
 cases evX A (Ac X) (Ac V) e (λ_=>[]) <;> rfl

theorem Bm1 {n A:Nat} {X V:List Rat} {e:List Nod} (hp:allP e X.length) (h1:1<=e.length) (he:e.length<=60) (hVX:V.length=X.length) (hV:0<V.length) (hA:A<=100) (hn:68719476736<=n) :
  B04 n ((A:Int),vq V) e (vq X)=some (match evX A (Ac X) (Ac V) e (λ_=>[]) with
   | .inl l=>(Al A λi=>(l i).getD (e.length-1) (Q4.cst 0),0)
   | .inr c=>(((false,[],[]),[],[],(false,[],[])),c)):=by
 unfold B04;rw [Bbi hp he hVX hV hA hn,A0]
 cases hev:evX A (Ac X) (Ac V) e (λ_=>[]) with
 | inr c =>
  have hc:(c != 0)=true:=by rcases As6 _ _ _ hev with rfl | rfl <;> rfl
  dsimp only;rw [hc];rfl
 | inl l =>
  simp only [ZA,JI]
  rw [A8 (by omega) (by omega),show ((0:Int) != 0)=false from rfl,QP,A2 (by simp;omega),show ((e.length:Int)-1).toNat=e.length-1 by omega,Avl (by omega)]

def Mc (P:Int) (s:Mh):Prop:=(∀ x ∈ s.1,0<=x/\x<=255)/\s.1.length<=1048577/\(0<=s.2.1/\s.2.1<=P)/\0<=s.2.2/\s.2.2<2147483648

theorem A9t {n:Nat} {P:Int} {s:Mh} (h:Mc P s) (hP:P<=1099511627776):∃ b s',Qa n s=some (b,s')/\(0<=b/\b<=255)/\Mc (P+1) s':=by
 obtain ⟨l,p,d⟩:=s;obtain ⟨h1,h2,⟨h3,h4⟩,h5,h6⟩:=h;dsimp only at h1 h2 h3 h4 h5 h6;unfold Qa;dsimp only
 rw [A8 (x:=p+1) (by omega) (by omega),A8 (x:=p+1-1) (by omega) (by omega),QE]
 have hb:=Asq h1 (p+1-1).toNat;by_cases hc:p+1<=(l.length:Int)
 . rw [QC hc,A2 (by simp;omega),A2 (by simp;omega)]
   generalize l.getD (p+1-1).toNat 0=b at *
   rw [A8 (x:=b) (by omega) (by omega),A8 (x:=d*31) (by omega) (by omega),A8 (x:=d*31+b) (by omega) (by omega),A8 (x:=d*31+b+7) (by omega) (by omega),Hv (by omega)]
   exact ⟨_,_,rfl,by omega,h1,h2,by dsimp only;omega,by dsimp only;omega,by dsimp only;omega⟩
 . rw [QB hc,QE];by_cases hc2:p+1>3000
   . rw [QC hc2]
     exact ⟨_,_,rfl,by omega,h1,h2,by dsimp only;omega,h5,h6⟩
   . rw [QB hc2,A8 (x:=d*1103515245) (by omega) (by omega),A8 (x:=d*1103515245+12345) (by omega) (by omega),Hv (x:=d*1103515245+12345) (by omega)]
     generalize hz:(d*1103515245+12345) % 2147483648=z
     have hz2:0<=z/\z<2147483648:=by omega
     rw [YR (a:=z) (by omega),A8 (x:=z / 65536) (by omega) (by omega),Hv (x:=z / 65536) (by omega)]
     exact ⟨_,_,rfl,by omega,h1,h2,by dsimp only;omega,by dsimp only;omega,by dsimp only;omega⟩

theorem As1 {n:Nat} {P k:Int} {s:Mh} (h:Mc P s) (hP:P<=1099511627000) (hk:1<k) (hk':k<=1048576):∃ v s',F2 n s k=some (v,s')/\(0<=v/\v<k)/\Mc (P+3) s':=by
 unfold F2
 rw [QE,QB (by omega),QE]
 obtain ⟨b1,s1,e1,r1,o1⟩:=A9t (n:=n) h (by omega)
 rw [e1];by_cases hc:k<=256
 . rw [QC hc,A0,A2 (by simp;omega),Hv r1.1]
   have:=Qbq b1 (show k ≠ 0 by omega)
   have:=Qax b1 (show 0<k by omega)
   exact ⟨_,_,rfl,by omega,o1.1,o1.2.1,⟨o1.2.2.1.1,by have:=o1.2.2.1.2;show s1.2.1<=P+3;omega⟩,o1.2.2.2⟩
 . rw [QB hc,A0]
   obtain ⟨b2,s2,e2,r2,o2⟩:=A9t (n:=n) o1 (by omega)
   rw [e2,A0]
   obtain ⟨b3,s3,e3,r3,o3⟩:=A9t (n:=n) o2 (by omega)
   rw [e3,A0];dsimp only
   rw [A2 (by simp;omega),A8 (x:=b1*65536) (by omega) (by omega),A8 (x:=b2*256) (by omega) (by omega),A8 (x:=b1*65536+b2*256) (by omega) (by omega),A8 (x:=b1*65536+b2*256+b3) (by omega) (by omega),Hv (by omega)]
   have:=Qbq (b1*65536+b2*256+b3) (show k ≠ 0 by omega)
   have:=Qax (b1*65536+b2*256+b3) (show 0<k by omega)
   exact ⟨_,_,rfl,by omega,o3.1,o3.2.1,⟨o3.2.2.1.1,by have:=o3.2.2.1.2;show s3.2.1<=P+3;omega⟩,o3.2.2.2⟩

theorem Be7 {n:Nat} {P:Int} {s:Mh} (h:Mc P s) (hP:P<=1099511620000) (hn:1048577<=n):∃ (x:Rat) (s':Mh),Uj n s=some (rq x,s')/\Bq x 10 9/\Mc (P+6) s':=by
 unfold Uj
 obtain ⟨a,s1,e1,r1,o1⟩:=As1 (n:=n) (k:=21) h (by omega) (by omega) (by omega)
 rw [e1,A0]
 obtain ⟨b,s2,e2,r2,o2⟩:=As1 (n:=n) (k:=6) o1 (by omega) (by omega) (by omega)
 rw [e2,A0];dsimp only
 rw [A8 (x:=a-10) (by omega) (by omega),A8 (x:=1+b) (by omega) (by omega)]
 obtain ⟨x,e3,z⟩:=Awl (n:=n) (a:=a-10) (b:=1+b) (by omega) (by omega) hn
 rw [e3,A0]
 exact ⟨x,s2,rfl,z,o2.1,o2.2.1,⟨o2.2.2.1.1,by have:=o2.2.2.1.2;show s2.2.1<=P+6;omega⟩,o2.2.2.2⟩

theorem Bqg {l:List Int} (h:∀ x ∈ l,0<=x/\x<=255) (hl:l.length<=1048577):Mc 0 (l,0,Int.tmod (l.length:Int) 1000) :=
 ⟨h,hl,⟨Int.le_refl _,Int.le_refl _⟩,by rw [Hv (by omega)];dsimp only;omega,by rw [Hv (by omega)];dsimp only;omega⟩

theorem Aix {α:Type} {n k:Nat} (hk:k<=1000) (hn:1048577<=n) {k0:List Rt->List Int->Int->Int->Option α}:∀ (m i:Nat) (P:Int) (o:List Rat) (s:Mh),Mc P s->P+6*(k-i:Nat)<=1099511620000->o.length=i->i<=k->k<i+m->Bv o 10 9 ->
  ∃ (x:List Rat) (s':Mh),x.length=k/\Bv x 10 9/\Mc (P+6*(k-i:Nat)) s'/\Mx n m (k:Int) (i:Int) (vq o) s.1 s.2.1 s.2.2 k0=k0 (vq x) s'.1 s'.2.1 s'.2.2
 | 0,i,P,o,s,h1,h2,h3,h4,h5,h6=>by omega
 | m+1,i,P,o,s,h1,h2,h3,h4,h5,h6=>by
  rw [Aiz];unfold Y3;rw [QE];by_cases h:i<k
  . rw [QC (by omega)]
    obtain ⟨a,s1,e1,r1,o1⟩:=Be7 (n:=n) h1 (by omega) hn
    have e1:Uj n (s.1,s.2.1,s.2.2)=_:=e1
    rw [e1,A0,A2 (by simp;omega),A8 (x:=(i:Int)+1) (by omega) (by omega)]
    dsimp only
    obtain ⟨x,s',q1,q2,q3,q4⟩:=Aix hk hn (k0:=k0) m (i+1) (P+6) (o++[a]) s1 o1 (by omega) (by simp;omega) (by omega) (by omega) (λc hc=>by
     rcases QG.1 hc with hc | hc
     . exact h6 c hc
     . rw [QU.1 hc];exact r1)
    refine ⟨x,s',q1,q2,?_,?_⟩
    . rw [show P+6*((k-i:Nat):Int)=P+6+6*((k-(i+1):Nat):Int) by omega];exact q3
    . rw [<- q4];simp [vq]
  . rw [QB (by omega)]
    exact ⟨o,s,by omega,h6,by rw [show ((k-i:Nat):Int)=0 by omega];simpa using h1,rfl⟩

theorem Bi4 {n k:Nat} {l:List Int} (h:∀ x ∈ l,0<=x/\x<=255) (hl:l.length<=1048577) (hk:k<=1000) (hn:1048577<=n):∃ x:List Rat,f21 n l (k:Int)=some (vq x)/\x.length=k/\Bv x 10 9:=by
 unfold f21 Agl;rw [A0];unfold B0c
 obtain ⟨x,s',q1,q2,_,q4⟩:=Aix (k:=k) hk hn (k0:=λz_2 z_3 z_4 z_5=>some (z_2,(z_3,z_4,z_5))) n 0 0 [] _ (Bqg h hl) (by omega) rfl (by omega) (by omega) (λc hc=>by simp at hc)
 have q4:Mx n n (k:Int) 0 [] _ _ _ _=_:=q4;rw [q4,A0];exact ⟨x,rfl,q1,q2⟩

def A0a (e:List Nod):Prop:=∀ j,j<e.length->let x:=e.getD j (0,0,0,0);(1<=x.1/\x.1<=8)/\(3<=x.1/\x.1<=8->0<=x.2.1/\x.2.1<(j:Int))/\(3<=x.1/\x.1<=6->0<=x.2.2.1/\x.2.2.1<(j:Int))

theorem Azc {x:Nod} {j:Nat} (h:Fj x j):(1<=x.1/\x.1<=8)/\(3<=x.1/\x.1<=8->0<=x.2.1/\x.2.1<(j:Int))/\(3<=x.1/\x.1<=6->0<=x.2.2.1/\x.2.2.1<(j:Int)):=by
 unfold Fj at h;refine ⟨h.1,λh1=>?_,λh1=>?_⟩
 . split at h
   . omega
   . split at h
     . omega
     . omega
 . rw [QC h1] at h;omega

theorem Zl {e:List Nod} (hN:e.length<=1048576) (h:Gy e):A0a e:=by
 obtain ⟨_,bs,ds,hr,_,_⟩:=h
 obtain ⟨hi,hl,_,_⟩:=Xo e [] [] bs ds Azm (by simpa using hN) hr
 have hran:=A83 e [] [] bs ds (λj hj=>by simp at hj) rfl hr
 simp only [ZM,YI] at hl;intro j hj
 exact Azc (hran j (by omega)).1.1

def fi:List Nod->Nod->Nat->Int
 | [],_,_=>-1
 | y::r,x,k=>if y=x then (k:Int) else fi r x (k+1)

theorem Aov:∀ (r:List Nod) (x:Nod) (k:Nat),fi r x k = -1 \/ ((k:Int)<=fi r x k/\fi r x k<(k:Int)+r.length)
 | [],x,k=>.inl rfl
 | y::r,x,k=>by
  unfold fi;by_cases h:y=x
  . rw [QC h];right;simp only [QY];omega
  . rw [QB h];rcases Aov r x (k+1) with h1 | h1
    . exact .inl h1
    . right;simp only [QY];omega

theorem Bh2 {a x:Nod}:(a.1==x.1&&(a.2.1==x.2.1&&(a.2.2.1==x.2.2.1&&(a.2.2.2==x.2.2.2&&true))))=decide (a=x):=by
 obtain ⟨a1,a2,a3,a4⟩:=a;obtain ⟨b1,b2,b3,b4⟩:=x;apply Qbj.2;simp

theorem B52 {α:Type} {n:Nat} {st:List Nod} {x:Nod} (hN:st.length<=1048576) {k0:Int->Option α} {k1:Unit->Option α}:∀ (r:List Nod) (m k:Nat),st.drop k=r->k+r.length=st.length->r.length<m ->
  S2 n m st (st.length:Int) (k:Int) x.1 x.2.1 x.2.2.1 x.2.2.2 k0 k1=if fi r x k<0 then k1 () else k0 (fi r x k)
 | [],m+1,k,hd,hl,hm=>by
  rw [A8d];unfold Vn;simp only [ZM] at hl
  rw [QE,QB (by omega),QC (by simp [fi])]
 | y::r,m+1,k,hd,hl,hm=>by
  obtain ⟨hx,hlt,hd'⟩:=D5 (d:=(0,0,0,0)) hd;rw [A8d];unfold Vn;simp only [QY] at hl hm
  rw [QE,QC (by omega),A2 (by simp;omega),A8 (by omega) (by omega)]
  simp only [QM,hx,Bh2];rw [QE];by_cases h:y=x
  . rw [QC h.symm,fi,QC h,QB (by omega)]
  . rw [QB (λe=>h e.symm),fi,QB h]
    exact B52 hN r m (k+1) hd' (by omega) (by omega)

theorem Ape {n:Nat} {st:List Nod} {x:Nod} (hN:st.length<=1048576) (hn:1048577<=n):f62 n st x=some (fi st x 0):=by
 unfold f62
 have:=B52 (n:=n) (x:=x) hN (k0:=λz=>some z) (k1:=λ_=>some (-1)) st n 0 rfl (by omega) (by omega)
 have this:S2 n n st (st.length:Int) 0 x.1 x.2.1 x.2.2.1 x.2.2.2 (λz=>some z) (λ_=>some (-1))=_:=this;rw [this];rcases Aov st x 0 with h | h
 . rw [h];rfl
 . rw [QB (by omega)]

def cx (at_:List Int) (x:Nod):Nod :=
 (x.1,if 3<=x.1/\x.1<=8 then at_.getD x.2.1.toNat 0 else x.2.1,if 3<=x.1/\x.1<=6 then at_.getD x.2.2.1.toNat 0 else x.2.2.1,x.2.2.2)

def cst (p:List Nod × List Int) (x:Nod):List Nod × List Int :=
 if fi p.1 (cx p.2 x) 0<0 then (p.1++[cx p.2 x],p.2++[(p.1.length:Int)]) else (p.1,p.2++[fi p.1 (cx p.2 x) 0])

theorem Wp (p:List Nod × List Int) (x:Nod):(cst p x).2.length=p.2.length+1/\(cst p x).1.length<=p.1.length+1:=by
 unfold cst;split
 . simp
 . simp

theorem A44:∀ (r:List Nod) (p:List Nod × List Int),p.1.length<=p.2.length->(r.foldl cst p).2.length=p.2.length+r.length/\(r.foldl cst p).1.length<=(r.foldl cst p).2.length
 | [],p,hp=>⟨rfl,hp⟩
 | x::r,p,hp=>by
  obtain ⟨q1,q2⟩:=Wp p x
  have:=A44 r (cst p x) (by omega)
  simp only [JQ,QY];omega

abbrev El (e:List Nod):List Nod:=(e.foldl cst ([],[])).1

abbrev Ay2 (e:List Nod):List Int:=(e.foldl cst ([],[])).2

abbrev d0:Nod:=(0,0,0,0)

theorem A50:∀ (r:List Nod) (x:Nod) (k:Nat),¬ fi r x k<0->∃ j,j<r.length/\fi r x k=(k:Int)+j/\r.getD j d0=x
 | [],x,k,h=>by simp [fi] at h
 | y::r,x,k,h=>by
  unfold fi at h ⊢;by_cases e:y=x
  . refine ⟨0,by simp,by rw [QC e];simp,by simpa using e⟩
  . rw [QB e] at h ⊢;obtain ⟨j,h1,h2,h3⟩:=A50 r x (k+1) h
    exact ⟨j+1,by simpa using h1,by rw [h2];push_cast;omega,by simpa using h3⟩

structure B2x (e:List Nod) (bs:List Int):Prop where
 hl:bs.length=e.length
 b:∀ j,j<bs.length->0<=bs.getD j 0/\bs.getD j 0<=j
 ran:Ran e bs

def sz (bs:List Int) (j:Nat):Int:=(j:Int)+1-bs.getD j 0

theorem Bld {e:List Nod} {bs:List Int} (h:B2x e bs) {j:Nat} (hj:j<e.length) {x:Nod} (hx:e.getD j d0=x) :
  sz bs j=1+(if 3<=x.1/\x.1<=8 then sz bs x.2.1.toNat else 0)+(if 3<=x.1/\x.1<=6 then sz bs x.2.2.1.toNat else 0):=by
 obtain ⟨⟨h1,h2⟩,h3⟩:=h.ran j (by rw [h.hl];exact hj)
 have hx':e.getD j (0,0,0,0)=x:=hx;rw [hx'] at h1 h2 h3
 have tk:∀ a:Int,0<=a->a<=(j:Int)-1->(bs.take j).getD a.toNat 0=bs.getD a.toNat 0:=λa a0 a1=>by
  simp only [QJ,XM]
  rw [QC (by omega)]
 unfold Fj at h1;obtain ⟨h0,h1⟩:=h1;unfold nb at h3;unfold sz;by_cases t2:3<=x.1/\x.1<=6
 . rw [QC t2] at h1 ⊢
   rw [QC (by omega)] at h3 ⊢
   obtain ⟨g1,g2⟩:=h2 t2
   rw [tk _ (by omega) (by omega)] at g2 h3
   rw [h3,g2,g1];omega
 . rw [QB t2] at h1 ⊢;by_cases t1:x.1=7 \/ x.1=8
   . rw [QC t1] at h1
     rw [QC (by omega)] at h3 ⊢
     rw [tk _ (by omega) (by omega)] at h3
     rw [h3];omega
   . rw [QB (by omega)] at h3 ⊢
     rw [h3];omega

structure CI (bs:List Int) (p:List Nod × List Int) (σ:Nat->Int):Prop where
 a:∀ i,i<p.2.length->0<=p.2.getD i 0/\p.2.getD i 0<(p.1.length:Int)/\σ (p.2.getD i 0).toNat=sz bs i
 s:∀ k y,k<p.1.length->p.1.getD k d0=y->σ k=1+(if 3<=y.1/\y.1<=8 then σ y.2.1.toNat else 0)+(if 3<=y.1/\y.1<=6 then σ y.2.2.1.toNat else 0) /\
  (3<=y.1/\y.1<=8->0<=y.2.1/\y.2.1<(p.1.length:Int))/\(3<=y.1/\y.1<=6->0<=y.2.2.1/\y.2.2.1<(p.1.length:Int))
 t:∀ k,k<p.1.length->∃ i,i<p.2.length/\p.2.getD i 0=(k:Int)

theorem B9o {e:List Nod} {bs:List Int} (h:B2x e bs) (hk:A0a e) {p:List Nod × List Int} {σ:Nat->Int} (hc:CI bs p σ) (hj:p.2.length<e.length) {x:Nod} (hx:e.getD p.2.length d0=x) :
  let y:=cx p.2 x
  1+(if 3<=y.1/\y.1<=8 then σ y.2.1.toNat else 0)+(if 3<=y.1/\y.1<=6 then σ y.2.2.1.toNat else 0)=sz bs p.2.length /\
   (3<=y.1/\y.1<=8->0<=y.2.1/\y.2.1<(p.1.length:Int))/\(3<=y.1/\y.1<=6->0<=y.2.2.1/\y.2.2.1<(p.1.length:Int)):=by
 intro y;obtain ⟨k1,k2,k3⟩:=hk p.2.length hj;have hx':e.getD p.2.length (0,0,0,0)=x:=hx;rw [hx'] at k1 k2 k3;have y1:y.1=x.1:=rfl;have r:=Bld h hj hx;rw [y1,r]
 have A:3<=x.1/\x.1<=8->y.2.1=p.2.getD x.2.1.toNat 0:=λt=>by show (if _ then _ else _)=_;rw [QC t]
 have B:3<=x.1/\x.1<=6->y.2.2.1=p.2.getD x.2.2.1.toNat 0:=λt=>by show (if _ then _ else _)=_;rw [QC t]
 refine ⟨?_,λt=>?_,λt=>?_⟩
 . by_cases t1:3<=x.1/\x.1<=8
   . obtain ⟨q1,q2⟩:=k2 t1
     obtain ⟨_,_,e1⟩:=hc.a x.2.1.toNat (by omega)
     rw [QC t1,QC t1,A t1,e1];by_cases t2:3<=x.1/\x.1<=6
     . obtain ⟨q3,q4⟩:=k3 t2
       obtain ⟨_,_,e2⟩:=hc.a x.2.2.1.toNat (by omega)
       rw [QC t2,QC t2,B t2,e2]
     . rw [QB t2,QB t2]
   . rw [QB t1,QB t1,QB (by omega),QB (by omega)]
 . obtain ⟨q1,q2⟩:=k2 t
   obtain ⟨e1,e2,_⟩:=hc.a x.2.1.toNat (by omega)
   rw [A t];exact ⟨e1,e2⟩
 . obtain ⟨q1,q2⟩:=k3 t
   obtain ⟨e1,e2,_⟩:=hc.a x.2.2.1.toNat (by omega)
   rw [B t];exact ⟨e1,e2⟩

theorem CI.step {e:List Nod} {bs:List Int} (h:B2x e bs) (hk:A0a e) {p:List Nod × List Int} {σ:Nat->Int} (hc:CI bs p σ) (hj:p.2.length<e.length) {x:Nod} (hx:e.getD p.2.length d0=x):∃ σ',CI bs (cst p x) σ':=by
 obtain ⟨v1,v2,v3⟩:=B9o h hk hc hj hx;obtain ⟨st,at_⟩:=p;simp only at hj hx v1 v2 v3;unfold cst;by_cases hf:fi st (cx at_ x) 0<0
 . simp only [QC hf]
   let σ':Nat->Int:=λk=>if k=st.length then sz bs at_.length else σ k
   have old:∀ a:Int,0<=a->a<(st.length:Int)->σ' a.toNat=σ a.toNat:=λa a0 a1=>by show (if _ then _ else _)=_;rw [QB (by omega)]
   refine ⟨σ',λi hi=>?_,λk y hk' hy=>?_,λk hk'=>?_⟩
   . simp only [ZC,QY,ZM] at hi ⊢;rcases ZT i at_.length with hi' | hi'
     . rw [B7 hi'];obtain ⟨a1,a2,a3⟩:=hc.a i hi';simp only at a1 a2 a3
       exact ⟨a1,by omega,by rw [old _ a1 a2];exact a3⟩
     . obtain rfl:i=at_.length:=by omega
       rw [B5]
       refine ⟨by omega,by omega,?_⟩
       show (if _ then _ else _)=_
       rw [QC (by omega)]
   . simp only [ZC,QY,ZM] at hk' ⊢;rcases ZT k st.length with hk2 | hk2
     . rw [B7 hk2] at hy;obtain ⟨s1,s2,s3⟩:=hc.s k y hk2 hy;simp only at s1 s2 s3
       refine ⟨?_,λt=>by have:=s2 t;omega,λt=>by have:=s3 t;omega⟩
       have:σ' k=σ k:=by show (if _ then _ else _)=_;rw [QB (by omega)]
       rw [this,s1];by_cases t1:3<=y.1/\y.1<=8
       . rw [QC t1,QC t1,old _ (s2 t1).1 (s2 t1).2];by_cases t2:3<=y.1/\y.1<=6
         . rw [QC t2,QC t2,old _ (s3 t2).1 (s3 t2).2]
         . rw [QB t2,QB t2]
       . rw [QB t1,QB t1,QB (by omega),QB (by omega)]
     . obtain rfl:k=st.length:=by omega
       rw [B5] at hy;subst hy
       refine ⟨?_,λt=>by have:=v2 t;omega,λt=>by have:=v3 t;omega⟩
       have:σ' st.length=sz bs at_.length:=by show (if _ then _ else _)=_;rw [QC rfl]
       rw [this,<- v1];by_cases t1:3<=(cx at_ x).1/\(cx at_ x).1<=8
       . rw [QC t1,QC t1,old _ (v2 t1).1 (v2 t1).2];by_cases t2:3<=(cx at_ x).1/\(cx at_ x).1<=6
         . rw [QC t2,QC t2,old _ (v3 t2).1 (v3 t2).2]
         . rw [QB t2,QB t2]
       . rw [QB t1,QB t1,QB (by omega),QB (by omega)]
   . simp only [ZC,QY,ZM] at hk' ⊢;rcases ZT k st.length with hk2 | hk2
     . obtain ⟨i,i1,i2⟩:=hc.t k hk2;simp only at i1 i2
       exact ⟨i,by omega,by rw [B7 i1];exact i2⟩
     . obtain rfl:k=st.length:=by omega
       exact ⟨at_.length,by omega,by rw [B5]⟩
 . simp only [QB hf];obtain ⟨k,k1,k2,k3⟩:=A50 _ _ _ hf;obtain ⟨s1,_,_⟩:=hc.s k _ k1 k3;refine ⟨σ,λi hi=>?_,λk y hk' hy=>hc.s k y hk' hy,λk hk'=>?_⟩
   . simp only [ZC,QY,ZM] at hi ⊢;rcases ZT i at_.length with hi' | hi'
     . rw [B7 hi'];exact hc.a i hi'
     . obtain rfl:i=at_.length:=by omega
       rw [B5,k2]
       refine ⟨by omega,by omega,?_⟩
       rw [show (((0:Nat):Int)+(k:Int)).toNat=k by omega,s1]
       exact v1
   . simp only [ZC,QY,ZM] at hk' ⊢;obtain ⟨i,i1,i2⟩:=hc.t k hk';simp only at i1 i2
     exact ⟨i,by omega,by rw [B7 i1];exact i2⟩

theorem Ao8 {e:List Nod} {bs:List Int} (h:B2x e bs) (hk:A0a e) (h0:bs.getD (e.length-1) 0=0):∀ (r:List Nod) (p:List Nod × List Int) (σ:Nat->Int),r ≠ []->e.drop p.2.length=r->CI bs p σ ->
  (r.foldl cst p).2.getD (e.length-1) 0=((r.foldl cst p).1.length:Int)-1
 | [],_,_,hr,_,_=>absurd rfl hr
 | [x],p,σ,_,hd,hc=>by
  obtain ⟨hx,hlt,hd'⟩:=D5 (d:=d0) hd
  have hlast:p.2.length+1=e.length:=by
   have:=ZY List.length hd;simp at this;omega
  obtain ⟨v1,v2,v3⟩:=B9o h hk hc hlt hx;simp only [JQ,List.foldl_nil];unfold cst;by_cases hf:fi p.1 (cx p.2 x) 0<0
  . rw [QC hf];simp only [ZC,QY,ZM]
    rw [show e.length-1=p.2.length by omega,B5]
    omega
  . exfalso;obtain ⟨k,k1,k2,k3⟩:=A50 _ _ _ hf;obtain ⟨s1,_,_⟩:=hc.s k _ k1 k3;obtain ⟨i,i1,i2⟩:=hc.t k k1;obtain ⟨_,_,a3⟩:=hc.a i i1;rw [i2,QM,s1] at a3;have a4:sz bs p.2.length=sz bs i:=v1.symm.trans a3;unfold sz at a4
    rw [show p.2.length=e.length-1 by omega,h0] at a4
    have:=(h.b i (by rw [h.hl];omega)).1
    omega
 | x::x2::r,p,σ,_,hd,hc=>by
  obtain ⟨hx,hlt,hd'⟩:=D5 (d:=d0) hd;obtain ⟨σ',hc'⟩:=hc.step h hk hlt hx;obtain ⟨q1,_⟩:=Wp p x
  exact Ao8 h hk h0 (x2::r) (cst p x) σ' (by simp) (by rw [q1];exact hd') hc'

theorem Asl {e:List Nod} (hN:e.length<=1048576) (h:Gy e):(Ay2 e).getD (e.length-1) 0=((El e).length:Int)-1:=by
 have hk:=Zl hN h;obtain ⟨h1,bs,ds,hr,hb0,_⟩:=h
 obtain ⟨hi,hl,_,_⟩:=Xo e [] [] bs ds Azm (by simpa using hN) hr
 have hran:=A83 e [] [] bs ds (λj hj=>by simp at hj) rfl hr
 simp only [ZM,YI] at hl
 exact Ao8 ⟨hl,hi.b,hran⟩ hk hb0 e ([],[]) (λ_=>0) (λe0=>by subst e0;simp at h1) rfl ⟨λi hi=>by simp at hi,λk y hk'=>by simp at hk',λk hk'=>by simp at hk'⟩

inductive C2 (dim:Int):Nat->Nat->List Nod->Prop
 | num (r k:Nat) (c:Int) (h:0<=c/\c<=5):C2 dim (r+1) k [(1,0,0,c)]
 | var (r k:Nat) (v:Int) (h:0<=v/\v<dim):C2 dim (r+1) k [(2,0,0,v)]
 | neg (r k:Nat) (t:List Nod) (h:C2 dim r k t):C2 dim (r+1) k (t++[(7,((k+t.length:Nat):Int)-1,0,0)])
 | pow (r k:Nat) (t:List Nod) (p:Int) (hp:0<=p/\p<=3) (h:C2 dim (min r 2) k t):C2 dim (r+1) k (t++[(8,((k+t.length:Nat):Int)-1,0,p)])
 | bin (r k:Nat) (t u:List Nod) (op:Int) (ho:3<=op/\op<=6) (h1:C2 dim r k t) (h2:C2 dim r (k+t.length) u) :
   C2 dim (r+1) k (t++u++[(op,((k+t.length:Nat):Int)-1,((k+t.length+u.length:Nat):Int)-1,0)])

theorem C2.pos {dim:Int} {r k:Nat} {t:List Nod} (h:C2 dim r k t):0<t.length:=by cases h <;> simp <;> omega

theorem C2.len {dim:Int} {r k:Nat} {t:List Nod} (h:C2 dim r k t):t.length+1<=2 ^ r:=by
 induction h with
 | num r k c h=>have:=Nat.one_le_two_pow (n:=r);simp [YL];omega
 | var r k c h=>have:=Nat.one_le_two_pow (n:=r);simp [YL];omega
 | neg r k t h ih=>simp [YL];have:=h.pos;omega
 | pow r k t p hp h ih =>
  have:=YG (n:=2) (by omega) (show min r 2<=r by omega)
  have:=h.pos;simp [YL];omega
 | bin r k t u op ho h1 h2 ih1 ih2=>simp [YL];omega

theorem Rj:∀ (t u:List Nod) (bs ds bs' ds':List Int),Dv bs ds t=some (bs',ds')->Dv bs ds (t++u)=Dv bs' ds' u
 | [],u,bs,ds,bs',ds',h=>by
  simp only [Dv,QF,QL] at h;obtain ⟨rfl,rfl⟩:=h;rfl
 | x::t,u,bs,ds,bs',ds',h=>by
  simp only [Dv,YD] at h ⊢;split at h
  . rename_i hx;rw [QC hx];exact Rj t u _ _ _ _ h
  . cases h

theorem Rh {bs ds:List Int} {x:Nod} (h:okP bs x bs.length):Dv bs ds [x]=some (bs++[nb bs x bs.length],ds++[nd ds x]):=by
 simp only [Dv,QC h]

theorem Kr {l m:List Int} {k j:Nat} (h:l.length=k):(l++m).getD (k+j) 0=m.getD j 0:=by
 subst h;simp only [List.getD]
 rw [ZG (by omega),KV]

theorem U6 {l:List Int} {j:Nat} (h:j<l.length):l.getD j 0 ∈ l:=by
 simp [List.getD,QN h]

theorem Cx {k m:Nat} (h:0<m):(((k+m:Nat):Int)-1).toNat=k+(m-1):=by omega

theorem C2.run {dim:Int} (hdim:dim<=4) {r k:Nat} {t:List Nod} (h:C2 dim r k t):∀ (bs ds:List Int),bs.length=k->ds.length=k ->
  ∃ bs' ds',Dv bs ds t=some (bs++bs',ds++ds')/\bs'.length=t.length/\ds'.length=t.length/\bs'.getD (t.length-1) 0=k /\ ∀ x ∈ ds',x<=r:=by
 induction h with
 | num r k c h =>
  intro bs ds hb hd
  refine ⟨[(k:Int)],[1],?_,rfl,rfl,rfl,by simp;omega⟩
  rw [Rh ⟨by unfold Fj;simp;omega,by simp⟩]
  simp [nb,nd,hb]
 | var r k v h =>
  intro bs ds hb hd
  refine ⟨[(k:Int)],[1],?_,rfl,rfl,rfl,by simp;omega⟩
  rw [Rh ⟨by unfold Fj;simp;omega,by simp⟩]
  simp [nb,nd,hb]
 | neg r k t h ih =>
  intro bs ds hb hd;obtain ⟨b',d',h1,h2,h3,h4,h5⟩:=ih bs ds hb hd;have hp:=h.pos
  have hlen:(bs++b').length=k+t.length:=by simp [hb,h2]
  rw [Rj t _ bs ds _ _ h1,Rh ⟨by rw [hlen];unfold Fj;simp;omega,by simp⟩]
  refine ⟨b'++[nb (bs++b') (7,((k+t.length:Nat):Int)-1,0,0) (bs++b').length],d'++[nd (ds++d') (7,((k+t.length:Nat):Int)-1,0,0)],by simp,by simp [h2],by simp [h3],?_,?_⟩
  . have e:(t++[((7:Int),((k+t.length:Nat):Int)-1,(0:Int),(0:Int))]).length-1=b'.length:=by simp [h2]
    rw [e,B5];simp only [nb]
    rw [QC (by omega),Cx hp,Kr hb,h4]
  . intro x hx;rcases QG.1 hx with hx | hx
    . have:=h5 x hx;omega
    . simp only [QU] at hx;rw [hx];simp only [nd]
      rw [QB (by omega),QC (by simp),Cx hp,Kr hd]
      have:d'.getD (t.length-1) 0<=r:=by
       exact h5 _ (U6 (by omega))
      omega
 | pow r k t p hp0 h ih =>
  intro bs ds hb hd;obtain ⟨b',d',h1,h2,h3,h4,h5⟩:=ih bs ds hb hd;have hp:=h.pos
  have hlen:(bs++b').length=k+t.length:=by simp [hb,h2]
  rw [Rj t _ bs ds _ _ h1,Rh ⟨by rw [hlen];unfold Fj;simp;omega,by simp⟩]
  refine ⟨b'++[nb (bs++b') (8,((k+t.length:Nat):Int)-1,0,p) (bs++b').length],d'++[nd (ds++d') (8,((k+t.length:Nat):Int)-1,0,p)],by simp,by simp [h2],by simp [h3],?_,?_⟩
  . have e:(t++[((8:Int),((k+t.length:Nat):Int)-1,(0:Int),p)]).length-1=b'.length:=by simp [h2]
    rw [e,B5];simp only [nb]
    rw [QC (by omega),Cx hp,Kr hb,h4]
  . intro x hx;rcases QG.1 hx with hx | hx
    . have:=h5 x hx;omega
    . simp only [QU] at hx;rw [hx];simp only [nd]
      rw [QB (by omega),QC (by simp),Cx hp,Kr hd]
      have:d'.getD (t.length-1) 0<=((min r 2:Nat):Int):=by
       exact h5 _ (U6 (by omega))
      omega
 | bin r k t u op ho h1 h2 ih1 ih2 =>
  intro bs ds hb hd;obtain ⟨b1,d1,a1,a2,a3,a4,a5⟩:=ih1 bs ds hb hd;have hp1:=h1.pos;have hp2:=h2.pos
  obtain ⟨b2,d2,c1,c2,c3,c4,c5⟩:=ih2 (bs++b1) (ds++d1) (by simp [hb,a2]) (by simp [hd,a3])
  have hlen:(bs++b1++b2).length=k+t.length+u.length:=by simp [hb,a2,c2];omega
  have eB:(bs++b1++b2).getD (((k+t.length+u.length:Nat):Int)-1).toNat 0=((k+t.length:Nat):Int):=by
   rw [Cx hp2,Kr (by simp [hb,a2]),c4]
  have eA:(bs++b1++b2).getD (((k+t.length:Nat):Int)-1).toNat 0=(k:Int):=by
   rw [Cx hp1,ZP,Kr hb,B7 (by omega),a4]
  have hrun:Dv bs ds (t++u)=some (bs++b1++b2,ds++d1++d2):=by rw [Rj t u bs ds _ _ a1,c1]
  rw [Rj (t++u) _ bs ds _ _ hrun,Rh ⟨by rw [hlen];unfold Fj;rw [QC (show 3<=op/\op<=6 from ho)];simp;omega,λ_=>⟨by rw [hlen],by
   show (bs++b1++b2).getD (((k+t.length+u.length:Nat):Int)-1).toNat 0=(((k+t.length:Nat):Int)-1)+1
   rw [eB];omega⟩⟩]
  refine ⟨b1++b2++[nb (bs++b1++b2) (op,((k+t.length:Nat):Int)-1,((k+t.length+u.length:Nat):Int)-1,0) (bs++b1++b2).length],d1++d2++[nd (ds++d1++d2) (op,((k+t.length:Nat):Int)-1,((k+t.length+u.length:Nat):Int)-1,0)],by simp [ZP],by simp [a2,c2],by simp [a3,c3],?_,?_⟩
  . have e:(t++u++[(op,((k+t.length:Nat):Int)-1,((k+t.length+u.length:Nat):Int)-1,(0:Int))]).length-1=(b1++b2).length:=by simp [a2,c2]
    rw [e,B5];simp only [nb]
    rw [QC (by omega),eA]
  . intro x hx;rcases QG.1 hx with hx | hx
    . rcases QG.1 hx with hx | hx
      . have:=a5 x hx;omega
      . have:=c5 x hx;omega
    . simp only [QU] at hx;rw [hx];simp only [nd]
      rw [QC (by omega),Cx hp1,Cx hp2]
      have g1:(ds++d1++d2).getD (k+(t.length-1)) 0<=r:=by
       rw [ZP,Kr hd,B7 (by omega)]
       exact a5 _ (U6 (by omega))
      have g2:(ds++d1++d2).getD (k+t.length+(u.length-1)) 0<=r:=by
       rw [Kr (by simp [hd,a3])]
       exact c5 _ (U6 (by omega))
      omega

theorem C2.expr {dim:Int} (hdim:dim<=4) {r:Nat} {t:List Nod} (h:C2 dim r 0 t) (hr:r<=5):Gy t:=by
 obtain ⟨bs,ds,h1,h2,h3,h4,h5⟩:=h.run hdim [] [] rfl rfl;have:=h.pos;have h6:=h.len
 have:=YG (n:=2) (by omega) hr
 exact ⟨by omega,bs,ds,by simpa using h1,by simpa using h4,λx hx=>by have:=h5 x hx;omega⟩

theorem Er.up {P Q:Int} {s:Mh} (h:Er P s) (hq:P<=Q):Er Q s:=⟨h.1,h.2.1,⟨h.2.2.1.1,Int.le_trans h.2.2.1.2 hq⟩,h.2.2.2⟩

theorem Nf {n:Nat} {P k:Int} {s:Mh} (h:Er P s) (hP:P<=1099511627000) (hk:1<=k) (hk':k<=1048576):∃ v s',F2 n s k=some (v,s')/\(0<=v/\v<k)/\Er (P+3) s':=by
 by_cases h1:k=1
 . subst h1
   exact ⟨0,s,by unfold F2;rfl,by omega,h.up (by omega)⟩
 . exact A6a h hP (by omega) hk'

theorem Blu {v:Int} (h:0<=v/\v<6):3<=[(3:Int),3,4,5,5,6].getD v.toNat 0/\[(3:Int),3,4,5,5,6].getD v.toNat 0<=6:=by
 obtain ⟨h0,h1⟩:=h
 have:v=0 \/ v=1 \/ v=2 \/ v=3 \/ v=4 \/ v=5:=by omega
 rcases this with rfl | rfl | rfl | rfl | rfl | rfl <;> decide

theorem Wj {n:Nat} {dim:Int} (hdim:1<=dim/\dim<=4) {dv:Bool}:∀ (d r:Nat) {P:Int} {s:Mh} {nodes:List Nod},1<=r->r<=d->r<=5->Er P s->P+12*4 ^ r<=1000000000->nodes.length+2 ^ r<=1000000 ->
  ∃ s' t,Uk n d s nodes (r:Int) dim dv=some ((),s',nodes++t)/\C2 dim r nodes.length t/\Er (P+12*4 ^ r) s'
 | 0,r,P,s,nodes,h1,h2,_,_,_,_=>by omega
 | d+1,r,P,s,nodes,h1,h2,h5,hs,hP,hN=>by
  have h4:(4:Int) ^ r>=4:=by
   obtain ⟨q,rfl⟩:∃ q,r=q+1:=⟨r-1,by omega⟩
   have:(1:Int)<=4 ^ q:=Int.pow_pos (by omega)
   rw [Qau];omega
  have h22:1<=2 ^ r:=Nat.one_le_two_pow
  obtain ⟨k0,s1,e1,hk,hs1⟩:=Nf (n:=n) (k:=9) hs (by omega) (by omega) (by omega)
  rw [Uk,e1,A0];dsimp only
  have leaf:∃ s' t,(ob (Adp n s1 3) λr_3 =>
    bif r_3.1 then
     ob (F2 n r_3.2 6) λr_4 =>
     gd (decide ((nodes.length+1)*32<=140737488355328)) (
      some ((),r_4.2,(nodes++[(1,0,0,r_4.1)])))
    else
     ob (F2 n r_3.2 dim) λr_5 =>
     gd (decide ((nodes.length+1)*32<=140737488355328)) (
      some ((),r_5.2,(nodes++[(2,0,0,r_5.1)]))))=some ((),s',nodes++t)/\C2 dim r nodes.length t/\Er (P+12*4 ^ r) s':=by
   obtain ⟨q,rfl⟩:∃ q,r=q+1:=⟨r-1,by omega⟩
   obtain ⟨b,s2,e2,hs2⟩:=Bj3 (n:=n) (k:=3) hs1 (by omega) (by omega) (by omega)
   rw [e2,A0]
   cases b with
   | true =>
    obtain ⟨c,s3,e3,hc,hs3⟩:=Nf (n:=n) (k:=6) hs2 (by omega) (by omega) (by omega)
    simp only [QW]
    rw [e3,A0,A2 (by rw [QO];omega)]
    exact ⟨s3,_,rfl,.num q _ c (by omega),hs3.up (by omega)⟩
   | false =>
    obtain ⟨c,s3,e3,hc,hs3⟩:=Nf (n:=n) (k:=dim) hs2 (by omega) (by omega) (by omega)
    simp only [QP]
    rw [e3,A0,A2 (by rw [QO];omega)]
    exact ⟨s3,_,rfl,.var q _ c (by omega),hs3.up (by omega)⟩
  by_cases hr:(r:Int)<=1
  . rw [QS hr];exact leaf
  rw [QR hr];by_cases hl:((nodes.length:Int)>30)
  . rw [QS hl];exact leaf
  rw [QR hl];by_cases h3:k0<3
  . rw [QS h3];exact leaf
  rw [QR h3];simp only [QP]
  obtain ⟨q,rfl⟩:∃ q,r=q+1:=⟨r-1,by omega⟩
  have hq1:1<=q:=by omega
  have e4:(4:Int) ^ (q+1)=4*4 ^ q:=by rw [Qau];omega
  have e2:2 ^ (q+1)=2*2 ^ q:=by rw [YL];omega
  have h4q:(4:Int) ^ q>=4:=by
   obtain ⟨q',rfl⟩:∃ q',q=q'+1:=⟨q-1,by omega⟩
   have:(1:Int)<=4 ^ q':=Int.pow_pos (by omega)
   rw [Qau];omega
  have w1:W (((q+1:Nat):Int)-1)=(q:Int):=by rw [A8 (by omega) (by omega)];omega
  rw [w1]
  have wl:∀ m:Nat,m<=1000000->W ((m:Int)-1)=(m:Int)-1:=λm hm=>A8 (by omega) (by omega)
  by_cases h7:k0=3
  . subst h7;simp only [beq_self_eq_true,QW]
    obtain ⟨s2,t,e3,ht,hs2⟩:=Wj hdim d q (n:=n) (dv:=dv) (nodes:=nodes) hq1 (by omega) (by omega) hs1 (by omega) (by omega)
    have hlt:=ht.len
    rw [e3,A0,A2 (by rw [QO];simp only [ZC];omega),ZP,wl _ (by rw [ZC];omega),ZC]
    exact ⟨s2,_,rfl,.neg q _ t ht,hs2.up (by omega)⟩
  . rw [beq_eq_false_iff_ne.2 h7];simp only [QP];by_cases h8:k0=4
    . subst h8;simp only [beq_self_eq_true,QW]
      have em:min (q:Int) 2=((min q 2:Nat):Int):=by omega
      have hm:=YG (n:=2) (by omega) (show min q 2<=q by omega)
      have hm4:(4:Int) ^ (min q 2)<=4 ^ q:=by
       have:=YG (n:=4) (by omega) (show min q 2<=q by omega)
       exact_mod_cast this
      obtain ⟨s2,t,e3,ht,hs2⟩:=Wj hdim d (min q 2) (n:=n) (dv:=dv) (nodes:=nodes) (by omega) (by omega) (by omega) hs1 (by omega) (by omega)
      have hlt:=ht.len
      obtain ⟨c,s3,e5,hc,hs3⟩:=Nf (n:=n) (k:=4) hs2 (by omega) (by omega) (by omega)
      rw [em,e3,A0,e5,A0,A2 (by rw [QO];simp only [ZC];omega),ZP,wl _ (by rw [ZC];omega),ZC]
      exact ⟨s3,_,rfl,.pow q _ t c (by omega) ht,hs3.up (by omega)⟩
    . rw [beq_eq_false_iff_ne.2 h8];simp only [QP];rw [N8,A0]
      obtain ⟨v,s2,e3,hv,hs2⟩:=Nf (n:=n) (k:=W (5+(if dv=true then 1 else 0))) hs1 (by omega) (by rw [A8 (by split <;> omega) (by split <;> omega)];split <;> omega) (by rw [A8 (by split <;> omega) (by split <;> omega)];split <;> omega)
      have hv6:0<=v/\v<6:=by
       rw [A8 (by split <;> omega) (by split <;> omega)] at hv
       refine ⟨hv.1,?_⟩;have:=hv.2;split at this <;> omega
      rw [e3,A0,A2 (by simp [hv6]),A2 (by rw [QO];omega)]
      obtain ⟨s3,t,e5,ht,hs3⟩:=Wj hdim d q (n:=n) (dv:=dv) (nodes:=nodes) hq1 (by omega) (by omega) hs2 (by omega) (by omega)
      have hlt:=ht.len;rw [e5,A0]
      obtain ⟨s4,u,e6,hu,hs4⟩:=Wj hdim d q (n:=n) (dv:=dv) (nodes:=nodes++t) hq1 (by omega) (by omega) hs3 (by omega) (by rw [ZC];omega)
      have hlu:=hu.len
      rw [e6,A0,A2 (by rw [QO];simp only [ZC];omega),wl _ (by rw [ZC];omega),wl _ (by simp only [ZC];omega)]
      refine ⟨s4,t++u++[([(3:Int),3,4,5,5,6].getD v.toNat 0,((nodes.length+t.length:Nat):Int)-1,((nodes.length+t.length+u.length:Nat):Int)-1,0)],?_,.bin q _ t u _ (Blu hv6) ht (by rw [<- ZC];exact hu),hs4.up (by omega)⟩
      simp only [ZC,ZP,Qbe]

theorem Bnv {n:Nat} {l:List Int} {dim:Int} {dv:Bool} (hn:5<=n) (h:∀ x ∈ l,0<=x/\x<=255) (hl:l.length<=1048576) (hdim:1<=dim/\dim<=4) :
  ∃ e r,f20 n l dim dv=some e/\C2 dim r 0 e/\r<=4:=by
 unfold f20 Agl Bcl;rw [A0]
 obtain ⟨c,s1,e1,hc,hs1⟩:=Nf (n:=n) (k:=3) (Blg h hl) (by omega) (by omega) (by omega)
 rw [e1,A0]
 have hw:W (2+c)=(((2+c).toNat:Nat):Int):=by rw [A8 (by omega) (by omega)];omega
 have h4:(4:Int) ^ (2+c).toNat<=4 ^ 4:=by
  have:=YG (n:=4) (by omega) (show (2+c).toNat<=4 by omega)
  exact_mod_cast this
 have h2:=YG (n:=2) (by omega) (show (2+c).toNat<=4 by omega)
 have e44:(4:Int) ^ 4=256:=by decide
 obtain ⟨s2,t,e2,ht,_⟩:=Wj hdim n (2+c).toNat (n:=n) (dv:=dv) (nodes:=[]) (by omega) (by omega) (by omega) hs1 (by omega) (by simp only [ZM];omega)
 have hlt:=ht.len;rw [hw];dsimp only
 rw [e2,A0,List.nil_append,A2 (by rw [decide_eq_true_eq];dsimp only;omega),A0]
 exact ⟨t,_,rfl,ht,by omega⟩

theorem Xp (A:Nat) (g:Nat->Rat):rA A g=vq ((List.range A).map g):=by simp [rA,vq]

theorem Fi {A k:Nat} {g:Nat->Rat} {y:Rat}:(rA A g).set k (rq y)=rA A (Db g k y):=by
 rw [Anq];refine I6 λi _=>?_;unfold Db;by_cases h:k=i
 . rw [QC h,QC h.symm]
 . rw [QB h,QB λe=>h e.symm]

structure Uu (s:Sw) (L:Nat):Prop where
 bar:∀ j,Sz (s.bar j) L
 dot:∀ j,Sz (s.dot j) L
 grad:∀ j,Sz (s.grad j) L
 curve:∀ j,Sz (s.curve j) L

theorem Uu.mono {s:Sw} {L K:Nat} (h:Uu s L) (hK:L<=K):Uu s K:=⟨λj=>(h.bar j).mono hK,λj=>(h.dot j).mono hK,λj=>(h.grad j).mono hK,λj=>(h.curve j).mono hK⟩

theorem A49 {g:Nat->Rat} {k L K:Nat} {y:Rat} (h:∀ j,Sz (g j) L) (hy:Sz y K) (hK:L<=K) (j:Nat):Sz (Db g k y j) K:=by
 unfold Db;split
 . exact hy
 . exact (h j).mono hK

theorem Uu.put {s:Sw} {L C k:Nat} {on to:Rat} (h:Uu s L) (h1:Sz on C) (h2:Sz to C):Uu (Dj s k on to) (L+C+1) :=
 ⟨A49 h.bar (Cl (h.bar k) h1) (by omega),A49 h.dot (Cl (h.dot k) h2) (by omega),λj=>(h.grad j).mono (by omega),λj=>(h.curve j).mono (by omega)⟩

theorem Nw {n N L C A:Nat} {s:Sw} {on to:Rat} {F D:List Rt} (hs:Uu s L) (h1:Sz on C) (h2:Sz to C) (hL:L+C<=1000000000) (hA:A<N) (hn:68719476736<=n) :
  Iv n (F,D,rA N s.bar,rA N s.dot) (A:Int) (rq on) (rq to)=some ((),(F,D,()),rA N (Dj s A on to).bar,rA N (Dj s A on to).dot):=by
 have g:(decide (0<=(A:Int))&&decide ((A:Int)<((N:Nat):Int)))=true:=by simp;omega
 unfold Iv;dsimp only
 rw [Ab,Ab,A2 g,QM,A2 (by simp;omega),Aq hA,Dz (hs.bar A) h1 hL hn,A0,A2 g,A2 (by simp;omega),Aq hA,Dz (hs.dot A) h2 hL hn,A0,A2 g,A2 (by simp;omega),A2 g,A2 (by simp;omega),Fi,Fi]
 rfl

theorem Rx {n L K M P:Nat} {a da f df:Rat} (h1:Sz a L) (h2:Sz da K) (h3:Sz f M) (h4:Sz df P) (hL:L+K+M+P<=100000000) (hn:68719476736<=n):f159 n (rq a) (rq da) (rq f) (rq df)=some (rq (a*f),rq (da*f+a*df)):=by
 unfold f159
 rw [Bf h1 h3 (by omega) hn,A0,Bf h2 h3 (by omega) hn,A0,Bf h1 h4 (by omega) hn,A0,Dz (A7 h2 h3) (A7 h1 h4) (by omega) hn,A0]

theorem B4x {n N k:Nat} {f d:Nat->Rat} {B T:List Rt} (hf:Sz (f k) 40) (hd:Sz (d k) 48061) (h0:f k ≠ 0) (hk:k<N) (hn:68719476736<=n) :
  Amc n (rA N f,rA N d,B,T) (k:Int)=some ((rq (1 / f k),rq (-(1 / f k*(1 / f k)*d k))),(rA N f,rA N d,()),B,T):=by
 have g:(decide (0<=(k:Int))&&decide ((k:Int)<((N:Nat):Int)))=true:=by simp;omega
 have hi:=P0 hf h0;unfold Amc;dsimp only
 rw [iW1 hn,A0,Ab,Ab,A2 g,QM,Aq hk,iOv (Ij (L:=1) (by omega)) hf h0 (by omega) hn,A0,Bf hi hi (by omega) hn,A0,A2 g,Aq hk,Bf (A7 hi hi) hd (by omega) hn,A0,iNg (A7 (A7 hi hi) hd) (by omega),A0]

theorem B4v {n L k:Nat} {f:Rat} {v:Rat} (hf:Sz f L) (hL:L<=1000) (hk:k<=8) (hn:68719476736<=n):Ae5 n (rq f,(),(),rq v) (k:Int)=some (rq (Q4.d1 f k),rq (Q4.d2 f k)):=by
 unfold Ae5;rw [iW0 hn,A0,A0];dsimp only
 match k with
 | 0=>rfl
 | 1 =>
  rw [show decide (((1:Nat):Int)>=1)=true from rfl,QW,show W (((1:Nat):Int)-1)=((0:Nat):Int) from rfl,I8 hf (by omega) (by omega) hn,A0,iW (by omega) hn,A0,Bf (Ey hf 0) (Bx (a:=((1:Nat):Int)) (by omega)) (by omega) hn,A0]
  rfl
 | k+2 =>
  have h2:(k+2)*(k+1)<=8*8:=XF (by omega) (by omega)
  have l1:L*(k+1)<=L*8:=XI _ (by omega)
  have l2:L*k<=L*8:=XI _ (by omega)
  rw [QE,QC (by omega),A8 (x:=((k+2:Nat):Int)-1) (by omega) (by omega),show ((k+2:Nat):Int)-1=((k+1:Nat):Int) by omega,I8 hf (by omega) (by omega) hn,A0,iW (by omega) hn,A0,
   Bf (Ey hf (k+1)) (Bx (a:=((k+2:Nat):Int)) (by omega)) (by omega) hn,A0,QE,QC (by omega),
   A8 (x:=((k+2:Nat):Int)-2) (by omega) (by omega),show ((k+2:Nat):Int)-2=((k:Nat):Int) by omega,I8 hf (by omega) (by omega) hn,A0,show ((k+2:Nat):Int)*((k+1:Nat):Int)=(((k+2)*(k+1):Nat):Int) by rw [XW],
   A8 (x:=(((k+2)*(k+1):Nat):Int)) (by omega) (by omega),iW (by rw [XK];omega) hn,A0,Bf (Ey hf k) (Bx (a:=(((k+2)*(k+1):Nat):Int)) (by rw [XK];omega)) (by omega) hn,A0]
  rfl

def Bgm (f d:Nat->Rat) (x:Nod) (k:Nat):Prop :=
 x.1=6->f x.2.2.1.toNat ≠ 0/\f k=f x.2.1.toNat*(1 / f x.2.2.1.toNat)/\d k=d x.2.1.toNat*(1 / f x.2.2.1.toNat)+f x.2.1.toNat * -(d x.2.2.1.toNat*(1 / f x.2.2.1.toNat*(1 / f x.2.2.1.toNat)))

theorem Bm8 {n N L k:Nat} {f d:Nat->Rat} {s:Sw} {x:Nod} (hx:Bg x k) (h2:x.1 ≠ 2) (hk:k<N) (hf:∀ j,Sz (f j) 40) (hd:∀ j,Sz (d j) 48061) (hq:Bgm f d x k) (hs:Uu s L) (hL:L<=100000000) (hb:Sz (s.bar k) 40) (ht:Sz (s.dot k) 40) (hn:68719476736<=n) :
  Ame n (rA N f,rA N d,rA N s.bar,rA N s.dot) x (k:Int)=some ((),(rA N f,rA N d,()),rA N (Bb f d x k s).bar,rA N (Bb f d x k s).dot)/\Uu (Bb f d x k s) (L+1000000):=by
 obtain ⟨h1,hnum,hA,hB⟩:=hx
 have g:(decide (0<=(k:Int))&&decide ((k:Int)<((N:Nat):Int)))=true:=by simp;omega
 unfold Ame;dsimp only
 rw [Ab,Ab,Ab,Ab,A2 g,QM,A2 (by simp;omega),Aq hk,A2 g,A2 (by simp;omega),Aq hk]
 have p1:∀ {A:Int},0<=A/\A<=(k:Int)-1->∃ a:Nat,A=(a:Int)/\a<k:=λ{A} h=>⟨A.toNat,by omega,by omega⟩
 by_cases c3:x.1=3
 . rw [show (x.1==3)=true by simpa using c3,QW]
   obtain ⟨a,ea,ha⟩:=p1 (by rw [QC (by simp [Aw,c3])] at hA;exact hA)
   obtain ⟨b,eb,hb'⟩:=p1 (by rw [QC (by simp [Aw,c3])] at hB;exact hB)
   have es:Bb f d x k s=Dj (Dj s a (s.bar k) (s.dot k)) b (s.bar k) (s.dot k):=by
    unfold Bb Bu Cw Fb;simp only [c3,ea,eb,QM];simp [KY,Rat.mul_zero,JN]
   have s1:=hs.put (k:=a) hb ht
   rw [es,ea,eb,Nw hs hb ht (by omega) (by omega) hn,A0]
   dsimp only
   rw [Ab,Ab,Nw s1 hb ht (by omega) (by omega) hn,A0]
   dsimp only
   rw [Ab,Ab,A2 (by simp),A2 (by simp)]
   exact ⟨rfl,(s1.put hb ht).mono (by omega)⟩
 rw [show (x.1==3)=false by simpa using c3,QP]
 by_cases c4:x.1=4
 . rw [show (x.1==4)=true by simpa using c4,QW]
   obtain ⟨a,ea,ha⟩:=p1 (by rw [QC (by simp [Aw,c4])] at hA;exact hA)
   obtain ⟨b,eb,hb'⟩:=p1 (by rw [QC (by simp [Aw,c4])] at hB;exact hB)
   have es:Bb f d x k s=Dj (Dj s a (s.bar k) (s.dot k)) b (-s.bar k) (-s.dot k):=by
    have e1:s.bar k * -1 = -s.bar k:=by grind
    have e2:s.dot k * -1 = -s.dot k:=by grind
    unfold Bb Bu Cw Fb;simp only [c4,ea,eb,QM];simp [KY,Rat.mul_zero,JN,e1,e2]
   have s1:=hs.put (k:=a) hb ht
   rw [es,ea,eb,Nw hs hb ht (by omega) (by omega) hn,A0]
   dsimp only
   rw [Ab,Ab,iNg hb (by omega),A0,iNg ht (by omega),A0,Nw s1 (Bj hb) (Bj ht) (by omega) (by omega) hn,A0]
   dsimp only
   rw [Ab,Ab,A2 (by simp),A2 (by simp)]
   exact ⟨rfl,(s1.put (Bj hb) (Bj ht)).mono (by omega)⟩
 rw [show (x.1==4)=false by simpa using c4,QP]
 by_cases c5:x.1=5
 . rw [show (x.1==5)=true by simpa using c5,QW]
   obtain ⟨a,ea,ha⟩:=p1 (by rw [QC (by simp [Aw,c5])] at hA;exact hA)
   obtain ⟨b,eb,hb'⟩:=p1 (by rw [QC (by simp [Aw,c5])] at hB;exact hB)
   have ga:(decide (0<=(a:Int))&&decide ((a:Int)<((N:Nat):Int)))=true:=by simp;omega
   have gb:(decide (0<=(b:Int))&&decide ((b:Int)<((N:Nat):Int)))=true:=by simp;omega
   have es:Bb f d x k s=Dj (Dj s a (s.bar k*f b) (s.dot k*f b+s.bar k*d b)) b (s.bar k*f a) (s.dot k*f a+s.bar k*d a):=by
    unfold Bb Bu Cw Fb;simp only [c5,ea,eb,QM];simp
   have z1:Sz (s.bar k*f b) 100000:=(A7 hb (hf b)).mono (by omega)
   have z2:Sz (s.dot k*f b+s.bar k*d b) 100000:=(Cl (A7 ht (hf b)) (A7 hb (hd b))).mono (by omega)
   have z3:Sz (s.bar k*f a) 100000:=(A7 hb (hf a)).mono (by omega)
   have z4:Sz (s.dot k*f a+s.bar k*d a) 100000:=(Cl (A7 ht (hf a)) (A7 hb (hd a))).mono (by omega)
   have s1:=hs.put (k:=a) z1 z2
   rw [es,ea,eb,A2 gb,QM,Aq (by omega),A2 gb,Aq (by omega),Rx hb ht (hf b) (hd b) (by omega) hn,A0,A2 ga,QM,Aq (by omega),A2 ga,Aq (by omega),Rx hb ht (hf a) (hd a) (by omega) hn,A0]
   dsimp only
   rw [Nw hs z1 z2 (by omega) (by omega) hn,A0]
   dsimp only
   rw [Ab,Ab,Nw s1 z3 z4 (by omega) (by omega) hn,A0]
   dsimp only
   rw [Ab,Ab,A2 (by simp),A2 (by simp)]
   exact ⟨rfl,(s1.put z3 z4).mono (by omega)⟩
 rw [show (x.1==5)=false by simpa using c5,QP]
 by_cases c6:x.1=6
 . rw [show (x.1==6)=true by simpa using c6,QW]
   obtain ⟨a,ea,ha⟩:=p1 (by rw [QC (by simp [Aw,c6])] at hA;exact hA)
   obtain ⟨b,eb,hb'⟩:=p1 (by rw [QC (by simp [Aw,c6])] at hB;exact hB)
   obtain ⟨q1,q2,q3⟩:=hq c6;rw [ea,eb,QM,QM] at q3;rw [ea,eb,QM,QM] at q2;rw [eb,QM] at q1;have hi:=P0 (hf b) q1
   have hdi:Sz (-(1 / f b*(1 / f b)*d b)) 48200:=(Bj (A7 (A7 hi hi) (hd b))).mono (by omega)
   have z1:Sz (s.bar k*(1 / f b)) 100:=(A7 hb hi).mono (by omega)
   have z2:Sz (s.dot k*(1 / f b)+s.bar k * -(1 / f b*(1 / f b)*d b)) 50000:=(Cl (A7 ht hi) (A7 hb hdi)).mono (by omega)
   have z3:Sz (-(s.bar k*(1 / f b)*f k)) 200000:=(Bj (A7 z1 (hf k))).mono (by omega)
   have z4:Sz (-((s.dot k*(1 / f b)+s.bar k * -(1 / f b*(1 / f b)*d b))*f k+s.bar k*(1 / f b)*d k)) 200000:=(Bj (Cl (A7 z2 (hf k)) (A7 z1 (hd k)))).mono (by omega)
   have es:Bb f d x k s=Dj (Dj s a (s.bar k*(1 / f b)) (s.dot k*(1 / f b)+s.bar k * -(1 / f b*(1 / f b)*d b))) b (-(s.bar k*(1 / f b)*f k)) (-((s.dot k*(1 / f b)+s.bar k * -(1 / f b*(1 / f b)*d b))*f k+s.bar k*(1 / f b)*d k)):=by
    unfold Bb Bu Cw Fb;simp only [c6,ea,eb,QM];simp only [q2,q3];generalize 1 / f b=r
    have e1:s.bar k * -(d b*(r*r))=s.bar k * -(r*r*d b):=by grind
    have e2:s.bar k * -(f a*(r*r)) = -(s.bar k*r*(f a*r)):=by grind
    have e3:s.dot k * -(f a*(r*r))+s.bar k*(-(d a*(r*r))+2*(f a*d b*(r*r*r))) = -((s.dot k*r+s.bar k * -(r*r*d b))*(f a*r)+s.bar k*r*(d a*r+f a * -(d b*(r*r)))):=by grind
    simp;rw [e1,e2,e3]
   have s1:=hs.put (C:=50000) (k:=a) (z1.mono (by omega)) z2
   rw [es,ea,eb,B4x (hf b) (hd b) q1 (by omega) hn,A0]
   dsimp only
   rw [Ab,Ab,Ab,Ab,A2 (by simp),Rx hb ht hi hdi (by omega) hn,A0,A2 g,Aq hk,A2 g,Aq hk]
   dsimp only
   rw [Rx z1 z2 (hf k) (hd k) (by omega) hn,A0,Nw (C:=50000) hs (z1.mono (by omega)) z2 (by omega) (by omega) hn,A0]
   dsimp only
   rw [Ab,Ab,A2 (by simp),iNg (A7 z1 (hf k)) (by omega),A0,iNg (Cl (A7 z2 (hf k)) (A7 z1 (hd k))) (by omega),A0,Nw s1 z3 z4 (by omega) (by omega) hn,A0]
   dsimp only
   rw [Ab,Ab,A2 (by simp)]
   exact ⟨rfl,(s1.put z3 z4).mono (by omega)⟩
 rw [show (x.1==6)=false by simpa using c6,QP]
 by_cases c7:x.1=7
 . rw [show (x.1==7)=true by simpa using c7,QW]
   obtain ⟨a,ea,ha⟩:=p1 (by rw [QC (by simp [Aw,c7])] at hA;exact hA)
   have es:Bb f d x k s=Dj s a (-s.bar k) (-s.dot k):=by
    have e1:s.bar k * -1 = -s.bar k:=by grind
    have e2:s.dot k * -1 = -s.dot k:=by grind
    unfold Bb Bu Cw Fb;simp only [c7,ea,QM];simp [Rat.mul_zero,JN,e1,e2]
   rw [es,ea,iNg hb (by omega),A0,iNg ht (by omega),A0,Nw hs (Bj hb) (Bj ht) (by omega) (by omega) hn,A0]
   dsimp only
   rw [Ab,Ab,A2 (by simp)]
   exact ⟨rfl,(hs.put (Bj hb) (Bj ht)).mono (by omega)⟩
 rw [show (x.1==7)=false by simpa using c7,QP]
 by_cases c8:x.1=8
 . rw [show (x.1==8)=true by simpa using c8,QW]
   obtain ⟨a,ea,ha⟩:=p1 (by rw [QC (by simp [Aw,c8])] at hA;exact hA)
   have ga:(decide (0<=(a:Int))&&decide ((a:Int)<((N:Nat):Int)))=true:=by simp;omega
   have hN8:0<=x.2.2.2/\x.2.2.2<=8:=by
    unfold Fc at hnum
    rw [QB (by omega),QB (by omega),QC c8] at hnum
    exact hnum
   have e8:x.2.2.2=((x.2.2.2.toNat:Nat):Int):=by omega
   have d1:=A6m (k:=x.2.2.2.toNat) (hf a) (by omega)
   have d2:=Ami (k:=x.2.2.2.toNat) (hf a) (by omega)
   have es:Bb f d x k s=Dj s a (s.bar k*Q4.d1 (f a) x.2.2.2.toNat) (s.dot k*Q4.d1 (f a) x.2.2.2.toNat+s.bar k*(Q4.d2 (f a) x.2.2.2.toNat*d a)):=by
    unfold Bb Bu Cw Fb;simp only [c8,ea,QM];simp
   have z0:=A7 d2 (hd a)
   have z1:Sz (s.bar k*Q4.d1 (f a) x.2.2.2.toNat) 100000:=(A7 hb d1).mono (by omega)
   have z2:Sz (s.dot k*Q4.d1 (f a) x.2.2.2.toNat+s.bar k*(Q4.d2 (f a) x.2.2.2.toNat*d a)) 100000:=(Cl (A7 ht d1) (A7 hb z0)).mono (by omega)
   have hsl:Ae5 n (rq (f a),(),(),rq (d a)) x.2.2.2=some (rq (Q4.d1 (f a) x.2.2.2.toNat),rq (Q4.d2 (f a) x.2.2.2.toNat)):=by
    have:=B4v (n:=n) (v:=d a) (k:=x.2.2.2.toNat) (hf a) (by omega) (by omega) hn
    rw [<- e8] at this;exact this
   rw [es,ea,A2 ga,QM,Aq (by omega),A2 ga,Aq (by omega),hsl,A0]
   dsimp only
   rw [Bf d2 (hd a) (by omega) hn,A0,Rx hb ht d1 z0 (by omega) hn,A0]
   dsimp only
   rw [Nw hs z1 z2 (by omega) (by omega) hn,A0]
   dsimp only
   rw [Ab,Ab,A2 (by simp)]
   exact ⟨rfl,(hs.put z1 z2).mono (by omega)⟩
 rw [show (x.1==8)=false by simpa using c8,QP]
 have c1:x.1=1:=by omega
 have es:Bb f d x k s=s:=by
  unfold Bb Cw Fb;simp only [c1];simp
 rw [es]
 exact ⟨rfl,hs.mono (by omega)⟩

def Rf (f d:Nat->Rat) (S:Nat->Nod):Nat->Sw->Option Sw
 | 0,s=>some s
 | k+1,s=>if B6 (s.bar k)=true/\B6 (s.dot k)=true then Rf f d S k (Bb f d (S k) k s) else none

theorem Auv {f d:Nat->Rat} {S:Nat->Nod}:∀ {k:Nat} {s t:Sw},Rf f d S k s=some t->t=Xi f d S k s
 | 0,s,t,h=>(QA h).symm
 | k+1,s,t,h=>by
  simp only [Rf] at h;split at h
  . exact Auv (k:=k) h
  . cases h

structure Way (e:List Nod) (dim:Nat) (f d:Nat->Rat):Prop where
 le:e.length<=60
 dm:dim<=4096
 plain:∀ k,k<e.length->Bg (e.getD k (0,0,0,0)) k
 var:∀ k,k<e.length->(e.getD k (0,0,0,0)).1=2->(e.getD k (0,0,0,0)).2.2.2<(dim:Int)
 hang:∀ k,k<e.length->Bgm f d (e.getD k (0,0,0,0)) k
 f:∀ j,Sz (f j) 40
 d:∀ j,Sz (d j) 48061

theorem Amt {x:Nod} {i:Int} (h:Bg x i) (h2:x.1=2):0<=x.2.2.2:=by
 have:=h.2.1;unfold Fc at this
 rw [QB (by omega),QC h2] at this
 exact this.1

theorem Xh {f d:Nat->Rat} {x:Nod} {k:Nat} {s:Sw} (h:x.1=2):Bb f d x k s={ s with grad:=Db s.grad x.2.2.2.toNat (s.grad x.2.2.2.toNat+s.bar k),curve:=Db s.curve x.2.2.2.toNat (s.curve x.2.2.2.toNat+s.dot k) }:=by unfold Bb;rw [QC h]

theorem B3a {f d:Nat->Rat} {x:Nod} {k L:Nat} {s:Sw} (h:x.1=2) (hs:Uu s L) (hb:Sz (s.bar k) 40) (ht:Sz (s.dot k) 40):Uu (Bb f d x k s) (L+1000000):=by
 rw [Xh h]
 exact ⟨λj=>(hs.bar j).mono (by omega),λj=>(hs.dot j).mono (by omega),A49 hs.grad ((Cl (hs.grad _) hb).mono (by omega)) (by omega),A49 hs.curve ((Cl (hs.curve _) ht).mono (by omega)) (by omega)⟩

def Tq (L k:Nat):Prop:=L+1000000*k<=100000000

theorem Tq.step {L k:Nat} (h:Tq L (k+1)):Tq (L+1000000) k:=by unfold Tq at *;omega

theorem Tq.le {L k:Nat} (h:Tq L (k+1)):L<=99000000:=by unfold Tq at *;omega

theorem Afr {α:Type} {n dim:Nat} {e:List Nod} {o:Int} {f d:Nat->Rat} (h:Way e dim f d) (hn:68719476736<=n) {k0:Int->Option α} {k1:List Rt->List Rt->Option α}:∀ (fu k L:Nat) (s:Sw),k<=e.length->k<fu->Tq L k->Uu s L ->
  Ad6 n fu ((k:Int)-1) e o (rA e.length f) (rA e.length d) (rA e.length s.bar) (rA e.length s.dot) (rA dim s.grad) (rA dim s.curve) k0 k1 =
   match Rf f d (λj=>e.getD j (0,0,0,0)) k s with
   | some t=>k1 (rA dim t.grad) (rA dim t.curve)
   | none=>k0 7
 | 0,k,L,s,hk,hf,hL,hs=>by omega
 | fu+1,0,L,s,hk,hf,hL,hs=>by
  rw [Apn];unfold A5e
  rw [QE,QB (by omega)]
  rfl
 | fu+1,k+1,L,s,hk,hf,hL,hs=>by
  have hle:=h.le;have hL':=hL.le;have hdm:=h.dm;rw [Apn];unfold A5e;dsimp only
  rw [show ((k+1:Nat):Int)-1=(k:Int) by omega,QE,QC (by omega),Ab,Ab,Ab,Ab]
  have g:(decide (0<=(k:Int))&&decide ((k:Int)<((e.length:Nat):Int)))=true:=by simp;omega
  rw [A2 g,QM,A2 (by simp;omega),Aq (by omega),K3,A0]
  by_cases hb:B6 (s.bar k)=true
  case neg =>
   rw [show B6 (s.bar k)=false by simpa using hb]
   unfold Rf;rw [QB (λc=>hb c.1)];rfl
  rw [hb,ZJ,QP,A2 g,A2 (by simp;omega),Aq (by omega),K3,A0]
  by_cases ht:B6 (s.dot k)=true
  case neg =>
   rw [show B6 (s.dot k)=false by simpa using ht]
   unfold Rf;rw [QB (λc=>ht c.2)];rfl
  unfold Rf;rw [QC ⟨hb,ht⟩,ht,ZJ,QP,A2 g];have hb:=Cp.1 hb;have ht:=Cp.1 ht
  have hx:=h.plain k (by omega)
  have hvv:=h.var k (by omega)
  have hhg:=h.hang k (by omega)
  generalize e.getD k (0,0,0,0)=x at hx hvv hhg ⊢;by_cases c2:x.1=2
  . have hv:=hvv c2;have hv0:=Amt hx c2
    have ev:x.2.2.2=((x.2.2.2.toNat:Nat):Int):=by omega
    have gv:(decide (0<=x.2.2.2)&&decide (x.2.2.2<((dim:Nat):Int)))=true:=by simp;omega
    have s1:=B3a (f:=f) (d:=d) (L:=L) c2 hs hb ht
    have ih:=Afr (o:=o) h hn (k0:=k0) (k1:=k1) fu k (L+1000000) _ (by omega) (by omega) hL.step s1
    rw [Xh c2] at ih ⊢;dsimp only at ih ⊢
    rw [show (x.1==2)=true by simpa using c2,QW,A2 gv,A2 (by simp;omega),Aq (by omega),A2 g,A2 (by simp;omega),Dz (hs.grad _) hb (by omega) hn,A0,A2 gv,A2 (by simp;omega),Aq (by omega),A2 g,A2 (by simp;omega),Dz (hs.curve _) ht (by omega) hn,A0,A2 gv,A2 (by simp;omega),A2 gv,A2 (by simp;omega),Fi,Fi,A8 (x:=(k:Int)-1) (by omega) (by omega),ih]
  . obtain ⟨e1,s1⟩:=Bm8 (N:=e.length) hx c2 (by omega) h.f h.d hhg hs (by omega) hb ht hn
    have ih:=Afr (o:=o) h hn (k0:=k0) (k1:=k1) fu k (L+1000000) _ (by omega) (by omega) hL.step s1
    have eg:(Bb f d x k s).grad=s.grad/\(Bb f d x k s).curve=s.curve:=by
     unfold Bb;rw [QB c2];dsimp only;split <;> split <;> exact ⟨rfl,rfl⟩
    rw [eg.1,eg.2] at ih
    rw [show (x.1==2)=false by simpa using c2,QP,e1,A0]
    dsimp only
    rw [Ab,Ab,A2 (by simp),A8 (x:=(k:Int)-1) (by omega) (by omega),ih]

theorem B41 {x:Nod} {i:Int} (h:Bg x i) (c8:x.1=8):x.2.2.2.toNat<=8:=by
 have:=h.2.1;unfold Fc at this
 rw [QB (by omega),QB (by omega),QC c8] at this
 omega

theorem Blt {f d:Nat->Rat} {n:Nod} (hf:∀ k,Sz (f k) 40) (hd:∀ k,Sz (d k) 48061) (h6:n.1=6->f n.2.2.1.toNat ≠ 0) (h8:n.1=8->n.2.2.2.toNat<=8):Sz (Bu f d n).da 200000/\Sz (Bu f d n).db 200000:=by
 have z:Sz 0 200000:=Bi.mono (by omega)
 have s2:Sz 2 3:=Bx (a:=2) (by decide)
 unfold Bu;dsimp only;split
 . exact ⟨z,z⟩
 split
 . exact ⟨z,z⟩
 split
 . exact ⟨(hd _).mono (by omega),(hd _).mono (by omega)⟩
 split
 . rename_i h;have r:=P0 (hf n.2.2.1.toNat) (h6 h);have rr:=A7 r r;have a1:=Bj (A7 (hd n.2.2.1.toNat) rr);have a2:=Bj (A7 (hd n.2.1.toNat) rr);have a3:=A7 s2 (A7 (A7 (hf n.2.1.toNat) (hd n.2.2.1.toNat)) (A7 rr r))
   exact ⟨a1.mono (by omega),(Cl a2 a3).mono (by omega)⟩
 split
 . exact ⟨z,z⟩
 split
 . rename_i h
   exact ⟨(A7 (Ami (hf n.2.1.toNat) (h8 h)) (hd n.2.1.toNat)).mono (by omega),z⟩
 . exact ⟨z,z⟩

theorem A2g {N:Nat} (f:Nat->Rat) {j:Nat} (hj:j<N):Pm ((List.range N).map f) j=f j:=by unfold Pm;simp [List.getD,hj]

theorem Bql {N k:Nat} {f d:Nat->Rat} {x:Nod} (hx:Bg x k) (c1:x.1 ≠ 1) (c2:x.1 ≠ 2) (hk:k<=N):Bu (Pm ((List.range N).map f)) (Pm ((List.range N).map d)) x=Bu f d x:=by
 obtain ⟨h1,_,hA,hB⟩:=hx
 have hA:x.2.1.toNat<N:=by
  have hk0:Aw x.1>0:=by unfold Aw;split;omega;split <;> omega
  rw [QC hk0] at hA;omega
 unfold Bu;dsimp only;rw [A2g f hA,A2g d hA];by_cases h36:3<=x.1/\x.1<=6
 . have hB : x.2.2.1.toNat < N := by
    have hk0:Aw x.1>1:=by unfold Aw;rw [QC (by omega)];omega
    rw [QC hk0] at hB;omega
   rw [A2g f hB,A2g d hB]
 . simp only [show ¬ x.1=3 by omega,show ¬ x.1=4 by omega,show ¬ x.1=5 by omega,show ¬ x.1=6 by omega,if_false]

theorem Bgz {n N k:Nat} {f d:Nat->Rat} {x:Nod} (hx:Bg x k) (c1:x.1 ≠ 1) (c2:x.1 ≠ 2) (hk:k<=N) (hf:∀ j,Sz (f j) 40) (hd:∀ j,Sz (d j) 48061) (h6:x.1=6->f x.2.2.1.toNat ≠ 0) (hn:68719476736<=n) :
  f148 n x (rA N f) (rA N d)=some (A4s (Bu f d x)):=by
 have hp:=B3m (n:=n) (K:=48061) (k:=k) (F:=(List.range N).map f) (D:=(List.range N).map d) hx (.inr (by simp;omega)) (by simp;omega) (λy hy=>by obtain ⟨j,_,rfl⟩:=ZK.1 hy;exact hf j) (λy hy=>by obtain ⟨j,_,rfl⟩:=ZK.1 hy;exact hd j) (by decide) (λc6=>by
  have hB:=hx.2.2.2
  rw [QC (show Aw x.1>1 by unfold Aw;rw [QC (by omega)];omega)] at hB
  rw [A2g f (by omega)]
  exact h6 c6) hn
 rw [<- Xp,<- Xp,Bql hx c1 c2 hk] at hp;exact hp

theorem Vf {α : Type} {n dim : Nat} {e : List Nod} {o : Int} {f d : Nat -> Rat} (h : Way e dim f d) (hn : 68719476736 <= n) {k0 : Int -> List Rt -> List Rt -> Option α} {k1 : List Rt -> List Rt -> Option α} : ∀ (fu k L : Nat) (s : Sw), k <= e.length -> k < fu -> Tq L k -> Uu s L ->
      match Rf f d (λj=>e.getD j (0,0,0,0)) k s with
      | some t=>A2h n fu (rA e.length f) (rA e.length d) ((k:Int)-1) e o (rA e.length s.bar) (rA e.length s.dot) (rA dim s.grad) (rA dim s.curve) k0 k1=k1 (rA dim t.grad) (rA dim t.curve)
      | none=>∃ a b,A2h n fu (rA e.length f) (rA e.length d) ((k:Int)-1) e o (rA e.length s.bar) (rA e.length s.dot) (rA dim s.grad) (rA dim s.curve) k0 k1=k0 7 a b
 | 0,k,L,s,hk',hf,hL,hs=>by omega
 | fu+1,0,L,s,hk',hf,hL,hs=>by
  rw [Aoy];unfold A52
  rw [QE,QB (by omega)]
  rfl
 | fu+1,k+1,L,s,hk',hf,hL,hs=>by
  have hle:=h.le;have hL':=hL.le;have hdm:=h.dm;rw [Aoy];unfold A52;generalize hz:Rf f d (λj=>e.getD j (0,0,0,0)) (k+1) s=z;dsimp only
  rw [show ((k+1:Nat):Int)-1=(k:Int) by omega,QE,QC (by omega),QM]
  have hx:=h.plain k (by omega)
  have hvv:=h.var k (by omega)
  have hhg:=h.hang k (by omega)
  generalize hex:e.getD k (0,0,0,0)=x at hx hvv hhg ⊢
  have g:∀ {β:Type} (x:Option β),gd (decide (0<=(k:Int))&&decide ((k:Int)<((e.length:Nat):Int))) x=x:=λx=>A2 (by simp;omega) x
  have g':∀ {β:Type} (x:Option β),gd (decide (k<e.length)) x=x:=λx=>A2 (by simp;omega) x
  have r:∀ a:Nat->Rat,(rA e.length a).getD k (false,[],[])=rq (a k):=λa=>Aq (by omega)
  simp only [Ab,QM,g,g',r,Ayz,A0];by_cases hb:B6 (s.bar k)=true
  case neg =>
   have hz2:z=none:=by rw [<- hz];unfold Rf;rw [QB λc=>hb c.1]
   rw [hz2,show B6 (s.bar k)=false by simpa using hb]
   exact ⟨_,_,rfl⟩
  rw [hb,ZJ,QP];by_cases ht:B6 (s.dot k)=true
  case neg =>
   have hz2:z=none:=by rw [<- hz];unfold Rf;rw [QB λc=>ht c.2]
   rw [hz2,show B6 (s.dot k)=false by simpa using ht]
   exact ⟨_,_,rfl⟩
  have hz2:z=Rf f d (λj=>e.getD j (0,0,0,0)) k (Bb f d x k s):=by
   rw [<- hz,<- hex];exact QC ⟨hb,ht⟩
  rw [hz2,ht,ZJ,QP];have hb:=Cp.1 hb;have ht:=Cp.1 ht;by_cases c2:x.1=2
  . have hv:=hvv c2;have hv0:=Amt hx c2
    have gv:∀ {β:Type} (y:Option β),gd (decide (0<=x.2.2.2)&&decide (x.2.2.2<((dim:Nat):Int))) y=y:=λy=>A2 (by simp;omega) y
    have gv':∀ {β:Type} (y:Option β),gd (decide (x.2.2.2.toNat<dim)) y=y:=λy=>A2 (by simp;omega) y
    have rv:∀ a:Nat->Rat,(rA dim a).getD x.2.2.2.toNat (false,[],[])=rq (a x.2.2.2.toNat):=λa=>Aq (by omega)
    have s1:=B3a (f:=f) (d:=d) (L:=L) c2 hs hb ht
    have ih:=Vf (o:=o) h hn (k0:=k0) (k1:=k1) fu k (L+1000000) _ (by omega) (by omega) hL.step s1
    rw [Xh c2] at ih ⊢;dsimp only at ih ⊢
    rw [show (x.1==2)=true by simpa using c2,QW]
    simp only [gv,gv',rv]
    rw [Tx (hs.grad _) hb (by omega) hn,A0,Tx (hs.curve _) ht (by omega) hn,A0,Ho,A0,c2,show decide (3<=(2:Int)/\(2:Int)<=6)=false by decide,ZW,QW,Ky,A0,show decide ((2:Int)=7 \/ (2:Int)=8)=false by decide,ZW,QW,Fi,Fi,A8 (x:=(k:Int)-1) (by omega) (by omega)]
    exact ih
  rw [show (x.1==2)=false by simpa using c2,QP,Ho,A0]
  obtain ⟨h1,hnum,hA,hB⟩:=hx;by_cases c1:x.1=1
  . have es : Bb f d x k s = s := by
     unfold Bb Cw Fb;simp only [c1];simp
    have ih:=Vf (o:=o) h hn (k0:=k0) (k1:=k1) fu k (L+1000000) s (by omega) (by omega) hL.step (hs.mono (by omega))
    rw [es,c1,show decide (3<=(1:Int)/\(1:Int)<=6)=false by decide,ZW,QW,Ky,A0,show decide ((1:Int)=7 \/ (1:Int)=8)=false by decide,ZW,QW,A8 (x:=(k:Int)-1) (by omega) (by omega)]
    exact ih
  obtain ⟨a,ea,ha⟩:∃ a:Nat,x.2.1=(a:Int)/\a<k:=by
   have hk0:Aw x.1>0:=by unfold Aw;split;omega;split <;> omega
   rw [QC hk0] at hA
   exact ⟨x.2.1.toNat,by omega,by omega⟩
  have hBlt:3<=x.1/\x.1<=6->∃ b:Nat,x.2.2.1=(b:Int)/\b<k:=λh36=>by
   have hk0:Aw x.1>1:=by unfold Aw;rw [QC (by omega)];omega
   rw [QC hk0] at hB
   exact ⟨x.2.2.1.toNat,by omega,by omega⟩
  have hp:=Bgz (n:=n) (N:=e.length) (k:=k) ⟨h1,hnum,hA,hB⟩ c1 c2 (by omega) h.f h.d (λc6=>(hhg c6).1) hn
  have sp:=Az7 (d:=d) h.f (λc6=>(hhg c6).1) (B41 ⟨h1,hnum,hA,hB⟩);have sq:=Blt (d:=d) h.f h.d (λc6=>(hhg c6).1) (B41 ⟨h1,hnum,hA,hB⟩);generalize hP:Bu f d x=P at hp sp sq
  have ga:∀ {β:Type} (y:Option β),gd (decide (0<=(a:Int))&&decide ((a:Int)<((e.length:Nat):Int))) y=y:=λy=>A2 (by simp;omega) y
  have ga':∀ {β:Type} (y:Option β),gd (decide (a<e.length)) y=y:=λy=>A2 (by simp;omega) y
  have ra:∀ c:Nat->Rat,(rA e.length c).getD a (false,[],[])=rq (c a):=λc=>Aq (by omega)
  have hka:k ≠ a:=by omega
  have z1:Sz (s.bar k*P.a) 300000:=(A7 hb sp.1).mono (by omega)
  have z2:Sz (s.dot k*P.a+s.bar k*P.da) 300000:=(Cl (A7 ht sp.1) (A7 hb sq.1)).mono (by omega)
  have z3:Sz (s.bar k*P.b) 300000:=(A7 hb sp.2).mono (by omega)
  have z4:Sz (s.dot k*P.b+s.bar k*P.db) 300000:=(Cl (A7 ht sp.2) (A7 hb sq.2)).mono (by omega)
  have s1:=hs.put (k:=a) z1 z2;by_cases h36:3<=x.1/\x.1<=6
  . obtain ⟨b,eb,hb'⟩:=hBlt h36
    have gb:∀ {β:Type} (y:Option β),gd (decide (0<=(b:Int))&&decide ((b:Int)<((e.length:Nat):Int))) y=y:=λy=>A2 (by simp;omega) y
    have gb':∀ {β:Type} (y:Option β),gd (decide (b<e.length)) y=y:=λy=>A2 (by simp;omega) y
    have rb:∀ c:Nat->Rat,(rA e.length c).getD b (false,[],[])=rq (c b):=λc=>Aq (by omega)
    have es:Bb f d x k s=Dj (Dj s a (s.bar k*P.a) (s.dot k*P.a+s.bar k*P.da)) b (s.bar k*P.b) (s.dot k*P.b+s.bar k*P.db):=by
     have ht2:Cw x=true:=by unfold Cw;simp;omega
     unfold Bb;rw [QB c2];simp only [hP,ht2,Qac,if_true,ea,eb,QM]
    have s2:=s1.put (k:=b) z3 z4;have s1b:∀ j,Sz (Db s.bar a (s.bar a+s.bar k*P.a) j) (L+300000+1):=s1.bar;have s1d:∀ j,Sz (Db s.dot a (s.dot a+(s.dot k*P.a+s.bar k*P.da)) j) (L+300000+1):=s1.dot
    have ih:=Vf (o:=o) h hn (k0:=k0) (k1:=k1) fu k (L+1000000) _ (by omega) (by omega) hL.step (s2.mono (by omega))
    rw [es,QS h36,ZJ,QP,hp,A0];simp only [A4s,ea,eb,QM,ga,ga',ra]
    rw [H9 hb sp.1 (by omega) hn,A0,Tx (hs.bar a) z1 (by omega) hn,A0]
    simp only [Fi,Ab,g,g',r]
    rw [H9 ht sp.1 (by omega) hn,A0,Mk _ _ hka,H9 hb sq.1 (by omega) hn,A0,Tx (A7 ht sp.1) (A7 hb sq.1) (by omega) hn,A0,Tx (hs.dot a) z2 (by omega) hn,A0,A0,QW]
    simp only [Fi,Ab,gb,gb',rb,r]
    rw [Mk _ _ hka,H9 hb sp.2 (by omega) hn,A0,Tx (s1b b) z3 (by omega) hn,A0]
    simp only [Fi,Ab,g,g',r]
    rw [H9 ht sp.2 (by omega) hn,A0,Mk _ _ (show k ≠ b by omega),Mk _ _ hka,H9 hb sq.2 (by omega) hn,A0,Tx (A7 ht sp.2) (A7 hb sq.2) (by omega) hn,A0,Tx (s1d b) z4 (by omega) hn,A0,Fi,A8 (x:=(k:Int)-1) (by omega) (by omega)]
    exact ih
  . have h78:x.1=7 \/ x.1=8:=by omega
    have es:Bb f d x k s=Dj s a (s.bar k*P.a) (s.dot k*P.a+s.bar k*P.da):=by
     have ht2:Cw x=false:=by unfold Cw;simp;omega
     have ho2:Fb x=true:=by unfold Fb;simp;omega
     unfold Bb;rw [QB c2];simp only [hP,ht2,ho2,Bool.or_true,if_true,XG,if_false,ea,QM]
    have ih:=Vf (o:=o) h hn (k0:=k0) (k1:=k1) fu k (L+1000000) _ (by omega) (by omega) hL.step (s1.mono (by omega))
    rw [es,QR h36,ZW,QW,Ky,A0,QS h78,ZJ,QP,hp,A0];simp only [A4s,ea,QM,ga,ga',ra]
    rw [H9 hb sp.1 (by omega) hn,A0,Tx (hs.bar a) z1 (by omega) hn,A0]
    simp only [Fi,Ab,g,g',r]
    rw [H9 ht sp.1 (by omega) hn,A0,Mk _ _ hka,H9 hb sq.1 (by omega) hn,A0,Tx (A7 ht sp.1) (A7 hb sq.1) (by omega) hn,A0,Tx (hs.dot a) z2 (by omega) hn,A0,A0,QP,Fi,A8 (x:=(k:Int)-1) (by omega) (by omega)]
    exact ih

theorem Mj:∀ {a b:List Rat},vq a=vq b->a=b
 | [],[],_=>rfl
 | [],_::_,h=>by simp [vq] at h
 | _::_,[],h=>by simp [vq] at h
 | x::a,y::b,h=>by
  have h:rq x::vq a=rq y::vq b:=h;obtain ⟨h1,h2⟩:=List.cons.inj h;rw [B3q h1,Mj h2]

def Qf (X:List Rat) (w:Nat->Rat) (e:List Nod) (k:Nat):Q4:=(evs (Ac X) (λ_=>0) w e []).getD k (Q4.cst 0)

theorem Bgi {X:List Rat} {w:Nat->Rat} {e:List Nod} {k:Nat} (hk:k<e.length) (h6:(e.getD k (0,0,0,0)).1=6) (ha:(e.getD k (0,0,0,0)).2.1.toNat<k) (hb:(e.getD k (0,0,0,0)).2.2.1.toNat<k) :
  Qf X w e k=Q4.mul (Qf X w e (e.getD k (0,0,0,0)).2.1.toNat) (Q4.inv (Qf X w e (e.getD k (0,0,0,0)).2.2.1.toNat)):=by
 unfold Qf;rw [Wm _ _ _ e hk];unfold Ak
 rw [QB (by omega),QB (by omega),QB (by omega),QB (by omega),QB (by omega),QC h6,L5 _ _ _ e ha (by omega),L5 _ _ _ e hb (by omega)]

theorem Bb4 {x:Nod} {k:Nat} (h:Bg x k) (h6:x.1=6):x.2.1.toNat<k/\x.2.2.1.toNat<k:=by
 obtain ⟨_,_,hA,hB⟩:=h
 have k1:Aw x.1>0:=by unfold Aw;rw [QC (by omega)];omega
 have k2:Aw x.1>1:=by unfold Aw;rw [QC (by omega)];omega
 rw [QC k1] at hA;rw [QC k2] at hB;omega

theorem D7.way {X V:List Rat} {e:List Nod} (h:D7 X V e) (hx:X.length<=4096) {w:Nat->Rat} (hw:w=Ac V \/ w=λ_=>0):Way e X.length (λk=>(Qf X (Ac V) e k).f) (λk=>(Qf X w e k).v):=by
 refine ⟨h.len,hx,λk hk=>(h.all k hk).1,λk hk h2=>(h.all k hk).2 h2,λk hk h6=>?_,h.fit,λj=>?_⟩
 . obtain ⟨ha,hb⟩:=Bb4 (h.all k hk).1 h6;have hbad:=h.ok k hk
   have hf0:(Qf X (Ac V) e (e.getD k (0,0,0,0)).2.2.1.toNat).f ≠ 0:=λh0=>hbad ⟨h6,by rw [L5 _ _ _ e hb (by omega)];exact h0⟩
   have ff:∀ j,(Qf X w e j).f=(Qf X (Ac V) e j).f:=λj=>A4p _ _ _ _ _ e j;refine ⟨hf0,?_,?_⟩
   . rw [Bgi (w:=Ac V) hk h6 ha hb];rfl
   . rw [Bgi (w:=w) hk h6 ha hb];show _*(1 / (Qf X w e _).f)+(Qf X w e _).f * -(_*(1 / (Qf X w e _).f*(1 / (Qf X w e _).f)))=_;rw [ff,ff]
 . rcases hw with rfl | rfl
   . exact h.all_v j
   . show Sz (Qf X (λ_=>0) e j).v 48061;rw [show (Qf X (λ_=>0) e j).v=0 from (B3o (Ac X) (λ_=>0) e j).1]
     exact Bi.mono (by omega)

def Ep (X V:List Rat) (w:Nat->Rat) (e:List Nod):Option Sw :=
 Rf (λk=>(Qf X (Ac V) e k).f) (λk=>(Qf X w e k).v) (λj=>e.getD j (0,0,0,0)) e.length ⟨Db (λ_=>0) (e.length-1) 1,λ_=>0,λ_=>0,λ_=>0⟩

theorem Ay4 (N:Nat):Uu ⟨Db (λ_=>0) N 1,λ_=>0,λ_=>0,λ_=>0⟩ 1 :=
 ⟨A49 (L:=1) (λ_=>Bi) (Ij (by omega)) (ZF _),λ_=>Bi,λ_=>Bi,λ_=>Bi⟩

theorem B3s {N:Nat} (h:N<=60):Tq 1 N:=by unfold Tq;omega

theorem Anl (N:Nat):vq (List.replicate N 0)=rA N (λ_=>0):=(Av3 N).symm

theorem B4y {X V:List Rat} {w:Nat->Rat} {e:List Nod} {n:Nat} (h:Way e X.length (λk=>(Qf X (Ac V) e k).f) (λk=>(Qf X w e k).v)) (h1:1<=e.length) (hx:X.length<=100) (hn:68719476736<=n) :
  f49 n (e,(e.length:Int)-1) (vq X) (rA e.length λk=>(Qf X (Ac V) e k).f) (rA e.length λk=>(Qf X w e k).v)=some (match Ep X V w e with
   | some t=>(rA X.length t.grad,rA X.length t.curve,0)
   | none=>([],[],7)):=by
 have hle:=h.le;unfold f49;dsimp only
 have e1:(e.length:Int)-1=((e.length-1:Nat):Int):=by omega
 rw [Acq (by omega) hn,A0,A0,iW1 hn,A0,Ab,A8 (x:=(e.length:Int)-1) (by omega) (by omega)]
 rw [A2 (by simp;omega),A2 (by simp;omega),Ba,Acq (by omega) hn,A0,A0]
 have:=Afr (α:=List Rt × List Rt × Int) (o:=(e.length:Int)-1) h hn (k0:=λz_18=>some ([],[],z_18)) (k1:=λz_19 z_20=>some (z_19,z_20,0)) n e.length 1 ⟨Db (λ_=>0) (e.length-1) 1,λ_=>0,λ_=>0,λ_=>0⟩ (ZF _) (by omega) (B3s hle) (Ay4 _)
 dsimp only at this
 rw [show ((e.length:Int)-1).toNat=e.length-1 by omega,Fi,this]
 unfold Ep
 cases Rf (λk=>(Qf X (Ac V) e k).f) (λk=>(Qf X w e k).v) (λj=>e.getD j (0,0,0,0)) e.length ⟨Db (λ_=>0) (e.length-1) 1,λ_=>0,λ_=>0,λ_=>0⟩ <;> rfl

theorem B3n {X V:List Rat} {w:Nat->Rat} {e:List Nod} {n:Nat} (h:Way e X.length (λk=>(Qf X (Ac V) e k).f) (λk=>(Qf X w e k).v)) (h1:1<=e.length) (hx:X.length<=100) (hn:68719476736<=n) :
  ∃ a b,f93 n (e,(e.length:Int)-1) (rA e.length λk=>(Qf X (Ac V) e k).f) (rA e.length λk=>(Qf X w e k).v) (X.length:Int)=some (match Ep X V w e with
   | some t=>(rA X.length t.grad,rA X.length t.curve,0)
   | none=>(a,b,7)):=by
 have hle:=h.le;unfold f93;dsimp only
 rw [Ang (by omega) (by omega),A0,A0,sW1 hn,A0,Anl,Ab,A8 (x:=(e.length:Int)-1) (by omega) (by omega)]
 rw [A2 (by simp;omega),A2 (by simp;omega),Ang (by omega) (by omega),A0,A0,Anl]
 have:=Vf (α:=List Rt × List Rt × Int) (o:=(e.length:Int)-1) h hn (k0:=λz_47 z_48 z_49=>some (z_48,z_49,z_47)) (k1:=λz_50 z_51=>some (z_50,z_51,0)) n e.length 1 ⟨Db (λ_=>0) (e.length-1) 1,λ_=>0,λ_=>0,λ_=>0⟩ (ZF _) (by omega) (B3s hle) (Ay4 _)
 rw [show ((e.length:Int)-1).toNat=e.length-1 by omega,Fi]
 unfold Ep;revert this
 cases Rf (λk=>(Qf X (Ac V) e k).f) (λk=>(Qf X w e k).v) (λj=>e.getD j (0,0,0,0)) e.length ⟨Db (λ_=>0) (e.length-1) 1,λ_=>0,λ_=>0,λ_=>0⟩ with
 | some t=>intro this;exact ⟨[],[],this⟩
 | none=>rintro ⟨a,b,this⟩;exact ⟨a,b,this⟩

theorem Am3 {X:List Rat} {w:Nat->Rat} {e:List Nod} (p:Q4->Rat):vq ((evs (Ac X) (λ_=>0) w e []).map p)=rA e.length λk=>p (Qf X w e k):=by
 have hl:(evs (Ac X) (λ_=>0) w e []).length=e.length:=by rw [Ct];simp
 rw [Xp];congr 1;apply Qbg
 . simp [hl]
 . intro i h1 h2;simp only [List.getElem_map,List.getElem_range];unfold Qf;rw [ZA] at h1;simp [QJ,QN h1]

def B2w (g:Sw->Nat->Rat) (m:Nat):Option Sw->List Rt × Int
 | some t=>Pb ((List.range m).map (g t))
 | none=>([],7)

theorem B50 {n:Nat} {e:List Nod} {o:Int} {x:List Rt} (hN:e.length<=1048576) (hn:68719476736<=n):∃ (r:List Rt) (c:Int),f23 n (e,o) x=some (r,c)/\f24 n (e,o) x=some (r,c) /\
  (c=0->∃ X:List Rat,x=vq X/\o=(e.length:Int)-1/\1<=e.length/\D7 X X e /\ ∃ t,Ep X X (λ_=>0) e=some t/\r=vq ((List.range X.length).map t.grad)/\Sv ((List.range X.length).map t.grad) 40)/\(c ≠ 0->r=[]):=by
 have h103:=Afw (n:=n) (e:=e) (o:=o) (l:=x) hN (by omega)
 have h101:=Avy (n:=n) (e:=e) (o:=o) (l:=x) hN (by omega)
 by_cases ha:Gj e o x=0
 . have hs : Em e o x x = 0 := by
    obtain ⟨_,hv,_,hl⟩:=Wt ha;unfold Em P5
    rw [QB (by omega),QB (by rw [ha];simp),QC hv,QC rfl]
   obtain ⟨_,_,_,h4096⟩:=Wt ha;obtain ⟨X,V,rfl,hxv,x1,x4,eo,e1,hr⟩:=Auq (n:=n) hN hn hs;have hXV:X=V:=Mj hxv;subst hXV;rw [Ba] at h4096;rcases hr with ⟨c,c0,h52,h93⟩ | ⟨ht,h52,h93⟩
   . have hc:(c != 0)=true:=by simpa using c0
     refine ⟨[],c,?_,?_,λh=>absurd h c0,λ_=>rfl⟩
     . unfold f23;rw [h52,A0];dsimp only;rw [hc,QW]
     . unfold f24 f66
       rw [QE,QB (by rw [Ba];omega),h101,ha,A0,ZX,QP,h93,A0]
       dsimp only;rw [hc,QW,A0]
   . have hw:=ht.way (by omega) (w:=λ_=>0) (.inr rfl)
     have z0:(λk=>(Qf X (λ_=>0) e k).v)=λ_=>0:=by
      funext k;exact (B3o (Ac X) (λ_=>0) e k).1
     have hle:=ht.len
     have hB:=B4y (n:=n) hw e1 (by omega) hn
     obtain ⟨a,b,hS⟩:=B3n (n:=n) hw e1 (by omega) hn
     rw [z0] at hB hS;rw [Am3] at h52 h93
     have gI:f23 n (e,o) (vq X)=some (B2w Sw.grad X.length (Ep X X (λ_=>0) e)):=by
      unfold f23;rw [h52,A0];dsimp only
      rw [ZX,QP,Ab,Azo (by omega) hn,A0,eo,hB,A0]
      cases Ep X X (λ_=>0) e with
      | none=>rfl
      | some t =>
       dsimp only
       rw [ZX,QP,Xp,Acp (by simp;omega) (by omega),A0]
       rfl
     have gS:f24 n (e,o) (vq X)=some (B2w Sw.grad X.length (Ep X X (λ_=>0) e)):=by
      unfold f24 f66
      rw [QE,QB (by rw [Ba];omega),h101,ha,A0,ZX,QP,h93,A0]
      dsimp only
      rw [ZX,QP,Ab,Auz (by omega) (by omega),A0,Anl,Ba,eo,hS,A0]
      cases Ep X X (λ_=>0) e with
      | none=>rfl
      | some t =>
       dsimp only
       rw [ZX,QP,Xp,Av0 (by simp;omega) (by omega),A0,A0]
       rfl
     refine ⟨_,_,gI,gS,λhc=>?_,λhc=>?_⟩
     . refine ⟨X,rfl,eo,e1,ht,?_⟩;revert hc
       cases Ep X X (λ_=>0) e with
       | none=>intro hc;cases hc
       | some t =>
        intro hc;have hc:(Pb ((List.range X.length).map (Sw.grad t))).2=0:=hc;show ∃ u,some t=some u/\(Pb ((List.range X.length).map (Sw.grad t))).1=vq ((List.range X.length).map u.grad)/\Sv ((List.range X.length).map u.grad) 40;unfold Pb at hc ⊢;by_cases hf:((List.range X.length).map (Sw.grad t)).all B6=true
        . rw [QC hf];exact ⟨t,rfl,rfl,λy hy=>Cp.1 (QK.1 hf y hy)⟩
        . rw [QB hf] at hc;cases hc
     . revert hc
       cases Ep X X (λ_=>0) e with
       | none=>intro _;rfl
       | some t=>exact Avu
 . have hc:(Gj e o x != 0)=true:=by simpa using ha
   refine ⟨[],Gj e o x,?_,?_,λh=>absurd h ha,λ_=>rfl⟩
   . unfold f23 f63;rw [h103,A0,hc,QW,A0];dsimp only;rw [hc,QW]
   . unfold f24;rw [QE];by_cases h1:(x.length:Int)>4096
     . rw [QC h1]
       have:Gj e o x=2:=by unfold Gj;rw [QC (by omega)]
       rw [this]
     . rw [QB h1,h101,A0,hc,QW]

theorem hv_both {n:Nat} {e:List Nod} {o:Int} {x v:List Rt} (hN:e.length<=1048576) (hn:68719476736<=n):∃ (r:List Rt) (c:Int),f14 n (e,o) x v=some (r,c)/\f11 n (e,o) x v=some (r,c) /\
  (c=0->∃ X V:List Rat,x=vq X/\v=vq V/\o=(e.length:Int)-1/\1<=e.length/\D7 X V e /\ ∃ t,Ep X V (Ac V) e=some t/\r=vq ((List.range X.length).map t.curve)/\Sv ((List.range X.length).map t.curve) 40)/\(c ≠ 0->r=[]):=by
 have g96:=Bcs (n:=n) (e:=e) (o:=o) (x:=x) (v:=v) hN (by omega)
 have g11:f11 n (e,o) x v=_:=Bgr (n:=n) (e:=e) (o:=o) (x:=x) (v:=v) (k:=λr_1=>bif (r_1 != 0) then some (([],r_1):List Rt × Int) else ob (f45 n (e,o) x v) λr_2=>some (r_2.1,r_2.2)) hN (by omega) (λ_ _=>rfl)
 by_cases ha:Em e o x v=0
 . have h4096:=(Wt (Aux ha).1).2.2.2;obtain ⟨X,V,rfl,rfl,x1,x4,eo,e1,hr⟩:=Auq (n:=n) hN hn ha;rw [ha,ZX,QP] at g96 g11;rw [Ba] at h4096;rcases hr with ⟨c,c0,h52,h93⟩ | ⟨ht,h52,h93⟩
   . have hc:(c != 0)=true:=by simpa using c0
     rw [h52,A0] at g96;refine ⟨[],c,?_,?_,λh=>absurd h c0,λ_=>rfl⟩
     . unfold f14;rw [g96,A0];dsimp only;rw [hc,QW]
     . rw [g11];unfold f45;rw [h93,A0];dsimp only;rw [hc,QW,A0]
   . have hw:=ht.way (by omega) (w:=Ac V) (.inl rfl)
     have hle:=ht.len
     have hB:=B4y (n:=n) hw e1 (by omega) hn
     obtain ⟨a,b,hS⟩:=B3n (n:=n) hw e1 (by omega) hn
     have hsl:vq (Qk X V e)=rA e.length λk=>(Qf X (Ac V) e k).v:=Am3 Q4.v
     have h95:f90 n (e,o) (vq ((evs (Ac X) (λ_=>0) (Ac V) e []).map Q4.f)) (vq V)=some (vq (Qk X V e)):=by
      unfold f90;dsimp only
      rw [Auz (by omega) (by omega),A0]
      have:=Ac2 (o:=o) ht hn rfl (k0:=λz_20=>some z_20) n 0 (by omega) (by omega)
      exact this
     rw [h52,A0] at g96
     have gI:f14 n (e,o) (vq X) (vq V)=some (B2w Sw.curve X.length (Ep X V (Ac V) e)):=by
      unfold f14;rw [g96,A0];dsimp only;rw [ZX,QP,Bqn ht x1 hn,A0,hsl,Am3,eo,hB,A0]
      cases Ep X V (Ac V) e with
      | none=>rfl
      | some t =>
       dsimp only
       rw [ZX,QP,Xp,Acp (by simp;omega) (by omega),A0]
       rfl
     have gS:f11 n (e,o) (vq X) (vq V)=some (B2w Sw.curve X.length (Ep X V (Ac V) e)):=by
      rw [g11];unfold f45;rw [h93,A0];dsimp only;rw [ZX,QP,h95,A0,hsl,Am3,Ba,eo,hS,A0]
      cases Ep X V (Ac V) e with
      | none=>rfl
      | some t =>
       dsimp only
       rw [ZX,QP,Xp,Av0 (by simp;omega) (by omega),A0,A0]
       rfl
     refine ⟨_,_,gI,gS,λhc=>?_,λhc=>?_⟩
     . refine ⟨X,V,rfl,rfl,eo,e1,ht,?_⟩;revert hc
       cases Ep X V (Ac V) e with
       | none=>intro hc;cases hc
       | some t =>
        intro hc;have hc:(Pb ((List.range X.length).map (Sw.curve t))).2=0:=hc;show ∃ u,some t=some u/\(Pb ((List.range X.length).map (Sw.curve t))).1=vq ((List.range X.length).map u.curve)/\Sv ((List.range X.length).map u.curve) 40;unfold Pb at hc ⊢;by_cases hf:((List.range X.length).map (Sw.curve t)).all B6=true
        . rw [QC hf];exact ⟨t,rfl,rfl,λy hy=>Cp.1 (QK.1 hf y hy)⟩
        . rw [QB hf] at hc;cases hc
     . revert hc
       cases Ep X V (Ac V) e with
       | none=>intro _;rfl
       | some t=>exact Avu
 . have hc:(Em e o x v != 0)=true:=by simpa using ha
   rw [hc,QW] at g96 g11;refine ⟨[],_,?_,g11,λh=>absurd h ha,λ_=>rfl⟩;unfold f14;rw [g96,A0];dsimp only;rw [hc,QW]

theorem At4 {x:Nod} {k:Nat} (h:Bg x k):Ma x k:=by
 obtain ⟨h1,_,hA,hB⟩:=h
 have t2:Cw x=true->3<=x.1/\x.1<=6:=λh=>by unfold Cw at h;simp at h;omega
 have o2:Fb x=true->x.1=7 \/ x.1=8:=λh=>by unfold Fb at h;simpa using h
 refine ⟨h1,λh=>?_,λh=>?_⟩
 . have k1 : Aw x.1 > 0 := by
    have:3<=x.1/\x.1<=8:=by
     rcases h with h | h
     . have:=t2 h;omega
     . have:=o2 h;omega
    unfold Aw;split;omega;split <;> omega
   rw [QC k1] at hA;omega
 . have:=t2 h
   have k2:Aw x.1>1:=by unfold Aw;rw [QC (by omega)];omega
   rw [QC k2] at hB;omega

theorem Blm {x u w:Nat->Rat} {e:List Nod} (hp:∀ k,k<e.length->Bg (e.getD k (0,0,0,0)) k) {k:Nat} (hk:k<e.length) :
  (evs x u w e []).getD k (Q4.cst 0)=Gd x u w (λk=>(evs x u w e []).getD k (Q4.cst 0)) (e.getD k (0,0,0,0)):=by
 rw [Wm x u w e hk,A4q]
 exact Xt (At4 (hp k hk)) λj hj=>L5 x u w e hj (by omega)

theorem Asw {X V:List Rat} {w:Nat->Rat} {e:List Nod} (ht:D7 X V e) (h1:1<=e.length) {t:Sw} (hb:Ep X V w e=some t) (u:Nat->Rat) :
  ((evs (Ac X) u w e []).getD (e.length-1) (Q4.cst 0)).a=sm X.length (λj=>t.grad j*u j)/\((evs (Ac X) u w e []).getD (e.length-1) (Q4.cst 0)).c=sm X.length (λj=>t.curve j*u j):=by
 have hp:∀ k,k<e.length->Bg (e.getD k (0,0,0,0)) k:=λk hk=>(ht.all k hk).1;have:=Auv hb
 have key:=B3b (x:=Ac X) (u:=u) (w:=w) (S:=λj=>e.getD j (0,0,0,0)) (dim:=X.length) (N:=e.length) (out:=e.length-1) (Q:=λk=>(evs (Ac X) u w e []).getD k (Q4.cst 0))
  (λk hk=>⟨At4 (hp k hk),λh2=>by have:=(ht.all k hk).2 h2;have:=Amt (hp k hk) h2;omega,Blm hp hk⟩) (by omega)
 have ef:(λk=>((evs (Ac X) u w e []).getD k (Q4.cst 0)).f)=λk=>(Qf X (Ac V) e k).f:=by funext k;exact A4p _ _ _ _ _ e k
 have ed:(λk=>((evs (Ac X) u w e []).getD k (Q4.cst 0)).v)=λk=>(Qf X w e k).v:=by funext k;exact Bqk _ _ _ _ e k
 rw [ef,ed,<- this] at key;exact key

theorem A40:∀ (r:List Nod) (p:List Nod × List Int),(r.foldl cst p).1.length<=p.1.length+r.length
 | [],p=>by simp
 | x::r,p=>by
  rw [JQ];have h1:=A40 r (cst p x);have h2:=(Wp p x).2;simp only [QY];omega

theorem Ats {α:Type} {n:Nat} {e:List Nod} (hN:e.length<=1048576) (hn:1048577<=n) (hk:A0a e) {p:List Nod × List Int} (hlt:p.2.length<e.length) (hp:p.1.length<=p.2.length) {c2:Int} {f} {k0:Int->List Nod->Option α} :
  Vp n e (e.length:Int) (p.2.length:Int) c2 p.1 p.2 f k0=f e (e.length:Int) ((p.2.length:Int)+1) c2 (cst p (e.getD p.2.length (0,0,0,0))).1 (cst p (e.getD p.2.length (0,0,0,0))).2:=by
 obtain ⟨st,at_⟩:=p;simp only at hlt hp ⊢;have h:=hk at_.length hlt;simp only at h;unfold Vp
 rw [QE,QC (by omega),A2 (by simp;omega)]
 simp only [QM];obtain ⟨x,hx⟩:∃ x,x=e.getD at_.length (0,0,0,0):=⟨_,rfl⟩;simp only [<- hx] at h ⊢;clear hx;obtain ⟨h1,h2,h3⟩:=h;simp only [S5,A0];by_cases t2:3<=x.1/\x.1<=6
 . have a2:=h2 (by omega)
   have a3:=h3 t2
   have hkd:Aw x.1=2:=by unfold Aw;rw [QC (by omega)]
   rw [hkd,QE,QC (by omega),A2 (by simp;omega),A2 (by simp;omega),QE,QC (by omega),A2 (by simp;omega),A2 (by simp;omega)]
   have e1:(x.1,at_.getD x.2.1.toNat 0,at_.getD x.2.2.1.toNat 0,x.2.2.2)=cx at_ x:=by
    unfold cx;rw [QC (by omega),QC t2]
   rw [e1,Ape (by omega) hn,A0,QE]
   unfold cst;by_cases hf:fi st (cx at_ x) 0<0
   . rw [QC hf,QC hf,A2 (by simp;omega),A2 (by simp;omega),A8 (by omega) (by omega)]
   . rw [QB hf,QB hf,A2 (by simp;omega),A8 (by omega) (by omega)]
 . by_cases t1:x.1=7 \/ x.1=8
   . have a2:=h2 (by omega)
     have hkd:Aw x.1=1:=by unfold Aw;rw [QB (by omega),QC (by omega)]
     rw [hkd,QE,QC (by omega),A2 (by simp;omega),A2 (by simp;omega),QE,QB (by omega)]
     have e1:(x.1,at_.getD x.2.1.toNat 0,x.2.2.1,x.2.2.2)=cx at_ x:=by
      unfold cx;rw [QC (by omega),QB t2]
     rw [e1,Ape (by omega) hn,A0,QE]
     unfold cst;by_cases hf:fi st (cx at_ x) 0<0
     . rw [QC hf,QC hf,A2 (by simp;omega),A2 (by simp;omega),A8 (by omega) (by omega)]
     . rw [QB hf,QB hf,A2 (by simp;omega),A8 (by omega) (by omega)]
   . have hkd:Aw x.1=0:=by unfold Aw;rw [QB (by omega),QB (by omega)]
     rw [hkd,QE,QB (by omega),QE,QB (by omega)]
     have e1:(x.1,x.2.1,x.2.2.1,x.2.2.2)=cx at_ x:=by
      unfold cx;rw [QB (by omega),QB t2]
     rw [e1,Ape (by omega) hn,A0,QE]
     unfold cst;by_cases hf:fi st (cx at_ x) 0<0
     . rw [QC hf,QC hf,A2 (by simp;omega),A2 (by simp;omega),A8 (by omega) (by omega)]
     . rw [QB hf,QB hf,A2 (by simp;omega),A8 (by omega) (by omega)]

theorem Acm {α:Type} {n:Nat} {e:List Nod} (hN:e.length<=1048576) (hn:1048577<=n) (hk:A0a e) {c2:Int} {k0:Int->List Nod->Option α}:∀ (r:List Nod) (m:Nat) (p:List Nod × List Int),e.drop p.2.length=r->p.2.length+r.length=e.length->p.1.length<=p.2.length->r.length<m ->
  Ad9 n m e (e.length:Int) (p.2.length:Int) c2 p.1 p.2 k0=k0 c2 (r.foldl cst p).1
 | [],m+1,p,hd,hl,hp,hm=>by
  rw [Apr];unfold Vp;simp only [ZM] at hl
  rw [QE,QB (by omega)]
  rfl
 | x::r,m+1,p,hd,hl,hp,hm=>by
  obtain ⟨hx,hlt,hd'⟩:=D5 (d:=(0,0,0,0)) hd;rw [Apr,Ats hN hn hk hlt hp,hx];simp only [QY] at hl hm;obtain ⟨q1,q2⟩:=Wp p x
  have:=Acm (c2:=c2) hN hn hk r m (cst p x) (by rw [q1];exact hd') (by omega) (by omega) (by omega) (n:=n) (k0:=k0)
  rw [q1] at this;exact this

open Classical in
theorem Bnd {n:Nat} {e:List Nod} (hN:e.length<=1048576) (hn:1048577<=n):f22 n e=some (if Gy e then ((El e,((El e).length:Int)-1),0) else (([],0),1)):=by
 unfold f22;unfold f60;rw [Axo hN hn,A0,D4,A0,A0];by_cases h:Gy e
 . have h1:=h.1;rw [QC (QS h),QC h]
   have:=Acm (c2:=0) hN hn (Zl hN h) e n ([],[]) rfl (by simp) (by simp) (by omega) (n:=n) (k0:=λ(z_10:Int) (z_11:List Nod)=>(
     some ((z_11,(W ((z_11.length:Int)-1))),(0:Int))))
   obtain ⟨l1,l2⟩:=A44 e ([],[]) (by simp)
   simp only [ZM,YI] at l1
   rw [A8 (by omega) (by omega)] at this
   exact this
 . rw [QB (λh2=>h (Qaa h2)),QB h];rfl

theorem Aok {x u w:Nat->Rat} {e:List Nod} {k:Nat} (h:Ma (e.getD k (0,0,0,0)) k) (hk:k<e.length) :
  (evs x u w e []).getD k (Q4.cst 0)=Gd x u w (λk=>(evs x u w e []).getD k (Q4.cst 0)) (e.getD k (0,0,0,0)):=by
 rw [Wm x u w e hk,A4q]
 exact Xt h λj hj=>L5 x u w e hj (by omega)

theorem Aoj {x u w:Nat->Rat} {s:List Nod} {y:Nod} {k:Nat} (hk:k<s.length):(evs x u w (s++[y]) []).getD k (Q4.cst 0)=(evs x u w s []).getD k (Q4.cst 0):=by
 rw [Ng,A6c _ _ _ _ _ _ (by rw [Ct];simpa using hk)]

theorem Acg {e:List Nod} (hk:A0a e) {j:Nat} (hj:j<e.length):Ma (e.getD j (0,0,0,0)) j:=by
 obtain ⟨h1,h2,h3⟩:=hk j hj;refine ⟨h1,λh=>?_,λh=>?_⟩
 . simp only [Cw,Fb,XA,QO] at h
   have:=h2 (by omega)
   omega
 . simp only [Cw,XA,QO] at h
   have:=h3 (by omega)
   omega

theorem Bgx {x u w:Nat->Rat} {Q R:Nat->Q4} {at_:List Int} {y:Nod} (hy:Ma y at_.length) (h:∀ j,j<at_.length->Q (at_.getD j 0).toNat=R j):Gd x u w Q (cx at_ y)=Gd x u w R y:=by
 obtain ⟨hy1,hA,hB⟩:=hy;simp only [Cw,Fb,XA,QO] at hA hB
 have A:3<=y.1/\y.1<=8->Q (cx at_ y).2.1.toNat=R y.2.1.toNat:=λt=>by
  rw [<- h _ (hA (by omega))]
  show Q (if _ then _ else _:Int).toNat=_
  rw [QC t]
 have B:3<=y.1/\y.1<=6->Q (cx at_ y).2.2.1.toNat=R y.2.2.1.toNat:=λt=>by
  rw [<- h _ (hB (by omega))]
  show Q (if _ then _ else _:Int).toNat=_
  rw [QC t]
 unfold Gd;have e1:(cx at_ y).1=y.1:=rfl;have e2:(cx at_ y).2.2.2=y.2.2.2:=rfl;rw [e1,e2];by_cases c1:y.1=1
 . rw [QC c1,QC c1]
 by_cases c2:y.1=2
 . rw [QB c1,QB c1,QC c2,QC c2]
 rw [QB c1,QB c1,QB c2,QB c2,A (by omega)]
 by_cases c3:y.1<=6
 . rw [B (by omega)]
 . simp only [QB (show ¬ y.1=3 by omega),QB (show ¬ y.1=4 by omega),QB (show ¬ y.1=5 by omega),QB (show ¬ y.1=6 by omega)]

structure CJ (x u w:Nat->Rat) (e:List Nod) (p:List Nod × List Int):Prop where
 a:∀ i,i<p.2.length->0<=p.2.getD i 0/\p.2.getD i 0<(p.1.length:Int)/\(evs x u w p.1 []).getD (p.2.getD i 0).toNat (Q4.cst 0)=(evs x u w e []).getD i (Q4.cst 0)
 s:∀ k,k<p.1.length->Ma (p.1.getD k (0,0,0,0)) k

theorem CJ.step {x u w:Nat->Rat} {e:List Nod} (hk:A0a e) {p:List Nod × List Int} (hc:CJ x u w e p) (hj:p.2.length<e.length) {y:Nod} (hx:e.getD p.2.length (0,0,0,0)=y):CJ x u w e (cst p y):=by
 obtain ⟨st,at_⟩:=p
 have ha:Ma y at_.length:=by have:=Acg hk hj;rw [hx] at this;exact this
 have hJ:Gd x u w (λk=>(evs x u w st []).getD k (Q4.cst 0)) (cx at_ y)=(evs x u w e []).getD at_.length (Q4.cst 0):=by
  rw [Aok (Acg hk hj) hj,hx];exact Bgx ha λj hj=>(hc.a j hj).2.2
 have hA:Ma (cx at_ y) st.length:=by
  obtain ⟨y1,yA,yB⟩:=ha;simp only [Cw,Fb,XA,QO] at yA yB;refine ⟨y1,λh=>?_,λh=>?_⟩
  . simp only [Cw,Fb,XA,QO] at h
    have h:3<=y.1/\y.1<=8:=by
     have e1:(cx at_ y).1=y.1:=rfl;rw [e1] at h;omega
    obtain ⟨q1,q2,_⟩:=hc.a _ (yA (by omega))
    show (if _ then _ else _:Int).toNat<_
    rw [QC h];simp only at q1 q2;omega
  . simp only [Cw,XA,QO] at h
    have h:3<=y.1/\y.1<=6:=by
     have e1:(cx at_ y).1=y.1:=rfl;rw [e1] at h;omega
    obtain ⟨q1,q2,_⟩:=hc.a _ (yB (by omega))
    show (if _ then _ else _:Int).toNat<_
    rw [QC h];simp only at q1 q2;omega
 unfold cst;simp only at hj hx;by_cases hf:fi st (cx at_ y) 0<0
 . simp only [QC hf];refine ⟨λi hi=>?_,λk hk'=>?_⟩
   . simp only [ZC,QY,ZM] at hi ⊢;rcases ZT i at_.length with hi' | hi'
     . rw [B7 hi'];obtain ⟨a1,a2,a3⟩:=hc.a i hi';simp only at a1 a2 a3
       exact ⟨a1,by omega,by rw [Aoj (by omega)];exact a3⟩
     . obtain rfl:i=at_.length:=by omega
       rw [B5]
       refine ⟨by omega,by omega,?_⟩
       have hlt:st.length<(st++[cx at_ y]).length:=by simp
       rw [QM,Aok (e:=st++[cx at_ y]) (by rw [B5];exact hA) hlt,B5,<- hJ]
       exact Xt hA λj hj=>Aoj hj
   . simp only [ZC,QY,ZM] at hk';rcases ZT k st.length with hk2 | hk2
     . rw [B7 hk2];exact hc.s k hk2
     . obtain rfl:k=st.length:=by omega
       rw [B5];exact hA
 . simp only [QB hf];obtain ⟨k,k1,k2,k3⟩:=A50 _ _ _ hf;refine ⟨λi hi=>?_,λk hk'=>hc.s k hk'⟩;simp only [ZC,QY,ZM] at hi ⊢;rcases ZT i at_.length with hi' | hi'
   . rw [B7 hi'];exact hc.a i hi'
   . obtain rfl:i=at_.length:=by omega
     rw [B5,k2]
     refine ⟨by omega,by omega,?_⟩
     have k3:st.getD k (0,0,0,0)=cx at_ y:=k3
     rw [show (((0:Nat):Int)+(k:Int)).toNat=k by omega,Aok (hc.s k k1) k1,k3]
     exact hJ

theorem Ay3 {x u w:Nat->Rat} {e:List Nod} (hk:A0a e):∀ (r:List Nod) (p:List Nod × List Int),e.drop p.2.length=r->CJ x u w e p->CJ x u w e (r.foldl cst p)
 | [],p,_,hc=>hc
 | y::r,p,hd,hc=>by
  obtain ⟨hx,hlt,hd'⟩:=D5 (d:=(0,0,0,0)) hd;have hc':=hc.step hk hlt hx;obtain ⟨q1,_⟩:=Wp p y
  exact Ay3 hk r (cst p y) (by rw [q1];exact hd') hc'

theorem Ayu {e:List Nod} (hN:e.length<=1048576) (h:Gy e) (x u w:Nat->Rat) :
  (evs x u w (El e) []).getD ((El e).length-1) (Q4.cst 0)=(evs x u w e []).getD (e.length-1) (Q4.cst 0):=by
 have h1:=h.1
 have hc:CJ x u w e (e.foldl cst ([],[])):=Ay3 (Zl hN h) e ([],[]) rfl ⟨λi hi=>by simp at hi,λk hk'=>by simp at hk'⟩
 obtain ⟨l1,_⟩:=A44 e ([],[]) (by simp)
 simp only [ZM,YI] at l1
 obtain ⟨_,_,a3⟩:=hc.a (e.length-1) (by rw [l1];omega)
 have hl:=Asl hN h;rw [<- a3];show _=List.getD _ ((Ay2 e).getD (e.length-1) 0).toNat _
 rw [hl,show (((El e).length:Int)-1).toNat=(El e).length-1 by omega]

theorem Ti (x u w:Nat->Rat) (t:List Nd) (n:Nd) (l:List Q4):evs x u w (t++[n]) l=evs x u w t l++[Ak x u w (evs x u w t l) n]:=by rw [Ng];rfl

theorem Ob {l:List Q4} {q:Q4} {k:Nat} (h:k=l.length):(l++[q]).getD k (Q4.cst 0)=q:=by subst h;simp [List.getD]

theorem A2d {l m:List Q4} {k:Nat} (h:k<l.length):(l++m).getD k (Q4.cst 0)=l.getD k (Q4.cst 0):=by simp [List.getD,ZH h]

def Pk (x u w:Nat->Rat) (t:List Nd) (l:List Q4) (j:Nat):Prop:=∀ i,i<=j->i<t.length->¬ Dh (evs x u w (t.take i) l) (t.getD i (0,0,0,0))

theorem Pk.left {x u w:Nat->Rat} {t s:List Nd} {l:List Q4} {j:Nat} (h:Pk x u w (t++s) l j) {i:Nat} (hi:i<=j):Pk x u w t l i:=λk hk hlt=>by
 have:=h k (by omega) (by rw [ZC];omega)
 rwa [List.take_append_of_le_length (by omega),show (t++s).getD k (0,0,0,0)=t.getD k (0,0,0,0) by simp [List.getD,ZH hlt]] at this

theorem Pk.right {x u w:Nat->Rat} {t s:List Nd} {l:List Q4} {j:Nat} (h:Pk x u w (t++s) l j) {i:Nat} (hi:t.length+i<=j):Pk x u w s (evs x u w t l) i:=λk hk hlt=>by
 have:=h (t.length+k) (by omega) (by rw [ZC];omega)
 rwa [List.take_append,show t.length+k-t.length=k by omega,XS (show t.length<=t.length+k by omega),Ng,show (t++s).getD (t.length+k) (0,0,0,0)=s.getD k (0,0,0,0) by simp only [List.getD];rw [ZG (by omega),KV]] at this

theorem Pk.last {x u w:Nat->Rat} {t:List Nd} {n:Nd} {l:List Q4} {j:Nat} (h:Pk x u w (t++[n]) l j) (hj:t.length<=j):¬ Dh (evs x u w t l) n:=by
 have:=h t.length hj (by simp)
 rwa [List.take_left' rfl,show (t++[n]).getD t.length (0,0,0,0)=n by simp [List.getD]] at this

def Mf:Nat->Nat
 | 0=>261
 | 1=>261
 | 2=>261 ^ 3
 | 3=>261 ^ 9
 | _=>2*(261 ^ 9*261 ^ 9)

theorem Wy {r:Nat} (hr:r<=3):1<=Mf r/\261<=Mf (r+1)/\Mf r<=Mf (r+1)/\2*(Mf r*Mf r)<=Mf (r+1)+(if r=0 then 1000000 else 0)/\(∀ p,p<=3->Mf (min r 2) ^ p<=Mf (r+1)+(if r=0 then 100000000 else 0)):=by
 have:r=0 \/ r=1 \/ r=2 \/ r=3:=by omega
 refine ⟨?_,?_,?_,?_,λp hp=>?_⟩
 . rcases this with rfl | rfl | rfl | rfl <;> decide
 . rcases this with rfl | rfl | rfl | rfl <;> decide
 . rcases this with rfl | rfl | rfl | rfl <;> decide
 . rcases this with rfl | rfl | rfl | rfl <;> decide
 . have hp:p=0 \/ p=1 \/ p=2 \/ p=3:=by omega
   rcases this with rfl | rfl | rfl | rfl <;> rcases hp with rfl | rfl | rfl | rfl <;> decide

theorem C2.rpos {dim:Int} {r k:Nat} {t:List Nod} (h:C2 dim r k t):1<=r:=by cases h <;> omega

theorem C2.frq {dim:Int} {x u w:Nat->Rat} (hv:∀ i:Nat,(i:Int)<dim->Cz ⟨x i,u i,w i,0⟩ 261) {r k:Nat} {t:List Nod} (h:C2 dim r k t):r<=4->∀ l:List Q4,l.length=k ->
  ∀ j,j<t.length->Pk x u w t l j->Cz ((evs x u w t l).getD (k+j) (Q4.cst 0)) (Mf r):=by
 induction h with
 | num r k c h =>
  intro hr l hl j hj _
  obtain rfl:j=0:=by simp at hj;omega
  show Cz ((l++[Ak x u w l (1,0,0,c)]).getD (k+0) (Q4.cst 0)) _
  rw [Ob (by omega)]
  have:=(Wy (r:=r) (by omega)).2.1
  unfold Ak;rw [QC rfl]
  exact (Cz.cst c).mono (by omega)
 | var r k v h =>
  intro hr l hl j hj _
  obtain rfl:j=0:=by simp at hj;omega
  show Cz ((l++[Ak x u w l (2,0,0,v)]).getD (k+0) (Q4.cst 0)) _
  rw [Ob (by omega)]
  have:=(Wy (r:=r) (by omega)).2.1
  unfold Ak
  rw [QB (by simp),QC rfl]
  exact (hv v.toNat (by omega)).mono this
 | neg r k t h ih =>
  intro hr l hl j hj hf;have hp:=h.pos
  have hm:=(Wy (r:=r) (by omega)).2.2.1
  rw [Ti]
  have hlen:(evs x u w t l).length=k+t.length:=by rw [Ct,hl]
  rcases ZT j t.length with hj' | hj'
  . rw [A2d (by omega)]
    exact (ih (by omega) l hl j hj' (hf.left (ZF _))).mono hm
  . obtain rfl:j=t.length:=by simp at hj;omega
    rw [Ob (by omega)]
    have h1:=ih (by omega) l hl (t.length-1) (by omega) (hf.left (by omega))
    unfold Ak
    simp only [show ¬ ((7:Int)=1) by omega,show ¬ ((7:Int)=2) by omega,show ¬ ((7:Int)=3) by omega,show ¬ ((7:Int)=4) by omega,show ¬ ((7:Int)=5) by omega,show ¬ ((7:Int)=6) by omega,if_false,if_true]
    rw [Cx hp];exact (h1.mono hm).neg
 | pow r k t p hp0 h ih =>
  intro hr l hl j hj hf;have hp:=h.pos;have hr1:=h.rpos
  have hm:=(Wy (r:=r) (by omega)).2.2
  have hmm:Mf (min r 2)<=Mf (r+1):=by
   have:=hm.2.2 1 (by omega)
   rw [QB (by omega),Nat.pow_one] at this
   exact this
  rw [Ti]
  have hlen:(evs x u w t l).length=k+t.length:=by rw [Ct,hl]
  rcases ZT j t.length with hj' | hj'
  . rw [A2d (by omega)]
    exact (ih (by omega) l hl j hj' (hf.left (ZF _))).mono hmm
  . obtain rfl:j=t.length:=by simp at hj;omega
    rw [Ob (by omega)]
    have h1:=ih (by omega) l hl (t.length-1) (by omega) (hf.left (by omega))
    unfold Ak
    simp only [show ¬ ((8:Int)=1) by omega,show ¬ ((8:Int)=2) by omega,show ¬ ((8:Int)=3) by omega,show ¬ ((8:Int)=4) by omega,show ¬ ((8:Int)=5) by omega,show ¬ ((8:Int)=6) by omega,show ¬ ((8:Int)=7) by omega,if_false]
    rw [Cx hp];refine (h1.pow p.toNat).mono ?_
    have:=hm.2.2 p.toNat (by omega)
    rw [QB (by omega)] at this
    exact this
 | bin r k t s op ho h1 h2 ih1 ih2 =>
  intro hr l hl j hj hf;have hp1:=h1.pos;have hp2:=h2.pos;have hr1:=h1.rpos
  have hm:=(Wy (r:=r) (by omega))
  have hm2:2*(Mf r*Mf r)<=Mf (r+1):=by have:=hm.2.2.2.1;rw [QB (by omega)] at this;exact this
  rw [Ti]
  have hlt:(evs x u w t l).length=k+t.length:=by rw [Ct,hl]
  have hlen:(evs x u w (t++s) l).length=k+t.length+s.length:=by rw [Ct,hl,ZC];omega
  have e2:evs x u w (t++s) l=evs x u w s (evs x u w t l):=Ng x u w t s l
  have at1:∀ i,i<t.length->Pk x u w t l i->Cz ((evs x u w (t++s) l).getD (k+i) (Q4.cst 0)) (Mf r):=λi hi hfi=>by
   rw [e2,A6c x u w s _ _ (by omega)]
   exact ih1 (by omega) l hl i hi hfi
  have at2:∀ i,i<s.length->Pk x u w s (evs x u w t l) i->Cz ((evs x u w (t++s) l).getD (k+t.length+i) (Q4.cst 0)) (Mf r):=λi hi hfi=>by
   rw [e2]
   exact ih2 (by omega) (evs x u w t l) hlt i hi hfi
  rcases ZT j (t.length+s.length) with hj' | hj'
  . rw [A2d (by omega)]
    have hfl:=hf.left (ZF _);rcases ZT j t.length with hj1 | hj1
    . exact (at1 j hj1 (hfl.left (ZF _))).mono hm.2.2.1
    . have:=at2 (j-t.length) (by omega) (hfl.right (by omega))
      rw [show k+t.length+(j-t.length)=k+j by omega] at this
      exact this.mono hm.2.2.1
  . obtain rfl:j=t.length+s.length:=by simp at hj;omega
    rw [Ob (by omega)]
    have hfl:=hf.left (ZF _)
    have ha:=at1 (t.length-1) (by omega) (hfl.left (by omega))
    have hb:=at2 (s.length-1) (by omega) (hfl.right (by omega))
    have hbad:=hf.last (by rw [ZC];exact ZF _)
    have hone:=hm.1;unfold Dh at hbad;unfold Ak;simp only [Cx hp1,Cx hp2] at hbad ⊢
    have hmul:Mf r*Mf r<=Mf (r+1):=by omega
    have:op=3 \/ op=4 \/ op=5 \/ op=6:=by omega
    rcases this with rfl | rfl | rfl | rfl
    . simp only [show ¬ ((3:Int)=1) by omega,show ¬ ((3:Int)=2) by omega,if_false,if_true]
      exact (ha.add hb).mono hm2
    . simp only [show ¬ ((4:Int)=1) by omega,show ¬ ((4:Int)=2) by omega,show ¬ ((4:Int)=3) by omega,if_false,if_true]
      exact (ha.add hb.neg).mono hm2
    . simp only [show ¬ ((5:Int)=1) by omega,show ¬ ((5:Int)=2) by omega,show ¬ ((5:Int)=3) by omega,show ¬ ((5:Int)=4) by omega,if_false,if_true]
      exact (ha.mul hb).mono hmul
    . simp only [show ¬ ((6:Int)=1) by omega,show ¬ ((6:Int)=2) by omega,show ¬ ((6:Int)=3) by omega,show ¬ ((6:Int)=4) by omega,show ¬ ((6:Int)=5) by omega,if_false,if_true]
      exact (ha.mul (hb.inv λh0=>hbad ⟨rfl,h0⟩)).mono hmul

theorem Bs5 {r:Nat} (hr:r<=4):Mf r<=Mf 4:=by
 have:r=0 \/ r=1 \/ r=2 \/ r=3 \/ r=4:=by omega
 rcases this with rfl | rfl | rfl | rfl | rfl <;> decide

theorem Hb.sz40 {y:Rat} (h:Hb y (6*(Mf 4*Mf 4*Mf 4))):Sz y 40:=by
 have hb:6*(Mf 4*Mf 4*Mf 4)<10000 ^ 40:=by decide +kernel
 exact ⟨Ek (JT h.1 hb),Ek (JT h.2 hb)⟩

theorem C2.short {dim:Int} {x u w:Nat->Rat} (hv:∀ i:Nat,(i:Int)<dim->Cz ⟨x i,u i,w i,0⟩ 261) {r:Nat} {t:List Nod} (h:C2 dim r 0 t) (hr:r<=4) {j:Nat} (hj:j<t.length) (hf:Pk x u w t [] j) :
  Sz ((evs x u w t []).getD j (Q4.cst 0)).f 40/\Sz ((evs x u w t []).getD j (Q4.cst 0)).a 40/\Sz ((evs x u w t []).getD j (Q4.cst 0)).v 40/\Sz ((evs x u w t []).getD j (Q4.cst 0)).c 40:=by
 have h1:=(h.frq hv hr [] rfl j hj hf).mono (Bs5 hr);rw [YI] at h1;obtain ⟨a,b,c,d⟩:=h1.sizes;exact ⟨a.sz40,b.sz40,c.sz40,d.sz40⟩

def Pi (x:Nat->Rat) (t:List Nd) (i:Nat):Prop:=Dh (evs x (λ_=>0) (λ_=>0) (t.take i) []) (t.getD i (0,0,0,0))

def Tt (x:Nat->Rat) (t:List Nd):Prop:=∃ i,i<t.length/\Pi x t i

def Sz4 (q:Q4):Prop:=Sz q.f 40/\Sz q.a 40/\Sz q.v 40/\Sz q.c 40

def A09 (x u w:Nat->Rat) (t:List Nd):Prop:=∀ j,j<t.length->(∀ i,i<=j->¬ Pi x t i)->Sz4 ((evs x u w t []).getD j (Q4.cst 0))

theorem Ahw {x u w:Nat->Rat} {t:List Nd} {i:Nat}:Dh (evs x u w (t.take i) []) (t.getD i (0,0,0,0)) ↔ Pi x t i:=by
 unfold Pi Dh;rw [A4p x u w (λ_=>0) (λ_=>0)]

theorem C2.all {dim:Int} {x u w:Nat->Rat} (hv:∀ i:Nat,(i:Int)<dim->Cz ⟨x i,u i,w i,0⟩ 261) {r:Nat} {t:List Nod} (h:C2 dim r 0 t) (hr:r<=4):A09 x u w t:=λj hj hf =>
 h.short hv hr hj λi hi _ hb=>hf i hi (Ahw.1 hb)

theorem An3 {t pre r:List Nd} {n:Nd} (h:t=pre++n::r):t.take pre.length=pre/\t.getD pre.length (0,0,0,0)=n/\pre.length<t.length:=by
 subst h
 refine ⟨by simp,by simp [List.getD],by simp⟩

theorem Mv {x:Rat} (h:Sz x 40):B6 x=true:=Cp.2 h

open Classical in
theorem Axw {A:Nat} {x w:Nat->Rat} {t:List Nd} (hs:∀ i,A09 x (B1 A i) w t):∀ (ns pre:List Nd),t=pre++ns->(∀ i,i<pre.length->¬ Pi x t i) ->
  evN A x w ns (λi=>evs x (B1 A i) w pre [])=if Tt x t then .inr 10 else .inl λi=>evs x (B1 A i) w t []
 | [],pre,h,hb=>by
  rw [XT] at h;subst h;rw [QB (λ⟨i,hi,hbi⟩=>hb i hi hbi)];rfl
 | n::r,pre,h,hb=>by
  obtain ⟨t1,t2,t3⟩:=An3 h
  have e1:Dh (evs x (B1 A 0) w pre []) n ↔ Pi x t pre.length:=by rw [<- Ahw (u:=B1 A 0) (w:=w),t1,t2]
  have e2:∀ i,(evs x (B1 A i) w t []).getD pre.length (Q4.cst 0)=Ak x (B1 A i) w (evs x (B1 A i) w pre []) n:=λi=>by rw [Wm x (B1 A i) w t t3,t1,t2]
  unfold evN;by_cases hbad:Pi x t pre.length
  . rw [QC (e1.2 hbad),QC ⟨_,t3,hbad⟩]
  . rw [QB (λhh=>hbad (e1.1 hh))]
    have hle:∀ i,i<=pre.length->¬ Pi x t i:=λi hi=>by
     rcases ZT i pre.length with h1 | h1
     . exact hb i h1
     . obtain rfl:i=pre.length:=by omega
       exact hbad
    have hfq:∀ i,Sz4 (Ak x (B1 A i) w (evs x (B1 A i) w pre []) n):=λi=>by rw [<- e2 i];exact hs i pre.length t3 hle
    have hN:Ry A (λi=>Ak x (B1 A i) w (evs x (B1 A i) w pre []) n)=true:=by
     unfold Ry;rw [Mv (hfq 0).1,Mv (hfq 0).2.2.1,ZZ,ZZ,Tp];exact λi _=>Mv (hfq i).2.1
    rw [QC hN]
    have:=Axw hs r (pre++[n]) (by rw [h];simp) (λi hi=>hle i (by simp at hi;omega))
    simp only [Ti] at this;exact this

open Classical in
theorem Axv {A:Nat} {x w:Nat->Rat} {t:List Nd} (hs:∀ i,A09 x (B1 A i) w t):∀ (ns pre:List Nd),t=pre++ns->(∀ i,i<pre.length->¬ Pi x t i) ->
  evX A x w ns (λi=>evs x (B1 A i) w pre [])=if Tt x t then .inr 10 else .inl λi=>evs x (B1 A i) w t []
 | [],pre,h,hb=>by
  rw [XT] at h;subst h;rw [QB (λ⟨i,hi,hbi⟩=>hb i hi hbi)];rfl
 | n::r,pre,h,hb=>by
  obtain ⟨t1,t2,t3⟩:=An3 h
  have e1:Dh (evs x (B1 A 0) w pre []) n ↔ Pi x t pre.length:=by rw [<- Ahw (u:=B1 A 0) (w:=w),t1,t2]
  have e2:∀ i,(evs x (B1 A i) w t []).getD pre.length (Q4.cst 0)=Ak x (B1 A i) w (evs x (B1 A i) w pre []) n:=λi=>by rw [Wm x (B1 A i) w t t3,t1,t2]
  unfold evX;by_cases hbad:Pi x t pre.length
  . rw [QC (e1.2 hbad),QC ⟨_,t3,hbad⟩]
  . rw [QB (λhh=>hbad (e1.1 hh))]
    have hle:∀ i,i<=pre.length->¬ Pi x t i:=λi hi=>by
     rcases ZT i pre.length with h1 | h1
     . exact hb i h1
     . obtain rfl:i=pre.length:=by omega
       exact hbad
    have hfq:∀ i,Sz4 (Ak x (B1 A i) w (evs x (B1 A i) w pre []) n):=λi=>by rw [<- e2 i];exact hs i pre.length t3 hle
    have hN:Rz A (λi=>Ak x (B1 A i) w (evs x (B1 A i) w pre []) n)=true:=by
     unfold Rz;rw [Mv (hfq 0).1,Mv (hfq 0).2.2.1,ZZ,ZZ,QH,Tp,Tp];exact ⟨λi _=>Mv (hfq i).2.1,λi _=>Mv (hfq i).2.2.2⟩
    rw [QC hN]
    have:=Axv hs r (pre++[n]) (by rw [h];simp) (λi hi=>hle i (by simp at hi;omega))
    simp only [Ti] at this;exact this

theorem C2.allP {dim:Int} (hdim:dim<=4) {r:Nat} {t:List Nod} (h:C2 dim r 0 t) (hr:r<=5):Go.Ev.allP t dim/\1<=t.length/\t.length<=60:=by
 have he:=h.expr hdim hr
 have hd:∀ {r k:Nat} {t:List Nod},C2 dim r k t->∀ x ∈ t,x.1=2->x.2.2.2<dim:=by
  intro r k t h
  induction h with
  | num r k c h=>intro x hx;simp at hx;subst hx;simp
  | var r k v h=>intro x hx;simp at hx;subst hx;intro _;exact h.2
  | neg r k t h ih=>intro x hx;rcases QG.1 hx with hx | hx;exact ih x hx;simp at hx;subst hx;simp
  | pow r k t p hp h ih=>intro x hx;rcases QG.1 hx with hx | hx;exact ih x hx;simp at hx;subst hx;simp
  | bin r k t u op ho h1 h2 ih1 ih2 =>
   intro x hx;rcases QG.1 hx with hx | hx
   . rcases QG.1 hx with hx | hx
     . exact ih1 x hx
     . exact ih2 x hx
   . simp at hx;subst hx;intro h2;simp at h2;omega
 have hdx:=hd h;obtain ⟨hl,bs,ds,hrun,_⟩:=he;refine ⟨λk hk=>⟨?_,λh2=>?_⟩,hl.1,hl.2⟩
 . have:=Ac4 t [] [] _ hrun k hk;simpa using this
 . refine hdx _ ?_ h2;simp [List.getD,QN hk]

theorem Beu {X V:List Rat} (hX:Bv X 10 9) (hV:Bv V 10 9) {δ:Int} (hδ:δ.natAbs<=1) {i:Nat} (hi:i<X.length) (hi2:i<V.length):Cz ⟨Ac X i,(δ:Rat),Ac V i,0⟩ 261:=by
 have h1:=hX.get hi;have h2:=hV.get hi2;exact Cz.var (A:=10) (B:=9) (C:=10) (D:=9) h1.1 h1.2 h2.1 h2.2 hδ

theorem C2.vars {dim:Int} {r k:Nat} {t:List Nod} (h:C2 dim r k t):∀ x ∈ t,x.1=2->0<=x.2.2.2/\x.2.2.2<dim:=by
 induction h with
 | num r k c h=>intro x hx;simp at hx;subst hx;simp
 | var r k v h=>intro x hx;simp at hx;subst hx;intro _;exact h
 | neg r k t h ih=>intro x hx;rcases QG.1 hx with hx | hx;exact ih x hx;simp at hx;subst hx;simp
 | pow r k t p hp h ih=>intro x hx;rcases QG.1 hx with hx | hx;exact ih x hx;simp at hx;subst hx;simp
 | bin r k t u op ho h1 h2 ih1 ih2 =>
  intro x hx;rcases QG.1 hx with hx | hx
  . rcases QG.1 hx with hx | hx
    . exact ih1 x hx
    . exact ih2 x hx
  . simp at hx;subst hx;intro h2;simp at h2;omega

theorem Axz {d:Int} (hd:d<=4):∀ (l:List Nod) (s:Int),s<=d->(∀ x ∈ l,x.1=2->0<=x.2.2.2/\x.2.2.2<d)->H0 s l<=d
 | [],s,hs,_=>hs
 | x::l,s,hs,h=>by
  unfold H0;rw [JQ];refine Axz hd l _ ?_ λy hy=>h y (ZI _ hy);split
  . rename_i h2;have:=h x (YA ..) h2
    rw [A8 (by omega) (by omega)];omega
  . exact hs

structure Pl (m:Nat) (e:List Nod) (X V:List Rat):Prop where
 m1:1<=m
 m4:m<=4
 tree:∃ r,C2 (m:Int) r 0 e/\r<=4
 xl:X.length=m
 vl:V.length=m
 xb:Bv X 10 9
 vb:Bv V 10 9

theorem Bqb {x:List Rat} (h:Bv x 10 9):Sv x 40:=h.sz (by decide) (by decide)

theorem Pl.allP {m:Nat} {e:List Nod} {X:List Rat} {V:List Rat} (h:Pl m e X V):Go.Ev.allP e (X.length:Int)/\1<=e.length/\e.length<=60:=by
 obtain ⟨r,h1,h2⟩:=h.tree;rw [h.xl]
 exact h1.allP (by have:=h.m4;omega) (by omega)

theorem Pl.ask {m:Nat} {e:List Nod} {X:List Rat} {V:List Rat} (h:Pl m e X V):Abd e (vq X)=0:=by
 obtain ⟨r,h1,h2⟩:=h.tree;have hm:=h.m1;have hm4:=h.m4;have hl:=h.xl;unfold Abd
 rw [QB (by rw [Ba];omega),QC ⟨A3t.2 (h1.expr (by omega) (by omega)),B34 (Bqb h.xb) (by omega) (by omega)⟩,QB (by rw [Ba,hl];have:=Axz (d:=(m:Int)) (by omega) e 0 (by omega) h1.vars;omega)]

theorem Pl.short {m:Nat} {e:List Nod} {X:List Rat} {V:List Rat} (h:Pl m e X V) {u w:Nat->Rat} (hu:∀ i,i<m->∃ δ:Int,δ.natAbs<=1/\u i=(δ:Rat)) (hw:∀ i,i<m->w i=Ac V i \/ w i=0):A09 (Ac X) u w e:=by
 obtain ⟨r,h1,h2⟩:=h.tree;refine h1.all (λi hi=>?_) h2
 have hi:i<m:=by omega
 obtain ⟨δ,d1,d2⟩:=hu i hi
 have hx:=h.xb.get (i:=i) (by rw [h.xl];exact hi)
 rw [d2];rcases hw i hi with hw | hw
 . rw [hw]
   exact Beu h.xb h.vb d1 (by rw [h.xl];exact hi) (by rw [h.vl];exact hi)
 . rw [hw]
   exact (Cz.var (w:=0) (A:=10) (B:=9) (C:=0) (D:=1) hx.1 hx.2 (by decide) (by decide) d1).mono (by omega)

theorem Ahp (A i k:Nat):∃ δ:Int,δ.natAbs<=1/\B1 A i k=(δ:Rat):=by
 unfold B1;split
 . exact ⟨1,by decide,by simp⟩
 . exact ⟨0,by decide,by simp⟩

def U4 (x u w:Nat->Rat) (e:List Nod):Q4:=(evs x u w e []).getD (e.length-1) (Q4.cst 0)

theorem Ao9 {x u w:Nat->Rat} {e:List Nod} (h:A09 x u w e) (h1:1<=e.length) (hb:¬ Tt x e):Sz4 (U4 x u w e):=h _ (by omega) λi hi hbi=>hb ⟨i,by omega,hbi⟩

open Classical in
theorem Pl.slopC {m:Nat} {e:List Nod} {X:List Rat} {V:List Rat} (h:Pl m e X V):Go.Ev.slopC e (vq X) (vq V)=0:=by
 have hm:=h.m1;have hm4:=h.m4;have hl:=h.xl;have hv:=h.vl;unfold Go.Ev.slopC P5
 rw [QB (by rw [Ba,Ba];omega),QB (by rw [h.ask];simp),QC (B34 (Bqb h.vb) (by omega) (by omega)),QC (by rw [Ba,Ba];omega)]

open Classical in
theorem Wk {n:Nat} {α:Type} {s1:List Rt} {g:Nat->Rat} {N:Nat} (hN:N<=4096) (hg:∀ i,i<N->f121 n (i:Int) s1=some (rq (g i))/\Sz (g i) 1000000) {k0:List Rt->Option α}:∀ (m i:Nat),i<=N->N<i+m ->
  O2 n m s1 (N:Int) (i:Int) (vq ((List.range i).map g)) k0=k0 (vq ((List.range N).map g))
 | 0,i,hi,hm=>by omega
 | m+1,i,hi,hm=>by
  rw [Al2];unfold Ta;rw [QE];by_cases h:i<N
  . rw [QC (by omega),(hg i h).1,A0,Bhv (hg i h).2,A0,A2 (by simp [vq];omega)]
    have e:vq ((List.range i).map g)++[rq (g i)]=vq ((List.range (i+1)).map g):=by simp [vq,Qas]
    rw [e,A8 (x:=(i:Int)+1) (by omega) (by omega)]
    exact Wk hN hg m (i+1) (by omega) (by omega)
  . obtain rfl:i=N:=by omega
    rw [QB (by omega)]

open Classical in
open Classical in
theorem B5l {n:Nat} {A:Nat} {g:Nat->Rat} (hA:A<=100) (hg:∀ i,i<A->Sz (g i) 1000000) (hn:1048577<=n):f69 n (rA A g)=some (vq ((List.range A).map g)):=by
 unfold f69 Ab9;rw [Ab]
 have:=Wk (n:=n) (s1:=rA A g) (g:=g) (N:=A) (by omega) (λi hi=>⟨by
  unfold f121
  rw [A2 (by rw [Ab];simp;omega),QM,Aq hi],hg i hi⟩) (k0:=λz=>some z) n 0 (by omega) (by omega)
 rw [show vq ((List.range 0).map g)=[] from rfl] at this;rw [show ((0:Nat):Int)=0 from rfl] at this;rw [this,A0]

open Classical in
theorem Bmb {n:Nat} {m:Nat} {e:List Nod} {X:List Rat} {V:List Rat} (h:Pl m e X V) (hn:68719476736<=n):f26 n e (vq X)=some (if Tt (Ac X) e then ([],10) else (vq ((List.range m).map λi=>(U4 (Ac X) (B1 m i) (λ_=>0) e).a),0)):=by
 obtain ⟨hp,h1,h60⟩:=h.allP;have hm:=h.m4;unfold f26
 rw [Avx (by omega) (by omega),A0,h.ask,ZX,QP,Ba,h.xl,Bm0 (V:=X) (A:=m) hp h1 h60 rfl (by omega) hn]
 have hs:∀ i,A09 (Ac X) (B1 m i) (λ_=>0) e:=λi=>h.short (λk _=>Ahp m i k) (w:=λ_=>0) (λ_ _=>.inr rfl)
 have:=Axw (A:=m) hs e [] rfl (λi hi=>by simp at hi)
 rw [show (λi=>evs (Ac X) (B1 m i) (λ_=>0) [] [])=λ_=>[] from rfl] at this;rw [this];by_cases hb:Tt (Ac X) e
 . rw [QC hb,QC hb];rfl
 . rw [QB hb,QB hb,A0]
   show (bif ((0:Int) != 0) then _ else ob (f69 n (rA m λi=>(U4 (Ac X) (B1 m i) (λ_=>0) e).a)) _)=_
   rw [ZX,QP,B5l (by omega) (λi _=>((Ao9 (hs i) h1 hb).2.1.mono (by omega))) (by omega),A0]

def Aem (X:List Rat) (w:Nat->Rat) (e:List Nod) (m:Nat):List Rat:=(List.range m).map λk=>(U4 (Ac X) (B1 m k) w e).c

open Classical in
theorem Beh {m:Nat} {e:List Nod} {X:List Rat} {V:List Rat} (h:Pl m e X V) (hb:¬ Tt (Ac X) e) (k:Nat):Sz4 (U4 (Ac X) (B1 m k) (Ac V) e):=Ao9 (h.short (λj _=>Ahp m k j) (w:=Ac V) (λ_ _=>.inl rfl)) h.allP.2.1 hb

open Classical in
theorem Bhk {n:Nat} {m:Nat} {e:List Nod} {X:List Rat} {V:List Rat} (h:Pl m e X V) (hn:68719476736<=n):f27 n e (vq X) (vq V)=some (if Tt (Ac X) e then ([],10) else (vq (Aem X (Ac V) e m),0)):=by
 obtain ⟨hp,h1,h60⟩:=h.allP;have hm:=h.m4;have hm1:=h.m1;unfold f27
 rw [Ayx (by omega) (by omega),h.slopC,ZX,QP,Ba,h.xl,Bm1 (V:=V) (A:=m) hp h1 h60 (by rw [h.vl,h.xl]) (by rw [h.vl];omega) (by omega) hn]
 have hs:∀ i,A09 (Ac X) (B1 m i) (Ac V) e:=λi=>h.short (λk _=>Ahp m i k) (w:=Ac V) (λ_ _=>.inl rfl)
 have:=Axv (A:=m) hs e [] rfl (λi hi=>by simp at hi)
 rw [show (λi=>evs (Ac X) (B1 m i) (Ac V) [] [])=λ_=>[] from rfl] at this;rw [this];by_cases hb:Tt (Ac X) e
 . rw [QC hb,QC hb];rfl
 . rw [QB hb,QB hb,A0]
   show (bif ((0:Int) != 0) then _ else ob (f69 n (rA m λi=>(U4 (Ac X) (B1 m i) (Ac V) e).c)) _)=_
   rw [ZX,QP,B5l (by omega) (λi _=>((Beh h hb i).2.2.2.mono (by omega))) (by omega),A0]
   rfl

theorem B3j {m i:Nat} {g:Nat->Rat} (hi:i<m):sm m (λj=>g j*B1 m i j)=g i:=by
 rw [Rg (h:=λj=>Db (λ_=>0) i 1 j*g j) λj _=>by
  unfold B1 Db;by_cases h:j=i
  . rw [QC ⟨h,hi⟩,QC h,Rat.mul_comm]
  . rw [QB λe=>h e.1,QB h,Rat.mul_zero,Rat.zero_mul],Afe hi,Rat.one_mul]

theorem Bky {b:List Int} (hb:∀ x ∈ b,0<=x/\x<=255):∀ x ∈ [5]++b,0<=x/\x<=255:=λx hx=>by
 simp at hx;rcases hx with rfl | hx
 . omega
 . exact hb x hx

open Classical in
theorem Brm {n:Nat} {a b:List Int} (ha:∀ x ∈ a,0<=x/\x<=255) (hb:∀ x ∈ b,0<=x/\x<=255) (hn:68719476736<=n):f4 n a b=some true:=by
 unfold f4;by_cases hl:(a.length:Int)>1048576
 . rw [QS hl];rfl
 rw [QR hl,QP];by_cases hl2:(b.length:Int)>1048576
 . rw [QS hl2];rfl
 rw [QR hl2,QP]
 obtain ⟨e,r,e1,hd,hr⟩:=Bnv (n:=n) (dim:=3) (dv:=true) (by omega) ha (by omega) (by omega)
 rw [e1,A0]
 obtain ⟨X,e2,hX,bX⟩:=Bnk (n:=n) (k:=3) hb (by omega) (by omega) (by omega)
 have e2:f21 n b 3=some (vq X):=e2
 rw [e2,A0,A2 (by simp;omega)]
 have hl3:([5]++b).length<=1048577:=by simp;omega
 obtain ⟨V,e3,hV,bV⟩:=Bi4 (n:=n) (k:=3) (Bky hb) hl3 (by omega) (by omega)
 have e3:f21 n ([5]++b) 3=some (vq V):=e3;rw [e3,A0]
 have D:Pl 3 e X V:=⟨by omega,by omega,⟨r,hd,hr⟩,hX,hV,bX,bV⟩
 obtain ⟨_,h1,h60⟩:=D.allP
 have hE:Gy e:=hd.expr (by omega) (by omega)
 have hz25:f25 n [] []=some true:=A22 (x:=[]) (y:=[]) rfl (by simp) (λa ha=>by simp at ha) (by omega)
 have hsl:(El e).length<=60:=by
  have:=A40 e ([],[]);simp only [ZM] at this;show (e.foldl cst ([],[])).1.length<=60;omega
 rw [Bnd (by omega) (by omega),QC hE,A0]
 obtain ⟨p,c,g1,g2,g3,g4⟩:=B50 (n:=n) (e:=El e) (o:=((El e).length:Int)-1) (x:=vq X) (by omega) hn
 obtain ⟨q,d,v1,v2,v3,v4⟩:=hv_both (n:=n) (e:=El e) (o:=((El e).length:Int)-1) (x:=vq X) (v:=vq V) (by omega) hn
 dsimp only;rw [g1,A0,g2,A0,v1,A0,v2,A0,Bmb D hn,A0,Bhk D hn,A0];dsimp only;rw [ZX,QP,ZX,QP]
 have hp:f25 n p p=some true:=by
  by_cases hc:c=0
  . obtain ⟨X1,q1,_,_,_,t,_,hr,hs⟩:=g3 hc;have q1:=Mj q1;subst q1
    rw [hr,A22 rfl (by simp;omega) (λa ha=>(hs a ha).mono (by omega)) (by omega),QS rfl]
  . rw [g4 hc,hz25]
 have hq:f25 n q q=some true:=by
  by_cases hc:d=0
  . obtain ⟨X1,V1,q1,_,_,_,_,t,_,hr,hs⟩:=v3 hc;have q1:=Mj q1;subst q1
    rw [hr,A22 rfl (by simp;omega) (λa ha=>(hs a ha).mono (by omega)) (by omega),QS rfl]
  . rw [v4 hc,hz25]
 rw [hp,A0,ZJ,QP,ZX,QP,hq,A0,ZJ,QP]
 have mean:=Ayu (e:=e) (by omega) hE
 have hN:1<=(El e).length->c=0->¬ Tt (Ac X) e->f25 n p (vq ((List.range 3).map λi=>(U4 (Ac X) (B1 3 i) (λ_=>0) e).a))=some true:=λk1 hc hbd=>by
  obtain ⟨X1,q1,_,_,ht,t,hb2,hr,hs⟩:=g3 hc;have q1:=Mj q1;subst q1;rw [hX] at hr hs
  have:(List.range 3).map t.grad=(List.range 3).map λi=>(U4 (Ac X) (B1 3 i) (λ_=>0) e).a:=ZE λi hi=>by
   have hi:i<3:=XP.1 hi;have k2:=(Asw ht k1 hb2 (B1 3 i)).1;rw [hX,B3j hi,mean] at k2;exact k2.symm
  rw [hr,<- this,A22 rfl (by simp) (λa ha=>(hs a ha).mono (by omega)) (by omega),QS rfl]
 have hM:1<=(El e).length->d=0->¬ Tt (Ac X) e->f25 n q (vq (Aem X (Ac V) e 3))=some true:=λk1 hc hbd=>by
  obtain ⟨X1,V1,q1,q2,_,_,ht,t,hb2,hr,hs⟩:=v3 hc;have q1:=Mj q1;have q2:=Mj q2;subst q1;subst q2;rw [hX] at hr hs
  have:(List.range 3).map t.curve=Aem X (Ac V) e 3:=ZE λi hi=>by
   have hi:i<3:=XP.1 hi;have k2:=(Asw ht k1 hb2 (B1 3 i)).2;rw [hX,B3j hi,mean] at k2;exact k2.symm
  rw [hr,<- this,A22 rfl (by simp) (λa ha=>(hs a ha).mono (by omega)) (by omega),QS rfl]
 have k1:c=0->1<=(El e).length:=λhc=>by obtain ⟨_,_,_,h,_⟩:=g3 hc;exact h
 have k2:d=0->1<=(El e).length:=λhc=>by obtain ⟨_,_,_,_,_,h,_⟩:=v3 hc;exact h
 by_cases hbd:Tt (Ac X) e
 . simp only [QC hbd];by_cases hc:c=0
   . rw [show (c==0)=true by simpa using hc]
     by_cases hc2:d=0
     . rw [hc2];rfl
     . rw [show (d != 0)=true by simpa using hc2];rfl
   . rw [show (c==0)=false by simpa using hc]
     by_cases hc2:d=0
     . rw [hc2];rfl
     . rw [show (d != 0)=true by simpa using hc2];rfl
 . simp only [QB hbd]
   have jj:(bif (d != 0) then some true else bif ((0:Int) != 0) then some true else ob (f25 n q (vq (Aem X (Ac V) e 3))) λr_14=>some r_14)=some true:=by
    by_cases hc:d=0
    . rw [hM (k2 hc) hc hbd];simp [hc]
    . rw [show (d != 0)=true by simpa using hc,QW]
   rw [jj];by_cases hc:c=0
   . rw [show (c==0)=true by simpa using hc,hN (k1 hc) hc hbd];rfl
   . rw [show (c==0)=false by simpa using hc];rfl

end Go.Ev
