/- DERIVED. The evaluator over shapes of data: all paths of a function. -/
import Derived.Test.YtaebdcandpfmgaaGreatEd

set_option linter.all false
set_option linter.unusedVariables false
set_option linter.unusedSimpArgs false

/- DERIVED. Regions that draw their order, over shapes: each order gives the same. -/
namespace Go.Ev
open Go
variable {P:Program} {T:Ty} {α:Type}
inductive RV where
 | sv (x:SV)
 | bx (E:Ent3) (z:HF (Ap 1000 E.ts) E.forms)
inductive AV where
 | none
 | im (E:Ent) (x:HL E.ts) (y:SV)
 | bx (E:Ent3) (x:HP E.ts) (z:HF (Ap 1000 E.ts) E.forms)
def AV.ok:AV->Prop
 | .none=>True
 | .im E x y=>∃ r,E.m x=some r/\y=Ai E.rs r
 | .bx E x z=>E.m x=some z
def Ej:List (Nat × Sh)->St3->Option (Bool × St3)
 | [],s=>some (true,s)
 | (t,sh)::r,s=>match Mu s t sh with
  | some (g,s1)=>match Ej r s1 with
   | some (g',s2)=>some (g&&g',s2)
   | none=>none
  | none=>none
def Dw (T:Ty) (K:Am) (A:OA) (rv:Option RV) (o:Oper) (s:St3):Option (Bool × AV × St3) :=
 match Ej A.fz s with
 | none=>none
 | some (g0,s0)=>match A.ent with
  | some E=>match rv with
   | some (.sv y)=>match Pz E o s0 with
    | some (g,x)=>match s0.put3 K o.dst y with
     | some s'=>some (g0&&g,.im E x y,s')
     | none=>none
    | none=>none
   | _=>none
  | none=>match A.entB with
   | some _=>match rv with
    | some (.bx E z)=>match Jf E.f E.ts o s0 with
     | some (g,x,bor,q)=>Je (Ap 1000 E.ts) E.forms z λrs y =>
      bif G8 ⟨E.f,E.ts,rs⟩ A.hb s0 x bor q y then (match (Bc ⟨E.f,E.ts,rs⟩ A.hb s0 q y).2.put3 K o.dst (Bc ⟨E.f,E.ts,rs⟩ A.hb s0 q y).1 with
       | some s'=>some (g0&&(g&&Ft (B5 ⟨E.f,E.ts,rs⟩ y) s0.boxes (Dg ⟨E.f,E.ts,rs⟩ (Ip ⟨E.f,E.ts,rs⟩ A.hb q)) q),.bx E x z,s')
       | none=>none) else none
     | none=>none
    | _=>none
   | none=>match A0i T K A o s0 with
    | some (g,s')=>some (g0&&g,.none,s')
    | none=>none
theorem A0z {nt:Nat}:∀ {l:List (Nat × Sh)} {s s':St3} {g:Bool},Ej l s=some (g,s')->g=true->C3 (s.st nt) (s'.st nt)
 | [],s,s',g,h,_=>by
  simp only [Ej,QD,QI] at h;obtain ⟨_,rfl⟩:=h;exact λ_ _ E _ hs=>⟨E,hs⟩
 | (t,sh)::r,s,s',g,h,hg=>by
  simp only [Ej] at h;split at h
  . rename_i g1 s1 h1;split at h
    . rename_i g2 s2 h2;simp only [QD,QI] at h;obtain ⟨rfl,rfl⟩:=h;simp only [QE] at hg;intro Γ w E tmps hs;obtain ⟨x',ob,q1,q2⟩:=Se (nt:=nt) h1 hg.1
      obtain ⟨E1,hs1⟩:=Dv [(t,x')] (s':=s1.st nt) (obs:=ob++[]) hs (by simp only [Eu,q1]) (λp hp=>by simp only [XC] at hp;exact q2 p hp)
      exact A0z h2 hg.2 Γ w E1 tmps hs1
    . cases h
  . cases h
def RV.S (P:Program):Option RV->Prop
 | some (.bx E _)=>E.Sound P
 | _=>True
theorem A1t (hT:Aw P T) {K:Am} {A:OA} {rv:Option RV} {o:Oper} {s s':St3} {g:Bool} {av:AV} {nt:Nat} (h:Dw T K A rv o s=some (g,av,s')) (hg:g=true) (hav:av.ok) (hE:A.S P) (hrv:RV.S P rv):A0l P K o (s.st nt) (s'.st nt):=by
 unfold Dw at h;split at h
 . cases h
 rename_i g0 s0 h0;have fin:∀ {D:Fn} {obs:List Prop},g0=true->Cd P T K o D (s0.st nt)=some (s'.st nt,obs)->(∀ p ∈ obs,p)->A0l P K o (s.st nt) (s'.st nt):=λhg0 hs ho=>⟨_,A0z h0 hg0,Cv hT hs ho⟩;split at h
 . rename_i E hent;split at h
   . rename_i y;split at h
     . rename_i g1 x hc;split at h
       . rename_i s2 hp;simp only [QD,QI] at h;obtain ⟨rfl,rfl,rfl⟩:=h;simp only [QE] at hg;obtain ⟨rfl,rfl⟩:=hg;obtain ⟨r,hm,rfl⟩:=hav;obtain ⟨obs,h1,h2⟩:=A5e (T:=T) (nt:=nt) hc hm (hE.1 E hent);have:=Qm (nt:=nt) hp;rw [A8h] at this;obtain ⟨D',obs',h3,h4⟩:=Si h2 this;exact fin rfl h3 (h4 h1)
       . cases h
     . cases h
   . cases h
 . rename_i hent;split at h
   . rename_i F hF;split at h
     . rename_i E z;split at h
       . rename_i g1 x bor q hc;have hS:E.Sound P:=hrv
         have hm:∀ {r:Bool × AV × St3} ,Je (Ap 1000 E.ts) E.forms z (λrs y =>
          bif G8 ⟨E.f,E.ts,rs⟩ A.hb s0 x bor q y then (match (Bc ⟨E.f,E.ts,rs⟩ A.hb s0 q y).2.put3 K o.dst (Bc ⟨E.f,E.ts,rs⟩ A.hb s0 q y).1 with
           | some s'=>some (g0&&(g1&&Ft (B5 ⟨E.f,E.ts,rs⟩ y) s0.boxes (Dg ⟨E.f,E.ts,rs⟩ (Ip ⟨E.f,E.ts,rs⟩ A.hb q)) q),AV.bx E x z,s')
           | none=>none) else none)=some r->r.2.1 = .bx E x z:=λ{r} hr=>by
          have key:∀ (fs:List (List PK)) (zz:HF (Ap 1000 E.ts) fs),Je (Ap 1000 E.ts) fs zz (λrs y =>
           bif G8 ⟨E.f,E.ts,rs⟩ A.hb s0 x bor q y then (match (Bc ⟨E.f,E.ts,rs⟩ A.hb s0 q y).2.put3 K o.dst (Bc ⟨E.f,E.ts,rs⟩ A.hb s0 q y).1 with
            | some s'=>some (g0&&(g1&&Ft (B5 ⟨E.f,E.ts,rs⟩ y) s0.boxes (Dg ⟨E.f,E.ts,rs⟩ (Ip ⟨E.f,E.ts,rs⟩ A.hb q)) q),AV.bx E x z,s')
            | none=>none) else none)=some r->r.2.1 = .bx E x z:=by
           intro fs zz hz
           have hall:Abf (Ap 1000 E.ts) fs zz (λ_ _=>True):=by
            clear hz
            induction fs with
            | nil=>trivial
            | cons f fs ih =>
             cases fs with
             | nil=>trivial
             | cons f2 fs=>cases zz with
              | inl a=>trivial
              | inr b=>exact ih b
           obtain ⟨rs,y,h1,_⟩:=Mp hz hall
           cases hck:G8 ⟨E.f,E.ts,rs⟩ A.hb s0 x bor q y with
           | false=>rw [hck] at h1;cases h1
           | true =>
            rw [hck] at h1;simp only [cond] at h1;split at h1
            . obtain rfl:=QA h1;rfl
            . cases h1
          exact key E.forms z hr
         have e1:av = .bx E x z:=hm h;subst e1;have hav:E.m x=some z:=hav;obtain ⟨rs,y,h1,h2⟩:=Mp h (hS nt x z hav)
         cases hck:G8 ⟨E.f,E.ts,rs⟩ A.hb s0 x bor q y with
         | false=>rw [hck] at h1;cases h1
         | true =>
          rw [hck] at h1;simp only [cond] at h1;split at h1
          . rename_i s2 hp;simp only [QD,QI] at h1;obtain ⟨e,_,rfl⟩:=h1;rw [<- e] at hg;simp only [QE] at hg;obtain ⟨rfl,rfl,hl⟩:=hg;obtain ⟨D,obs,q1,q2⟩:=Ae4 (T:=T) (E:=⟨E.f,E.ts,rs⟩) hc hck hl h2 hp;exact fin rfl q1 q2
          . cases h1
       . cases h
     . cases h
   . split at h
     . rename_i g1 s2 hr;simp only [QD,QI] at h;obtain ⟨rfl,rfl,rfl⟩:=h;simp only [QE] at hg;obtain ⟨D,obs,h1,h2⟩:=Alc (nt:=nt) hT hr hg.2;exact fin hg.1 h1 h2
     . cases h
abbrev OA.at (A:List (Nat × OA)) (i:Nat):OA:=(A1 i A).getD {}
def S3 (T:Ty) (K:Am) (A:List (Nat × OA)) (q:List (Nat × RV)) (L:Nat):List (Nat × Oper)->St3->St3
 | [],s=>s
 | (i,o)::l,s=>S3 T K A q L l (bif L.testBit i then (match Dw T K (OA.at A i) (A1 i q) o s with
  | some r=>r.2.2
  | none=>s) else s)
def WT (A:List (Nat × OA)):List (Nat × Oper)->List (Nat × RV)->Prop
 | [],q=>q=[]
 | (i,_)::l,q=>match (OA.at A i).ent with
  | some E=>∃ y q',q=(i,.sv (Ai E.rs y))::q'/\WT A l q'
  | none=>match (OA.at A i).entB with
   | some F=>∃ z q',q=(i,.bx F z)::q'/\WT A l q'
   | none=>WT A l q
def Fx (T:Ty) (K:Am) (A:List (Nat × OA)) (q:List (Nat × RV)):List (Nat × Oper)->St3->St3->Prop
 | [],s,s'=>s=s'
 | (i,o)::l,s,s'=>∃ av s1,Dw T K (OA.at A i) (A1 i q) o s=some (true,av,s1)/\av.ok/\Fx T K A q l s1 s'
theorem WT.keys {A:List (Nat × OA)}:∀ {l:List (Nat × Oper)} {q:List (Nat × RV)},WT A l q->∀ i,(∀ p ∈ l,p.1 ≠ i)->A1 i q=none
 | [],q,h,i,_=>by unfold WT at h;subst h;rfl
 | (j,o)::l,q,h,i,hi=>by
  have ih:=λq' (h':WT A l q')=>WT.keys h' i λp hp=>hi p (by simp [hp])
  unfold WT at h;split at h
  . obtain ⟨y,q',rfl,h'⟩:=h
    rw [B6 (hi (j,o) (by simp))]
    exact ih q' h'
  . split at h
    . obtain ⟨y,q',rfl,h'⟩:=h
      rw [B6 (hi (j,o) (by simp))]
      exact ih q' h'
    . exact ih q h
theorem Fx.congr {K:Am} {A:List (Nat × OA)} {q q':List (Nat × RV)}:∀ {l:List (Nat × Oper)} {s s':St3},(∀ p ∈ l,A1 p.1 q=A1 p.1 q')->Fx T K A q l s s'->Fx T K A q' l s s'
 | [],_,_,_,h=>h
 | (i,o)::l,s,s',hq,h=>by
  obtain ⟨av,s1,h1,h2,h3⟩:=h
  exact ⟨av,s1,by rw [<- hq (i,o) (by simp)];exact h1,h2,Fx.congr (λp hp=>hq p (by simp [hp])) h3⟩
theorem Am1 {l:List (Nat × Sh)} {s:St3} {k:St3->Option α} {r:α} (h:Hs l s k=some r):∃ s',Ej l s=some (true,s')/\k s'=some r:=by
 induction l generalizing s with
 | nil=>exact ⟨s,rfl,h⟩
 | cons p l ih =>
  obtain ⟨t,sh⟩:=p;simp only [Hs] at h;split at h
  . rename_i g s1 h1
    cases g with
    | false=>cases h
    | true =>
     obtain ⟨s2,h2,h3⟩:=ih h
     exact ⟨s2,by simp only [Ej,h1,h2,ZG],h3⟩
  . cases h
theorem A5u {K:Am} {ops:List Oper} {A:List (Nat × OA)}:∀ (l:List (Nat × Oper)) (s:St3) (k:St3->Option α) (r:α),(l.map (·.1)).Nodup->(∀ p ∈ l,p.2.guard=none)->(∀ p ∈ l,(OA.at A p.1).two=false) ->
  Ht T K ops A l s k=some r->∃ q s',WT A l q/\k s'=some r/\Fx T K A q l s s'
 | [],s,k,r,_,_,_,h=>⟨[],s,rfl,h,rfl⟩
 | (i,o)::l,s,k,r,hn,hg,hx,h=>by
  simp only [QW,KC] at hn
  have hni:∀ p ∈ l,p.1 ≠ i:=λp hp e=>hn.1 (by rw [<- e];exact ZM.2 ⟨p,hp,rfl⟩)
  simp only [Ht] at h;obtain ⟨s0,h0,h⟩:=Am1 h
  have hgo:o.guard=none:=hg (i,o) (by simp)
  unfold Wu at h;rw [hgo] at h;simp only at h
  have ih:=λs1 h'=>A5u (K:=K) (ops:=ops) (A:=A) l s1 k r hn.2 (λp hp=>hg p (by simp [hp])) (λp hp=>hx p (by simp [hp])) h'
  obtain ⟨hxi,hal,hbo,hsh⟩:=OA.two_false (hx (i,o) (by simp))
  unfold Sc Ql at h;simp only [OA.at] at hal hbo hsh;simp only [hal,hbo,hsh,Ali] at h
  cases hent:(OA.at A i).ent with
  | some E =>
   have hB:(OA.at A i).entB=none:=by
    cases e:(OA.at A i).entB with
    | none=>rfl
    | some F=>rw [hent,e] at hxi;cases hxi
   simp only [OA.at] at hent hB;simp only [hent,hB] at h;split at h
   . rename_i g x hc
     cases g with
     | false=>cases h
     | true =>
      simp only [cond,ob] at h;split at h
      . rename_i y hm;split at h
        . rename_i s1 hp;obtain ⟨q,s',w1,w2,w3⟩:=ih s1 h;refine ⟨(i,.sv (Ai E.rs y))::q,s',?_,w2,?_⟩
          . unfold WT;simp only [OA.at,hent];exact ⟨y,q,rfl,w1⟩
          . refine ⟨.im E x (Ai E.rs y),s1,?_,⟨y,hm,rfl⟩,Fx.congr (λp hp=>(B6 (hni p hp).symm).symm) w3⟩;rw [Bk];simp only [Dw,OA.at,h0,hent,hc,hp,ZG]
        . cases h
      . cases h
   . cases h
  | none =>
   cases hB:(OA.at A i).entB with
   | some F =>
    simp only [OA.at] at hent hB;simp only [hent,hB] at h;unfold Qk at h;split at h
    . rename_i g x bor qn hc
      cases g with
      | false=>cases h
      | true =>
       simp only [cond] at h;split at h
       . rename_i z hm
         have hall:∀ (fs:List (List PK)) (zz:HF (Ap 1000 F.ts) fs),Abf (Ap 1000 F.ts) fs zz (λ_ _=>True):=by
          intro fs
          induction fs with
          | nil=>intro _;trivial
          | cons f fs ih2 =>
           intro zz
           cases fs with
           | nil=>trivial
           | cons f2 fs=>cases zz with
            | inl a=>trivial
            | inr b=>exact ih2 b
         have key:∀ (fs:List (List PK)) (zz:HF (Ap 1000 F.ts) fs),(Je (Ap 1000 F.ts) fs zz λrs y=>onB K ⟨F.f,F.ts,rs⟩ ((A1 i A).getD {}).hb o s0 x bor qn y λs2=>Ht T K ops A l s2 k)=some r ->
           ∃ s1,(Je (Ap 1000 F.ts) fs zz λrs y =>
            bif G8 ⟨F.f,F.ts,rs⟩ ((A1 i A).getD {}).hb s0 x bor qn y then (match (Bc ⟨F.f,F.ts,rs⟩ ((A1 i A).getD {}).hb s0 qn y).2.put3 K o.dst (Bc ⟨F.f,F.ts,rs⟩ ((A1 i A).getD {}).hb s0 qn y).1 with
             | some s'=>some (true&&(true&&Ft (B5 ⟨F.f,F.ts,rs⟩ y) s0.boxes (Dg ⟨F.f,F.ts,rs⟩ (Ip ⟨F.f,F.ts,rs⟩ ((A1 i A).getD {}).hb qn)) qn),AV.bx F x z,s')
             | none=>none) else none)=some (true,.bx F x z,s1)/\Ht T K ops A l s1 k=some r:=by
          intro fs
          induction fs with
          | nil=>intro _ h;cases h
          | cons f fs ih2 =>
           have one:∀ (y:HR f (Ap 1000 F.ts)),(onB K ⟨F.f,F.ts,f⟩ ((A1 i A).getD {}).hb o s0 x bor qn y λs2=>Ht T K ops A l s2 k)=some r ->
             ∃ s1,(bif G8 ⟨F.f,F.ts,f⟩ ((A1 i A).getD {}).hb s0 x bor qn y then (match (Bc ⟨F.f,F.ts,f⟩ ((A1 i A).getD {}).hb s0 qn y).2.put3 K o.dst (Bc ⟨F.f,F.ts,f⟩ ((A1 i A).getD {}).hb s0 qn y).1 with
             | some s'=>some (true&&(true&&Ft (B5 ⟨F.f,F.ts,f⟩ y) s0.boxes (Dg ⟨F.f,F.ts,f⟩ (Ip ⟨F.f,F.ts,f⟩ ((A1 i A).getD {}).hb qn)) qn),AV.bx F x z,s')
             | none=>none) else none)=some (true,.bx F x z,s1)/\Ht T K ops A l s1 k=some r:=by
            intro y h;unfold onB at h
            cases hck:G8 ⟨F.f,F.ts,f⟩ ((A1 i A).getD {}).hb s0 x bor qn y with
            | false=>rw [hck] at h;cases h
            | true =>
             rw [hck] at h;simp only [cond] at h
             cases hl:Ft (B5 ⟨F.f,F.ts,f⟩ y) s0.boxes (Dg ⟨F.f,F.ts,f⟩ (Ip ⟨F.f,F.ts,f⟩ ((A1 i A).getD {}).hb qn)) qn with
             | false=>rw [hl] at h;cases h
             | true =>
              rw [hl] at h;simp only at h;split at h
              . rename_i s1 hp;refine ⟨s1,?_,h⟩;simp only [cond,hp,ZG]
              . cases h
           cases fs with
           | nil=>exact one
           | cons f2 fs =>
            intro zz h
            cases zz with
            | inl a=>exact one a h
            | inr b=>exact ih2 b h
         obtain ⟨s1,k1,k2⟩:=key F.forms z h;obtain ⟨q,s',w1,w2,w3⟩:=ih s1 k2;refine ⟨(i,.bx F z)::q,s',?_,w2,?_⟩
         . unfold WT;simp only [OA.at,hent,hB];exact ⟨z,q,rfl,w1⟩
         . refine ⟨.bx F x z,s1,?_,hm,Fx.congr (λp hp=>(B6 (hni p hp).symm).symm) w3⟩;rw [Bk];simp only [Dw,OA.at,h0,hent,hB,hc];exact k1
       . cases h
    . cases h
   | none =>
    simp only [OA.at] at hent hB;simp only [hent,hB] at h;split at h
    . rename_i gr s2 hr
      cases gr with
      | false=>cases h
      | true =>
       simp only [cond] at h;obtain ⟨q,s',w1,w2,w3⟩:=ih s2 h;refine ⟨q,s',?_,w2,?_⟩
       . unfold WT;simp only [OA.at,hent,hB];exact w1
       . refine ⟨.none,s2,?_,trivial,w3⟩;have hnone:A1 i q=none:=WT.keys w1 i hni;rw [hnone];simp only [Dw,OA.at,h0,hent,hB,hr,ZG]
    . cases h
def A7s (o:Oper) (L:Nat):Bool:=o.after.toList.all λe=>!Region.binds .any e || L.testBit e.on
def Mn:List (Nat × Oper)->List Nat->List Nat
 | [],D=>D
 | (i,o)::l,D=>Mn l (D++(D.filter (A7s o)).map λL=>L ||| 1 <<< i)
def rdy (l:List (Nat × Oper)) (L:Nat):List (Nat × Oper):=l.filter λp=>!L.testBit p.1&&A7s p.2 L
def Gs (T:Ty) (K:Am) (A:List (Nat × OA)) (l:List (Nat × Oper)) (s:St3) (q:List (Nat × RV)):Prop :=
 (Mn l [0]).map (λL=>(rdy l L).map λp=>Dw T K (OA.at A p.1) (A1 p.1 q) p.2 (S3 T K A q L l s)) =
 (Mn l [0]).map (λL=>(rdy l L).map λp=>(Dw T K (OA.at A p.1) (A1 p.1 q) p.2 (S3 T K A q (2 ^ p.1-1) l s)).map λr=>(r.1,r.2.1,S3 T K A q (L ||| 1 <<< p.1) l s))
theorem Gs.mk {K:Am} {A:List (Nat × OA)} {l:List (Nat × Oper)} {s:St3} {q:List (Nat × RV)}
  (h:(Mn l [0]).map (λL=>(rdy l L).map λp=>Dw T K (OA.at A p.1) (A1 p.1 q) p.2 (S3 T K A q L l s)) =
   (Mn l [0]).map (λL=>(rdy l L).map λp=>(Dw T K (OA.at A p.1) (A1 p.1 q) p.2 (S3 T K A q (2 ^ p.1-1) l s)).map λr=>(r.1,r.2.1,S3 T K A q (L ||| 1 <<< p.1) l s))):Gs T K A l s q:=h
def Aw6 (A:List (Nat × OA)) (l:List (Nat × Oper)):Bool :=
 l.all λp=>(match p.2.guard with | none=>true | some _=>false)&&p.2.after.toList.all (λe=>!Region.binds .any e || Nat.blt e.on p.1) && !(OA.at A p.1).two
theorem A5w (L i:Nat):(L.testBit i=true->L % 2 ^ (i+1)=L % 2 ^ i ||| 1 <<< i)/\(L.testBit i=false->L % 2 ^ (i+1)=L % 2 ^ i):=by
 constructor
 . intro h;refine KR λj=>?_;rw [KI,Qaj,KI,KZ];by_cases e:j=i
   . subst e;simp [h]
   . by_cases h1:j<i
     . have h2:j<i+1:=by omega
       have h3:¬ i<=j:=by omega
       simp [h1,h2,h3]
     . have h2:¬ j<i+1:=by omega
       obtain ⟨d,hd⟩:∃ d,j-i=d+1:=⟨j-i-1,by omega⟩
       simp [h1,h2,hd,JV]
 . intro h;refine KR λj=>?_;rw [KI,KI];by_cases e:j=i
   . subst e;simp [h]
   . by_cases h1:j<i
     . have h2:j<i+1:=by omega
       simp [h1,h2]
     . have h2:¬ j<i+1:=by omega
       simp [h1,h2]
theorem Abu {L:Nat}:∀ (l:List (Nat × Oper)) (i:Nat) (D:List Nat),(∀ k p,l[k]? = some p->p.1=i+k/\(∀ e ∈ p.2.after,Region.binds .any e=true->e.on<p.1)/\(L.testBit p.1=true->∀ e ∈ p.2.after,Region.binds .any e=true->L.testBit e.on=true)) ->
  L % 2 ^ i ∈ D->L % 2 ^ (i+l.length) ∈ Mn l D
 | [],i,D,_,h=>by simpa [Mn] using h
 | (j,o)::l,i,D,hl,h=>by
  obtain ⟨h1,h2,h3⟩:=hl 0 (j,o) rfl;simp only [KF] at h1;subst h1;simp only [Mn,ZC]
  rw [show j+(l.length+1)=j+1+l.length by omega]
  refine Abu l (j+1) _ (λk p hk=>?_) ?_
  . obtain ⟨a,b⟩:=hl (k+1) p (by simpa using hk)
    exact ⟨by omega,b⟩
  . cases hb:L.testBit j with
    | false =>
     rw [(A5w L j).2 hb];exact QF.2 (.inl h)
    | true =>
     rw [(A5w L j).1 hb];refine QF.2 (.inr (ZM.2 ⟨_,Qab.2 ⟨h,?_⟩,rfl⟩));unfold A7s;refine QM.2 λe he=>?_
     cases hbe:Region.binds .any e with
     | false=>rfl
     | true =>
      have he':e ∈ o.after:=by simpa using he
      have:=h2 e he' hbe;simp only [KI,this,decide_true,XS,ZR,YO];exact h3 hb e he' hbe
theorem A87 {K:Am} {A:List (Nat × OA)} {q:List (Nat × RV)} {L:Nat}:∀ {l:List (Nat × Oper)} {s s':St3},Fx T K A q l s s'->(∀ p ∈ l,L.testBit p.1=true)->S3 T K A q L l s=s'
 | [],s,s',h,_=>h
 | (i,o)::l,s,s',h,hL=>by
  obtain ⟨av,s1,h1,_,h3⟩:=h
  simp only [S3,hL (i,o) (by simp),cond,h1]
  exact A87 h3 λp hp=>hL p (by simp [hp])
theorem Na {K:Am} {A:List (Nat × OA)} {q:List (Nat × RV)} {L:Nat}:∀ {l:List (Nat × Oper)} {s:St3},(∀ p ∈ l,L.testBit p.1=false)->S3 T K A q L l s=s
 | [],s,_=>rfl
 | (i,o)::l,s,hL=>by
  simp only [S3,hL (i,o) (by simp),cond]
  exact Na λp hp=>hL p (by simp [hp])
theorem Fx.at {K:Am} {A:List (Nat × OA)} {q:List (Nat × RV)} {i0:Nat}:∀ {l:List (Nat × Oper)} {s s':St3} {b:Nat},Fx T K A q l s s'->(∀ k p,l[k]? = some p->p.1=b+k)->∀ {i:Nat} {o:Oper},i=b+i0->l[i0]? = some (i,o) ->
  ∃ av s1,Dw T K (OA.at A i) (A1 i q) o (S3 T K A q (2 ^ i-1) l s)=some (true,av,s1)/\av.ok:=by
 induction i0 with
 | zero =>
  intro l s s' b h hl i o hi ho
  match l,h with
  | [],_=>simp at ho
  | (j,o')::l,h =>
   simp only [JK,QD,QI] at ho;obtain ⟨rfl,rfl⟩:=ho;obtain ⟨av,s1,h1,h2,_⟩:=h;refine ⟨av,s1,?_,h2⟩;rw [Na (λp hp=>?_)]
   . exact h1
   . obtain ⟨k,hk⟩:=KA hp;have:=hl k p hk;rw [ZL];simp only [ZS];omega
 | succ i0 ih =>
  intro l s s' b h hl i o hi ho
  match l,h with
  | [],_=>simp at ho
  | (j,o')::l,h =>
   obtain ⟨av,s1,h1,_,h3⟩:=h;have hj:=hl 0 (j,o') rfl;simp only [KF] at hj
   obtain ⟨av2,s2,q1,q2⟩:=ih (b:=b+1) h3 (λk p hk=>by have:=hl (k+1) p (by simpa using hk);omega) (i:=i) (o:=o) (by omega) (by simpa using ho)
   refine ⟨av2,s2,?_,q2⟩
   have hb:(2 ^ i-1).testBit j=true:=by
    rw [ZL];simp only [QO];omega
   simp only [S3,hb,cond,h1];exact q1
theorem WT.bx {A:List (Nat × OA)}:∀ {l:List (Nat × Oper)} {q:List (Nat × RV)},WT A l q->∀ {i:Nat} {E:Ent3} {z:HF (Ap 1000 E.ts) E.forms},A1 i q=some (.bx E z)->(OA.at A i).entB=some E
 | [],q,h,i,E,z,hi=>by unfold WT at h;subst h;cases hi
 | (j,o)::l,q,h,i,E,z,hi=>by
  unfold WT at h;split at h
  . obtain ⟨y,q',rfl,h'⟩:=h;simp only [A1] at hi
    cases hb:Nat.beq j i with
    | true=>rw [hb] at hi;cases hi
    | false=>rw [hb] at hi;exact WT.bx h' hi
  . split at h
    . rename_i F hF;obtain ⟨y,q',rfl,h'⟩:=h;simp only [A1] at hi
      cases hb:Nat.beq j i with
      | true =>
       rw [hb] at hi;have:=QC hb;subst this;simp only [cond,QD,RV.bx.injEq] at hi;obtain ⟨rfl,_⟩:=hi;exact hF
      | false=>rw [hb] at hi;exact WT.bx h' hi
    . exact WT.bx h hi
theorem A5q {l:List Oper} {k:Nat} {p:Nat × Oper} (h:(A7 l)[k]? = some p):p.1=0+k:=by
 rw [YH];exact (Cu h).1
end Go.Ev

/- DERIVED. Regions that draw their order: what an operation does hangs on what it names, and on the boxes. -/
namespace Go.Ev
open Go
variable {P:Program} {T:Ty} {α:Type}
def Is (o:Oper):Option (List Operand):=match o.op with
 | .move x=>some [x]
 | .assign x=>some [x]
 | .pick c a b=>some [c,a,b]
 | .load _ a=>some [a]
 | .nilCheck x=>some [x]
 | .binOp _ _ x y _=>some [x,y]
 | .unOp _ _ x=>some [x]
 | .convert _ _ x=>some [x]
 | .fieldAddr _ x _=>some [x]
 | .indexAddr _ x i=>some [x,i]
 | .extract x _=>some [x]
 | .store _ a x=>some [a,x]
 | .alloc _=>some []
 | .box _ x=>some [x]
 | .call c=>match c.callee with
  | .value f=>some (f::c.args.toList)
  | .builtin .len=>some c.args.toList
  | .builtin .max=>some c.args.toList
  | .builtin .min=>some c.args.toList
  | _=>none
 | .slice _ x lo hi none=>some (x::(lo.toList++hi.toList))
 | .build _ ps=>some (ps.toList.map (·.2))
 | .buildSlice _ _ ps=>some (ps.toList.map (·.2))
 | _=>none
theorem Lq {s s2:St3}:∀ {l:List Operand},(∀ x ∈ l,s.val x=s2.val x)->l.map s.val=l.map s2.val
 | [],_=>rfl
 | x::l,h=>by rw [QW,QW,h x (by simp),Lq λy hy=>h y (by simp [hy])]
theorem Ve {s s2:St3}:∀ {o:Option Operand},(∀ x ∈ o.toList,s.val x=s2.val x)->o.map s.val=o.map s2.val
 | none,_=>rfl
 | some x,h=>by rw [QQ,QQ,h x (by simp)]
theorem Wg {s s2:St3} {ps:Array (Nat × Operand)} (h:∀ x ∈ ps.toList.map (·.2),s.val x=s2.val x):De s ps=De s2 ps:=by
 unfold De
 exact ZH λp hp=>by rw [h p.2 (ZM.2 ⟨p,hp,rfl⟩)]
theorem Amy {hint:Option Sh} {o:Oper} {xs:List Operand} {s s2:St3} (hq:Is o=some xs) (hx:∀ x ∈ xs,s.val x=s2.val x) (hb:s.boxes=s2.boxes):Kr T hint o s=Kr T hint o s2:=by
 unfold Is at hq;unfold Kr;split at hq
 case h_15 c e =>
  rw [e];dsimp only;split at hq
  . rename_i f hc;rw [hc]
  . rename_i hc;rw [hc];obtain rfl:=QA hq;dsimp only;split
    . rename_i x t h1 h2
      rw [hx x (by rw [h1];simp),hb]
    . rfl
  . rename_i hc;rw [hc];obtain rfl:=QA hq;dsimp only;split
    . rename_i x y h1
      rw [hx x (by rw [h1];simp),hx y (by rw [h1];simp)]
    . rfl
  . rename_i hc;rw [hc];obtain rfl:=QA hq;dsimp only;split
    . rename_i x y h1
      rw [hx x (by rw [h1];simp),hx y (by rw [h1];simp)]
    . rfl
  . cases hq
 case h_2 x e =>
  obtain rfl:=QA hq;rw [e]
  cases x with
  | tmp t =>
   show Hn (s.val (.tmp t))=Hn (s2.val (.tmp t))
   rw [hx _ (by simp)]
  | const v=>cases v <;> first | rfl | (rename_i a;cases a <;> rfl)
  | func f=>rfl
  | global g=>rfl
 case h_16 t x lo hi e =>
  obtain rfl:=QA hq;rw [e];dsimp only
  rw [hx x (by simp),Ve (o:=lo) λy hy=>hx y (by simp [hy]),Ve (o:=hi) λy hy=>hx y (by simp [hy]),hb]
 case h_17 t ps e =>
  obtain rfl:=QA hq;rw [e];dsimp only;rw [Wg hx]
 case h_18 t n ps e =>
  obtain rfl:=QA hq;rw [e];dsimp only;rw [Wg hx]
 all_goals first
  | (cases hq;done)
  | (rename_i e
     obtain rfl:=QA hq;simp only [QU,YJ,or_false,forall_eq_or_imp,forall_eq] at hx
     first
      | (rw [e];done)
      | (rw [e];simp only [hx,hb]))
theorem An1 {E:Ent} {o:Oper} {xs:List Operand} {s s2:St3} (hq:Is o=some xs) (hx:∀ x ∈ xs,s.val x=s2.val x) (hb:s.boxes=s2.boxes):Pz E o s=Pz E o s2:=by
 unfold Is at hq;unfold Pz;split at hq
 case h_15 c e =>
  rw [e];dsimp only;split at hq
  . rename_i f hc;rw [hc];obtain rfl:=QA hq;dsimp only
    rw [hx f (by simp),Lq (s:=s) (s2:=s2) (l:=c.args.toList) (λy hy=>hx y (by simp [hy])),hb]
  . rename_i hc;rw [hc]
  . rename_i hc;rw [hc]
  . rename_i hc;rw [hc]
  . cases hq
 all_goals first
  | (cases hq;done)
  | (rename_i e;rw [e])
theorem Al9 {f0:Nat} {ts:List PK} {o:Oper} {xs:List Operand} {s s2:St3} (hq:Is o=some xs) (hx:∀ x ∈ xs,s.val x=s2.val x) (hb:s.boxes=s2.boxes):Jf f0 ts o s=Jf f0 ts o s2:=by
 unfold Is at hq;unfold Jf;split at hq
 case h_15 c e =>
  rw [e];dsimp only;split at hq
  . rename_i f hc;rw [hc];obtain rfl:=QA hq;dsimp only
    rw [hx f (by simp),Lq (s:=s) (s2:=s2) (l:=c.args.toList) (λy hy=>hx y (by simp [hy])),hb]
  . rename_i hc;rw [hc]
  . rename_i hc;rw [hc]
  . rename_i hc;rw [hc]
  . cases hq
 all_goals first
  | (cases hq;done)
  | (rename_i e;rw [e])
def B81 (A:OA) (E:Ent3) (bs:List (Nat × B3)) (g:Bool) (x:HP E.ts) (bor:List Nat) (q:List (Nat × Nat)) (z:HF (Ap 1000 E.ts) E.forms):Option (Bool × AV × SV × E3) :=
 Je (Ap 1000 E.ts) E.forms z λrs y =>
  bif (rs.flatMap PK.backs).isEmpty&&(Yt rs).isEmpty&&G8 ⟨E.f,E.ts,rs⟩ A.hb ⟨[],bs⟩ x bor q y then (match B5 ⟨E.f,E.ts,rs⟩ y,q with
   | [(_,b)],[(_,h)]=>some (true&&(g&&Ft (B5 ⟨E.f,E.ts,rs⟩ y) bs [] q),.bx E x z,(Bc ⟨E.f,E.ts,rs⟩ A.hb ⟨[],bs⟩ q y).1,.set h b)
   | _,_=>none) else none
theorem A1h {α:Type} {os:List (Nat × CK)}:∀ {fs:List (List PK)} {z:HF os fs} {k:(rs:List PK)->HR rs os->Option α} {r:α},Je os fs z k=some r->∃ rs y,k rs y=some r /\ ∀ {β:Type} (k':(rs:List PK)->HR rs os->Option β),Je os fs z k'=k' rs y
 | [],_,_,_,h=>by cases h
 | [rs],y,k,r,h=>⟨rs,y,h,λ_=>rfl⟩
 | rs::r0::q,.inl y,k,r,h=>⟨rs,y,h,λ_=>rfl⟩
 | rs::r0::q,.inr z,k,r,h=>by
  obtain ⟨rs',y,h1,h2⟩:=A1h (fs:=r0::q) (z:=z) (k:=k) h;exact ⟨rs',y,h1,λk'=>h2 k'⟩
theorem Anm {f:SV->SV} (h:∀ x,f x=x):∀ l:List (Nat × SV),Aj f l=l
 | []=>rfl
 | (i,x)::r=>by
  have ih:=Anm h r;simp only [Aj,QW,h] at ih ⊢;rw [ih]
def Qc (T:Ty) (A:OA) (rv:Option RV) (o:Oper) (s:St3):Option (Bool × AV × SV × E3) :=
 match A.fz,A.entB,A.ent,A.tr with
 | [],none,some E,_=>match rv with
  | some (.sv y)=>match Pz E o s with
   | some (g,x)=>some (true&&g,.im E x y,y,.none)
   | none=>none
  | _=>none
 | [],none,none,none=>match Kr T A.sh o s with
  | some r=>some (true&&r.g,.none,r.val,r.eff)
  | none=>none
 | [],some _,none,_=>match rv with
  | some (.bx E z)=>match Jf E.f E.ts o s with
   | some (g,x,bor,q)=>B81 A E s.boxes g x bor q z
   | none=>none
  | _=>none
 | _,_,_,_=>none
theorem Au4 {A:OA} {rv:Option RV} {o:Oper} {xs:List Operand} {s s2:St3} (hq:Is o=some xs) (hx:∀ x ∈ xs,s.val x=s2.val x) (hb:s.boxes=s2.boxes):Qc T A rv o s=Qc T A rv o s2:=by
 unfold Qc;rw [Amy hq hx hb];split
 . rw [An1 hq hx hb]
 . rfl
 . split
   . rw [Al9 hq hx hb,hb]
   . rfl
 . rfl
theorem Abl {K:Am} {A:OA} {rv:Option RV} {o:Oper} {s:St3} {g:Bool} {av:AV} {x:SV} {e:E3} (h:Qc T A rv o s=some (g,av,x,e)) :
  Dw T K A rv o s=(s.eff3 K o.dst e).bind λs1=>(s1.put3 K o.dst x).map λs'=>(g,av,s'):=by
 unfold Qc at h;unfold Dw;split at h
 . rename_i h1 h2 h3;rw [h1,h3];simp only [Ej];split at h
   . rename_i y;split at h
     . rename_i g' x' hc;simp only [QD,QI] at h;obtain ⟨rfl,rfl,rfl,rfl⟩:=h;try rw [hc]
       simp only [St3.eff3,YC]
       cases s.put3 K o.dst y <;> rfl
     . cases h
   . cases h
 . rename_i h0 h1 h2 h3;rw [h0,h1,h2];simp only [Ej];unfold A0i;rw [h3];split at h
   . rename_i r hc;try rw [hc]
     simp only [QD,QI] at h;obtain ⟨rfl,rfl,rfl,rfl⟩:=h;dsimp only
     cases s.eff3 K o.dst r.eff with
     | none=>rfl
     | some s1 =>
      simp only [YC]
      cases s1.put3 K o.dst r.val <;> rfl
   . cases h
 . rename_i EB h0 h1 h2;rw [h0,h1,h2];simp only [Ej];split at h
   . rename_i E z;split at h
     . rename_i g' x' bor q hc;unfold B81 at h;obtain ⟨rs,y,e1,e2⟩:=A1h h;simp only [hc,e2]
       cases hk:(rs.flatMap PK.backs).isEmpty with
       | false=>rw [hk] at e1;cases e1
       | true =>
        cases hk2:(Yt rs).isEmpty with
        | false=>rw [hk,hk2] at e1;cases e1
        | true =>
         have b1:rs.flatMap PK.backs=[]:=YK.1 hk;have b2:Yt rs=[]:=YK.1 hk2
         have b3:Ip ⟨E.f,E.ts,rs⟩ A.hb q=q:=by simp only [Ip,b2];rfl
         have b4:∀ rn,Dg ⟨E.f,E.ts,rs⟩ rn=[]:=λrn=>by simp only [Dg,b1];rfl
         have b5:G8 ⟨E.f,E.ts,rs⟩ A.hb s x' bor q y=G8 ⟨E.f,E.ts,rs⟩ A.hb ⟨[],s.boxes⟩ x' bor q y:=by
          simp only [G8,b2,Qaz]
         rw [hk,hk2,XS,XS] at e1;rw [b5]
         cases hck:G8 ⟨E.f,E.ts,rs⟩ A.hb ⟨[],s.boxes⟩ x' bor q y with
         | false=>rw [hck] at e1;cases e1
         | true =>
          rw [hck] at e1;simp only [cond] at e1 ⊢;split at e1
          . rename_i k1 b k2 hh he;simp only [QD,QI] at e1;obtain ⟨rfl,rfl,rfl,rfl⟩:=e1
            have b6:(Bc ⟨E.f,E.ts,rs⟩ A.hb s [(k2,hh)] y)=((Bc ⟨E.f,E.ts,rs⟩ A.hb ⟨[],s.boxes⟩ [(k2,hh)] y).1,⟨s.slots,Ak hh b s.boxes⟩):=by
             unfold Bc;rw [b4,b3,he];simp only [List.any_nil,cond,Ws];rw [Anm λ_=>rfl]
            rw [b6,b3,b4];simp only [St3.eff3,YC]
            cases St3.put3 K _ o.dst _ <;> rfl
          . cases e1
     . cases h
   . cases h
 . cases h
theorem Jy {β:Type} (k i:Nat) (x z:β) (l:List (Nat × β)):Ak k x ((i,z)::l)=if k<i then (k,x)::(i,z)::l else if i=k then (k,x)::l else (i,z)::Ak k x l:=by
 have bl:Nat.blt k i=decide (k<i):=by
  cases e:Nat.blt k i with
  | true=>rw [ZP] at e;simp [e]
  | false =>
   have:¬ k<i:=λhh=>by rw [<- ZP] at hh;rw [hh] at e;cases e
   simp [this]
 have be:Nat.beq i k=decide (i=k):=by
  cases e:Nat.beq i k with
  | true=>simp [QC e]
  | false =>
   have:i ≠ k:=λhh=>by subst hh;simp at e
   simp [this]
 simp only [Ak,bl,be,QH]
theorem A1z {β:Type} {k j:Nat} (x y:β) (h:k ≠ j):∀ l:List (Nat × β),Ak k x (Ak j y l)=Ak j y (Ak k x l)
 | []=>by
  have e:∀ (a:Nat) (b:β),Ak a b []=[(a,b)]:=λ_ _=>rfl;rw [e,e,Jy,Jy,e,e];grind
 | (i,z)::l=>by
  have ih:=A1z x y h l;rw [Jy,Jy];by_cases h2:j<i <;> by_cases h4:i=j <;> by_cases h1:k<i <;> by_cases h3:i=k <;> simp only [h1,h2,h3,h4,if_true,if_false,Jy] <;> grind [Jy]
end Go.Ev

/- DERIVED. Regions that draw their order: a light check, one A1 at each operation for each set of operations with effects. -/
namespace Go.Ev
open Go
variable {P:Program} {T:Ty} {α:Type}
structure Dat where
 g:Bool
 av:AV
 x:SV
 e:E3
def Up (k:Option Tmp) (e:E3) (bs:List (Nat × B3)):List (Nat × B3):=match e with
 | .new b=>match k with
  | some k=>Ak k b bs
  | none=>bs
 | .set h b=>Ak h b bs
 | _=>bs
def Sk (k:Option Tmp) (x:SV) (sl:List (Nat × SV)):List (Nat × SV):=match k with
 | some t=>Ak t x sl
 | none=>sl
def Gb (d:Option Tmp) (D:Dat) (s:St3):St3:=⟨Sk d D.x s.slots,Up d D.e s.boxes⟩
def okE (d:Option Tmp):E3->Bool
 | .none=>true
 | .new _=>d.isSome
 | .set _ _=>true
 | _=>false
def isE:E3->Bool
 | .none=>false
 | _=>true
def hdl (d:Option Tmp):E3->Option Nat
 | .new _=>d
 | .set h _=>some h
 | _=>none
def Agh (k:Nat):E3->Bool
 | .new b=>b.men k
 | .set _ b=>b.men k
 | _=>false
def eqO:Option Nat->Option Nat->Bool
 | some a,some b=>Nat.beq a b
 | _,_=>false
theorem Y9 {a b:Option Nat} (h:eqO a b=false):∀ t,a=some t->b ≠ some t:=by
 rintro t rfl rfl
 simp [eqO] at h
abbrev Fe:=List (Nat × Option Tmp × Dat)
def SL (L:Nat):Fe->St3->St3
 | [],s=>s
 | (i,d,D)::r,s=>SL L r (bif L.testBit i then Gb d D s else s)
def Wc (T:Ty) (A:List (Nat × OA)) (q:List (Nat × RV)):List (Nat × Oper)->St3->Option Fe
 | [],_=>some []
 | (i,o)::l,s=>match Qc T (OA.at A i) (A1 i q) o s with
  | some (g,av,x,e)=>bif okE o.dst e then (match Wc T A q l (Gb o.dst ⟨g,av,x,e⟩ s) with
   | some r=>some ((i,o.dst,⟨g,av,x,e⟩)::r)
   | none=>none) else none
  | none=>none
def Ur (o:Oper) (j:Nat):Bool:=o.after.toList.any λe=>Region.binds .any e&&Nat.beq e.on j
def opT:Operand->Option Nat
 | .tmp t=>some t
 | _=>none
def Ang (D:Fe) (i:Nat) (o:Oper):Bool:=match Is o with
 | none=>false
 | some xs=>xs.all λx=>D.all λp=>!eqO (opT x) p.2.1 || (Ur o p.1&&Nat.blt p.1 i)
def Yq (i:Nat):Fe->Option Dat
 | []=>none
 | (j,_,D)::r=>bif Nat.beq j i then some D else Yq i r
def B76 (K:Am) (l:List (Nat × Oper)) (D:Fe) (s:St3) (p:Nat × Oper):Bool :=
 Ang D p.1 p.2&&(match p.2.dst with
  | some t=>Nat.blt t K.N
  | none=>true)&&(match Yq p.1 D with
  | some Di=>D.all (λr=>Nat.beq r.1 p.1 || (!eqO p.2.dst r.2.1&&(!eqO (hdl p.2.dst Di.e) (hdl r.2.1 r.2.2.e) || (match A1 r.1 l with
    | some o=>Ur o p.1 || Ur p.2 r.1
    | none=>false))))&&(match Di.e with
   | .new _=>match p.2.dst with
    | some k=>(A1 k s.boxes).isNone&&Nat.blt k 1000&&s.clean k&&D.all (λr=>Nat.beq r.1 p.1 || (!eqO (some k) (hdl r.2.1 r.2.2.e) && !r.2.2.x.men k && !Agh k r.2.2.e) || (match A1 r.1 l with
     | some o=>Ur o p.1
     | none=>false))
    | none=>false
   | _=>true)
  | none=>false)
def Bjz (K:Am) (l:List (Nat × Oper)) (D:Fe) (s:St3):Bool:=l.all (B76 K l D s)
def A5r:List Nat->List Nat
 | []=>[0]
 | e::r=>A5r r++(A5r r).map (· ||| 1 <<< e)
theorem Afn (L:Nat):∀ E:List Nat,∃ m ∈ A5r E,∀ x,m.testBit x=(E.any (Nat.beq x)&&L.testBit x)
 | []=>⟨0,by simp [A5r],λx=>by simp⟩
 | e::r=>by
  obtain ⟨m,hm,h⟩:=Afn L r
  cases hb:L.testBit e with
  | true =>
   refine ⟨m ||| 1 <<< e,QF.2 (.inr (ZM.2 ⟨m,hm,rfl⟩)),λx=>?_⟩;rw [Qaj,h];by_cases c:x=e
   . subst c;simp [hb]
   . have e1 : (1 <<< e).testBit x = false := by
      rw [KZ];by_cases c2:e<=x
      . obtain ⟨d,hd⟩:∃ d,x-e=d+1:=⟨x-e-1,by omega⟩
        rw [hd];simp [JV]
      . simp [c2]
     have e2:Nat.beq x e=false:=by cases e3:Nat.beq x e with | false=>rfl | true=>exact absurd (QC e3) c
     rw [e1,YW,e2,Qao,YO]
  | false =>
   refine ⟨m,QF.2 (.inl hm),λx=>?_⟩;rw [h,YW];by_cases c:x=e
   . subst c;simp [hb]
   . have e2:Nat.beq x e=false:=by cases e3:Nat.beq x e with | false=>rfl | true=>exact absurd (QC e3) c
     rw [e2,YO]
def Yb (D:Fe):List Nat:=(D.filter λp=>isE p.2.2.e).map (·.1)
def Abb (acc:List (Nat × Nat)):List Go.Edge->Nat
 | []=>0
 | e::r=>bif Region.binds .any e then Abb acc r ||| 1 <<< e.on ||| (A1 e.on acc).getD 0 else Abb acc r
def A5l:List (Nat × Oper)->List (Nat × Nat)->List (Nat × Nat)
 | [],acc=>acc
 | (i,o)::l,acc=>A5l l ((i,Abb acc o.after.toList)::acc)
def Aqx (l:List (Nat × Oper)) (D:Fe) (p:Nat × Oper):List Nat :=
 (A5r (Yb D)).filter λm=>!m.testBit p.1&&((A5l l []).all λr=>!(m.testBit r.1&&r.2.testBit p.1)&&(!(Nat.beq r.1 p.1 || m.testBit r.1) || (Yb D).all (λk=>!r.2.testBit k || m.testBit k)))
theorem Aq6 {L:Nat} {acc:List (Nat × Nat)} (ha:∀ j m,A1 j acc=some m->L.testBit j=true->∀ k,m.testBit k=true->L.testBit k=true):∀ {es:List Go.Edge},(∀ e ∈ es,Region.binds .any e=true->L.testBit e.on=true)->∀ k,(Abb acc es).testBit k=true->L.testBit k=true
 | [],_,k,h=>by simp [Abb] at h
 | e::r,he,k,h=>by
  simp only [Abb] at h
  have ih:=Aq6 ha (es:=r) (λe h=>he e (by simp [h])) k
  cases hb:Region.binds .any e with
  | false=>rw [hb] at h;exact ih h
  | true =>
   rw [hb] at h
   have hL:=he e (by simp) hb
   simp only [cond,Qaj,XN] at h;rcases h with (h | h) | h
   . exact ih h
   . rw [KZ] at h
     have:k=e.on:=by
      rcases JR k e.on with c | c | c
      . have:¬ k>=e.on:=by omega
        simp [this] at h
      . exact c
      . obtain ⟨d,hd⟩:∃ d,k-e.on=d+1:=⟨k-e.on-1,by omega⟩
        rw [hd] at h;simp [JV] at h
     rw [this];exact hL
   . cases hl:A1 e.on acc with
     | none=>rw [hl] at h;simp at h
     | some m=>rw [hl] at h;exact ha _ m hl hL k h
theorem Aba {L i0:Nat} {l0:List (Nat × Oper)} (hr:∀ p ∈ l0,L.testBit p.1=true \/ p.1=i0->∀ e ∈ p.2.after,Region.binds .any e=true->L.testBit e.on=true):∀ {l:List (Nat × Oper)} {acc:List (Nat × Nat)},(∀ p ∈ l,p ∈ l0) ->
  (∀ r ∈ acc,L.testBit r.1=true \/ r.1=i0->∀ k,r.2.testBit k=true->L.testBit k=true)->∀ r ∈ A5l l acc,L.testBit r.1=true \/ r.1=i0->∀ k,r.2.testBit k=true->L.testBit k=true
 | [],acc,_,ha,r,h=>ha r h
 | (i,o)::l,acc,hl,ha,r,h=>by
  refine Aba hr (l:=l) (λp hp=>hl p (by simp [hp])) (λr hr'=>?_) r h
  rcases QU.1 hr' with rfl | hr'
  . intro hi k hk
    refine Aq6 (λj m hj hL k hk=>ha (j,m) (Ca hj) (.inl hL) k hk) (λe he hb=>hr (i,o) (hl _ (by simp)) hi e (by simpa using he) hb) k hk
  . exact ha r hr'
abbrev B6s:=Option (Bool × AV × SV × E3)
def Bhs:Option Dat->B6s
 | some D=>some (D.g,D.av,D.x,D.e)
 | none=>none
def Bjy (T:Ty) (A:List (Nat × OA)) (q:List (Nat × RV)) (l:List (Nat × Oper)) (D:Fe) (s:St3):List (List B6s) :=
 l.map λp=>(Aqx l D p).map λm=>Qc T (OA.at A p.1) (A1 p.1 q) p.2 ⟨(SL (2 ^ p.1-1) D s).slots,(SL m D s).boxes⟩
def Bjx (l:List (Nat × Oper)) (D:Fe):List (List B6s) :=
 l.map λp=>(Aqx l D p).map λ_=>Bhs (Yq p.1 D)
def Bdg (m:Nat) (l:List (Nat × Oper)):Bool:=(A5l l []).all λr=>Nat.blt r.1 m || (List.range r.1).all λk=>r.2.testBit k
def Aq9 (T:Ty) (K:Am) (A:List (Nat × OA)) (l:List (Nat × Oper)) (s:St3) (q:List (Nat × RV)):Prop :=
 ∃ m,Bdg m l=true/\(match Wc T A q (l.take m) s with
  | some D=>Bjz K (l.take m) D s
  | none=>false)=true/\Bjy T A q (l.take m) ((Wc T A q (l.take m) s).getD []) s=Bjx (l.take m) ((Wc T A q (l.take m) s).getD [])
theorem B1o {d d':Option Tmp} {e e':E3} (h:∀ t,hdl d e=some t->hdl d' e' ≠ some t) (bs:List (Nat × B3)):Up d e (Up d' e' bs)=Up d' e' (Up d e bs):=by
 cases e <;> cases e' <;> first | rfl | skip;all_goals cases d <;> cases d' <;> first | rfl | skip
 all_goals (simp only [Up];first | rfl | (refine A1z _ _ (λc=>?_) _;subst c;exact h _ rfl rfl))
theorem Av6 {d d':Option Tmp} {x x':SV} (h:∀ t,d=some t->d' ≠ some t) (sl:List (Nat × SV)):Sk d x (Sk d' x' sl)=Sk d' x' (Sk d x sl):=by
 cases d <;> cases d' <;> first | rfl | skip;simp only [Sk];refine A1z _ _ (λc=>?_) _;subst c;exact h _ rfl rfl
theorem B25 {d d':Option Tmp} {D D':Dat} (h1:∀ t,d=some t->d' ≠ some t) (h2:∀ t,hdl d D.e=some t->hdl d' D'.e ≠ some t) (s:St3):Gb d D (Gb d' D' s)=Gb d' D' (Gb d D s):=by
 simp only [Gb,Av6 h1,B1o h2]
theorem Aln {L L':Nat}:∀ {D:Fe} {s:St3},(∀ p ∈ D,L.testBit p.1=L'.testBit p.1)->SL L D s=SL L' D s
 | [],_,_=>rfl
 | (i,d,D)::r,s,h=>by
  simp only [SL,h (i,d,D) (by simp)]
  exact Aln λp hp=>h p (by simp [hp])
theorem Yg (L i j:Nat):(L ||| 1 <<< i).testBit j=(L.testBit j || decide (j=i)):=by
 rw [Qaj];congr 1;rw [KZ];by_cases c:j=i
 . subst c;simp
 . by_cases c2:i<=j
   . obtain ⟨d,hd⟩:∃ d,j-i=d+1:=⟨j-i-1,by omega⟩
     rw [hd];simp [JV,c]
   . simp [c2,c]
theorem B2c {L:Nat} {d:Option Tmp} {D0:Dat}:∀ {D:Fe} {s:St3},(∀ p ∈ D,L.testBit p.1=true->(∀ t,d=some t->p.2.1 ≠ some t)/\(∀ t,hdl d D0.e=some t->hdl p.2.1 p.2.2.e ≠ some t)) ->
  SL L D (Gb d D0 s)=Gb d D0 (SL L D s)
 | [],_,_=>rfl
 | (j,d',D')::r,s,h=>by
  simp only [SL]
  have ih:=λs=>B2c (L:=L) (d:=d) (D0:=D0) (D:=r) (s:=s) λp hp=>h p (by simp [hp])
  cases hb:L.testBit j with
  | false=>simp only [cond];exact ih s
  | true =>
   simp only [cond]
   obtain ⟨h1,h2⟩:=h (j,d',D') (by simp) hb
   rw [<- B25 h1 h2,ih]
theorem B2d {L i:Nat} {d:Option Tmp} {D0:Dat}:∀ {D:Fe} {s:St3},(D.map (·.1)).Pairwise (· < ·)->(i,d,D0) ∈ D->L.testBit i=false->(∀ p ∈ D,i<p.1->L.testBit p.1=true->(∀ t,d=some t->p.2.1 ≠ some t)/\(∀ t,hdl d D0.e=some t->hdl p.2.1 p.2.2.e ≠ some t)) ->
  SL (L ||| 1 <<< i) D s=Gb d D0 (SL L D s)
 | [],_,_,h,_,_=>by simp at h
 | (j,d',D')::r,s,hn,hm,hb,h=>by
  simp only [QW,List.pairwise_cons] at hn;have hlt:∀ p ∈ r,j<p.1:=λp hp=>hn.1 p.1 (ZM.2 ⟨p,hp,rfl⟩);rcases QU.1 hm with e | hm
  . simp only [QI] at e;obtain ⟨rfl,rfl,rfl⟩:=e;simp only [SL,hb,Yg,decide_true,Bool.or_true,cond]
    rw [Aln (L':=L) λp hp=>by rw [Yg];have:=hlt p hp;simp [show p.1 ≠ i by omega]]
    exact B2c λp hp=>h p (by simp [hp]) (hlt p hp)
  . have hne:j ≠ i:=λc=>by have:=hlt _ hm;simp only at this;omega
    simp only [SL,Yg,hne,decide_false,Qao]
    exact B2d hn.2 hm hb λp hp=>h p (by simp [hp])
theorem Aq8 {L L' t:Nat}:∀ {D:Fe} {s s':St3},A1 t s.slots=A1 t s'.slots->(∀ p ∈ D,p.2.1=some t->L.testBit p.1=L'.testBit p.1)->A1 t (SL L D s).slots=A1 t (SL L' D s').slots
 | [],_,_,h,_=>h
 | (i,d,D)::r,s,s',h,hp=>by
  simp only [SL]
  refine Aq8 ?_ λp hq=>hp p (by simp [hq])
  have key:∀ s,d ≠ some t->A1 t (Gb d D s).slots=A1 t s.slots:=λs hd=>by
   cases d with
   | none=>rfl
   | some u=>exact Ac _ _ λc=>hd (by rw [c])
  by_cases hd:d=some t
  . rw [hp (i,d,D) (by simp) hd]
    cases L'.testBit i with
    | false=>exact h
    | true=>subst hd;simp only [cond,Gb,Sk,A9]
  . cases L.testBit i <;> cases L'.testBit i <;> simp only [cond,key _ hd,h]
theorem B1n {d:Option Tmp} {e:E3} (h:isE e=false) (bs:List (Nat × B3)):Up d e bs=bs:=by cases e <;> first | rfl | cases h
theorem Alp {L L':Nat}:∀ {D:Fe} {s s':St3},s.boxes=s'.boxes->(∀ p ∈ D,isE p.2.2.e=true->L.testBit p.1=L'.testBit p.1)->(SL L D s).boxes=(SL L' D s').boxes
 | [],_,_,h,_=>h
 | (i,d,D)::r,s,s',h,hp=>by
  simp only [SL]
  refine Alp ?_ λp hq=>hp p (by simp [hq])
  cases he:isE D.e with
  | true =>
   rw [hp (i,d,D) (by simp) he]
   cases L'.testBit i <;> simp only [cond,Gb,h]
  | false=>cases L.testBit i <;> cases L'.testBit i <;> simp only [cond,Gb,B1n he,h]
theorem Abc {β:Type} {f:Nat × β->Bool} {k:Nat} {x:β} {l:List (Nat × β)} (h:l.all f=true) (hx:f (k,x)=true):(Ak k x l).all f=true:=by
 refine QM.2 λp hp=>?_;rcases Rr hp with rfl | hp
 . exact hx
 . exact QM.1 h p hp
theorem Alo {L k:Nat}:∀ {D:Fe} {s:St3},s.clean k=true->(∀ p ∈ D,L.testBit p.1=true->p.2.2.x.men k=false/\Agh k p.2.2.e=false)->(SL L D s).clean k=true
 | [],_,h,_=>h
 | (i,d,D)::r,s,h,hp=>by
  simp only [SL]
  refine Alo ?_ λp hq=>hp p (by simp [hq])
  cases hb:L.testBit i with
  | false=>exact h
  | true =>
   obtain ⟨h1,h2⟩:=hp (i,d,D) (by simp) hb
   simp only [cond];unfold St3.clean at h ⊢;simp only [QE] at h ⊢;refine ⟨?_,?_⟩
   . cases d with
     | none=>exact h.1
     | some t=>exact Abc h.1 (by simp only at h1;simp [h1])
   . show List.all (Up d D.e s.boxes) _=true;simp only at h2
     cases he:D.e with
     | new b =>
      rw [he] at h2
      cases d with
      | none=>exact h.2
      | some t=>exact Abc h.2 (by simp only [Agh] at h2;simp [h2])
     | set hh b =>
      rw [he] at h2
      exact Abc h.2 (by simp only [Agh] at h2;simp [h2])
     | none=>exact h.2
     | app hh b=>exact h.2
     | frz ks=>exact h.2
theorem Alm {L k:Nat}:∀ {D:Fe} {s:St3},A1 k s.boxes=none->(∀ p ∈ D,L.testBit p.1=true->hdl p.2.1 p.2.2.e ≠ some k)->A1 k (SL L D s).boxes=none
 | [],_,h,_=>h
 | (i,d,D)::r,s,h,hp=>by
  simp only [SL]
  refine Alm ?_ λp hq=>hp p (by simp [hq])
  cases hb:L.testBit i with
  | false=>exact h
  | true =>
   have h1:=hp (i,d,D) (by simp) hb
   simp only at h1;simp only [cond];show A1 k (Up d D.e s.boxes)=none
   cases he:D.e with
   | new b =>
    rw [he] at h1
    cases d with
    | none=>exact h
    | some t=>exact (Ac _ _ λc=>h1 (by simp only [hdl];rw [c])).trans h
   | set hh b =>
    rw [he] at h1
    exact (Ac _ _ λc=>h1 (by simp only [hdl];rw [c])).trans h
   | none=>exact h
   | app hh b=>exact h
   | frz ks=>exact h
theorem Aus {K:Am} {A:OA} {rv:Option RV} {o:Oper} {s:St3} {g:Bool} {av:AV} {x:SV} {e:E3} (h:Qc T A rv o s=some (g,av,x,e)) (hK:∀ t,o.dst=some t->Nat.blt t K.N=true) (he:okE o.dst e=true)
  (hnew:∀ b k,e = .new b->o.dst=some k->(A1 k s.boxes).isNone=true/\Nat.blt k 1000=true/\s.clean k=true):Dw T K A rv o s=some (g,av,Gb o.dst ⟨g,av,x,e⟩ s):=by
 rw [Abl h]
 have put:∀ s1:St3,s1.put3 K o.dst x=some ⟨Sk o.dst x s1.slots,s1.boxes⟩:=λs1=>by
  unfold St3.put3
  cases hd:o.dst with
  | none=>rfl
  | some t=>simp only [hK t hd,cond];rfl
 cases e with
 | none=>simp only [St3.eff3,YC,put,QQ];rfl
 | set hh b=>simp only [St3.eff3,YC,put,QQ];rfl
 | new b =>
  cases hd:o.dst with
  | none=>rw [hd] at he;cases he
  | some k =>
   obtain ⟨q1,q2,q3⟩:=hnew b k rfl hd;rw [hd] at put;simp only [St3.eff3,q1,q2,q3,ZG,cond,YC,put,QQ];rfl
 | app hh b=>cases he
 | frz ks=>cases he
theorem Aur {K:Am} {A:OA} {rv:Option RV} {o:Oper} {s s1:St3} {g g1:Bool} {av av1:AV} {x:SV} {e:E3} (h:Qc T A rv o s=some (g,av,x,e)) (he:okE o.dst e=true) (hs:Dw T K A rv o s=some (g1,av1,s1)) :
  g1=g/\av1=av/\s1=Gb o.dst ⟨g,av,x,e⟩ s:=by
 rw [Abl h] at hs
 have put:∀ {s0:St3},(s0.put3 K o.dst x).map (λs'=>(g,av,s'))=some (g1,av1,s1)->g1=g/\av1=av/\s1=⟨Sk o.dst x s0.slots,s0.boxes⟩:=λ{s0} hp=>by
  unfold St3.put3 at hp
  cases hd:o.dst with
  | none =>
   rw [hd] at hp;simp only [QQ,QD,QI] at hp;obtain ⟨rfl,rfl,rfl⟩:=hp;exact ⟨rfl,rfl,rfl⟩
  | some t =>
   rw [hd] at hp;simp only at hp
   cases hb:Nat.blt t K.N with
   | false=>rw [hb] at hp;cases hp
   | true =>
    rw [hb] at hp;simp only [cond,QQ,QD,QI] at hp;obtain ⟨rfl,rfl,rfl⟩:=hp;exact ⟨rfl,rfl,rfl⟩
 cases e with
 | none=>exact put hs
 | set hh b=>exact put hs
 | new b =>
  cases hd:o.dst with
  | none=>rw [hd] at he;cases he
  | some k =>
   rw [hd] at hs put;simp only [St3.eff3] at hs
   cases hb:((A1 k s.boxes).isNone&&Nat.blt k 1000&&s.clean k) with
   | false=>rw [hb] at hs;cases hs
   | true=>rw [hb] at hs;exact put hs
 | app hh b=>cases he
 | frz ks=>cases he
theorem Afz {K:Am} {A:List (Nat × OA)} {q:List (Nat × RV)}:∀ {l:List (Nat × Oper)} {s s':St3} {D:Fe},Fx T K A q l s s'->Wc T A q l s=some D ->
  D.map (λp=>(p.1,p.2.1))=l.map (λp=>(p.1,p.2.dst))/\(∀ p ∈ D,p.2.2.g=true/\p.2.2.av.ok/\okE p.2.1 p.2.2.e=true) /\ ∀ L:Nat,(∀ p ∈ D,L.testBit p.1=true)->SL L D s=s'
 | [],s,s',D,h,hd=>by
  simp only [Wc,QD] at hd;subst hd
  exact ⟨rfl,λp hp=>by simp at hp,λ_ _=>h⟩
 | (i,o)::l,s,s',D,h,hd=>by
  obtain ⟨av,s1,h1,h2,h3⟩:=h;simp only [Wc] at hd;split at hd
  . rename_i g av' x e he
    cases hok:okE o.dst e with
    | false=>rw [hok] at hd;cases hd
    | true =>
     rw [hok] at hd;simp only [cond] at hd;split at hd
     . rename_i r hr;obtain rfl:=QA hd;obtain ⟨rfl,rfl,rfl⟩:=Aur he hok h1;obtain ⟨a1,a2,a3⟩:=Afz h3 hr
       refine ⟨by simp only [QW,a1],λp hp=>?_,λL hL=>?_⟩
       . rcases QU.1 hp with rfl | hp
         . exact ⟨rfl,h2,hok⟩
         . exact a2 p hp
       . have hi:=hL (i,o.dst,⟨true,av,x,e⟩) (by simp)
         simp only at hi;simp only [SL,hi,cond]
         exact a3 L λp hp=>hL p (by simp [hp])
     . cases hd
  . cases hd
theorem Abx {i:Nat} {D0:Dat}:∀ {D:Fe},Yq i D=some D0->∃ d,(i,d,D0) ∈ D
 | [],h=>by cases h
 | (j,d,D1)::r,h=>by
  simp only [Yq] at h
  cases hb:Nat.beq j i with
  | true =>
   rw [hb] at h;obtain rfl:=QA h;obtain rfl:=QC hb
   exact ⟨d,by simp⟩
  | false =>
   rw [hb] at h;obtain ⟨d',h'⟩:=Abx h
   exact ⟨d',by simp [h']⟩
theorem B2i {s s2:St3} {x:Operand} (h:∀ t,opT x=some t->A1 t s.slots=A1 t s2.slots):s.val x=s2.val x:=by
 cases x with
 | tmp t=>simp only [St3.val,h t rfl]
 | _=>rfl
theorem Ab3 {o:Oper} {j:Nat} (h:Ur o j=true):∃ e ∈ o.after,Region.binds .any e=true/\e.on=j:=by
 unfold Ur at h;obtain ⟨e,he,h2⟩:=ZZ.1 h;simp only [QE] at h2
 exact ⟨e,by simpa using he,h2.1,QC h2.2⟩
theorem Fx.split {K:Am} {A:List (Nat × OA)} {q:List (Nat × RV)}:∀ (m:Nat) {l:List (Nat × Oper)} {s s':St3},Fx T K A q l s s'->∃ s1,Fx T K A q (l.take m) s s1/\Fx T K A q (l.drop m) s1 s'
 | 0,l,s,s',h=>⟨s,by simp [Fx],by simpa using h⟩
 | m+1,[],s,s',h=>⟨s',by simpa using h,by simp [Fx]⟩
 | m+1,(i,o)::l,s,s',h=>by
  obtain ⟨av,s1,h1,h2,h3⟩:=h;obtain ⟨s2,k1,k2⟩:=Fx.split m h3;exact ⟨s2,⟨av,s1,h1,h2,k1⟩,k2⟩
theorem Aea {K:Am} {A:List (Nat × OA)} {q:List (Nat × RV)} {L:Nat}:∀ {a b:List (Nat × Oper)} {s:St3},S3 T K A q L (a++b) s=S3 T K A q L b (S3 T K A q L a s)
 | [],_,_=>rfl
 | (i,o)::a,b,s=>by simp only [YI,S3];exact Aea
theorem Fx.at2 {K:Am} {A:List (Nat × OA)} {q:List (Nat × RV)} {i0:Nat}:∀ {l:List (Nat × Oper)} {s s':St3} {b:Nat},Fx T K A q l s s'->(∀ k p,l[k]? = some p->p.1=b+k)->∀ {i:Nat} {o:Oper},i=b+i0->l[i0]? = some (i,o) ->
  ∃ av,Dw T K (OA.at A i) (A1 i q) o (S3 T K A q (2 ^ i-1) l s)=some (true,av,S3 T K A q (2 ^ (i+1)-1) l s)/\av.ok:=by
 induction i0 with
 | zero =>
  intro l s s' b h hl i o hi ho
  match l,h with
  | [],_=>simp at ho
  | (j,o')::l,h =>
   simp only [JK,QD,QI] at ho;obtain ⟨rfl,rfl⟩:=ho;obtain ⟨av,s1,h1,h2,_⟩:=h
   have hgt:∀ p ∈ l,j<p.1:=λp hp=>by
    obtain ⟨k,hk⟩:=KA hp
    have:=hl (k+1) p (by simpa using hk)
    omega
   refine ⟨av,?_,h2⟩;rw [Na (λp hp=>?_)]
   . have hb:(2 ^ (j+1)-1).testBit j=true:=by rw [ZL];simp
     simp only [S3,hb,cond,h1]
     rw [Na λp hp=>by have:=hgt p hp;rw [ZL];simp only [ZS];omega]
   . obtain ⟨k,hk⟩:=KA hp;have:=hl k p hk;rw [ZL];simp only [ZS];omega
 | succ i0 ih =>
  intro l s s' b h hl i o hi ho
  match l,h with
  | [],_=>simp at ho
  | (j,o')::l,h =>
   obtain ⟨av,s1,h1,_,h3⟩:=h;have hj:=hl 0 (j,o') rfl;simp only [KF] at hj
   obtain ⟨av2,q1,q2⟩:=ih (b:=b+1) h3 (λk p hk=>by have:=hl (k+1) p (by simpa using hk);omega) (i:=i) (o:=o) (by omega) (by simpa using ho)
   refine ⟨av2,?_,q2⟩
   have hb:(2 ^ i-1).testBit j=true:=by
    rw [ZL];simp only [QO];omega
   have hb2:(2 ^ (i+1)-1).testBit j=true:=by
    rw [ZL];simp only [QO];omega
   simp only [S3,hb,hb2,cond,h1];exact q1
theorem B3q (hT:Aw P T) (hfol:P.follows .mixedOrders=true) {K:Am} {A:List (Nat × OA)} {X:Tm} {id:Nat} {ops:Array Oper} {nt:Nat} (hE:∀ i a,A1 i A=some a->a.S P) (hchk:Aw6 A (A7 ops.toList)=true)
  {w:X.den} {q:List (Nat × RV)} {s':St3} (hw:WT A (A7 ops.toList) q) (hF:Aq9 T K A (A7 ops.toList) (X.enc w) q) (hrun:Fx T K A q (A7 ops.toList) (X.enc w) s') :
  Code.Den P K (.region id ops true) ((X.enc w).st nt) .normal (s'.st nt):=by
 obtain ⟨m,hsuf,h1,h2⟩:=hF;obtain ⟨sm,hrun1,hrun2⟩:=hrun.split m
 cases hD:Wc T A q ((A7 ops.toList).take m) (X.enc w) with
 | none=>rw [hD] at h1;cases h1
 | some D =>
 rw [hD] at h1 h2;simp only [XR] at h1 h2;obtain ⟨a1,a2,a3⟩:=Afz hrun1 hD
 have chk:∀ p ∈ A7 ops.toList,p.2.guard=none/\(∀ e ∈ p.2.after,Region.binds .any e=true->e.on<p.1)/\(OA.at A p.1).two=false:=λp hp=>by
  have:=QM.1 hchk p hp;simp only [QE] at this;obtain ⟨⟨h1,h2⟩,h3⟩:=this
  refine ⟨?_,λe he hb=>?_,by cases hx:(OA.at A p.1).two with | false=>rfl | true=>rw [hx] at h3;cases h3⟩
  . cases hg:p.2.guard with
    | none=>rfl
    | some _=>rw [hg] at h1;cases h1
  . have:=QM.1 h2 e (by simpa using he)
    rw [hb] at this;simpa [ZP] using this
 have hsz:(A7 ops.toList).length=ops.size:=by simp [A7]
 have at_:∀ (i:Nat) (o:Oper),ops[i]? = some o->(A7 ops.toList)[i]? = some (i,o):=λi o hi=>by
  obtain ⟨h1,h2⟩:=ZI.1 hi;simp [A7,YZ,h1,h2]
 have opsAt:∀ p ∈ A7 ops.toList,ops[p.1]? = some p.2:=λp hp=>by
  obtain ⟨k,hk⟩:=KA hp;obtain ⟨q1,q2⟩:=Cu hk;rw [q1];simpa using q2
 have key:((A7 ops.toList).map (·.1))=List.range ops.toList.length:=by
  apply JD;intro j;simp only [A7,XJ,QK,YZ];by_cases hj:j<ops.toList.length
  . simp at hj;simp [hj]
  . simp at hj;simp [hj]
 have kD:D.map (·.1)=((A7 ops.toList).take m).map (·.1):=by
  have:=XU (List.map (·.1)) a1;simpa [XJ,Function.comp_def] using this
 have hnd:(D.map (·.1)).Pairwise (· < ·):=by
  rw [kD,JL,key];exact List.pairwise_lt_range.sublist (List.take_sublist _ _)
 have tk:∀ p ∈ (A7 ops.toList).take m,p.1<m:=λp hp=>by
  obtain ⟨k,hk⟩:=KA hp;rw [XG] at hk;split at hk
  . rename_i hlt;have:=(Cu hk).1;omega
  . cases hk
 have ent:∀ p ∈ D,∃ o,ops[p.1]? = some o/\p.2.1=o.dst/\p.1<m:=λp hp=>by
  have:(p.1,p.2.1) ∈ ((A7 ops.toList).take m).map (λp=>(p.1,p.2.dst)):=by rw [<- a1];exact ZM.2 ⟨p,hp,rfl⟩
  obtain ⟨r,hr,e⟩:=ZM.1 this;simp only [QI] at e
  exact ⟨r.2,by rw [<- e.1];exact opsAt r (Qba hr),e.2.symm,by rw [<- e.1];exact tk r hr⟩
 have lk:∀ (i:Nat) (o:Oper),i<m->ops[i]? = some o->A1 i ((A7 ops.toList).take m)=some o:=λi o him hi=>by
  have hm:(i,o) ∈ (A7 ops.toList).take m:=QX (i:=i) (by rw [XG,QL him];exact at_ i o hi)
  have nd:(((A7 ops.toList).take m).map (·.1)).Nodup:=(Fg ops.toList).sublist ((List.take_sublist _ _).map _);generalize (A7 ops.toList).take m=l at hm nd
  induction l with
  | nil=>simp at hm
  | cons r l ih =>
   obtain ⟨j,o'⟩:=r;simp only [QW,KC] at nd;rcases QU.1 hm with e | hm
   . simp only [QI] at e;obtain ⟨rfl,rfl⟩:=e;exact Bk
   . rw [B6 λc=>nd.1 (by rw [c];exact ZM.2 ⟨_,hm,rfl⟩)]
     exact ih hm nd.2
 have h0:SL 0 D (X.enc w)=X.enc w:=by
  clear a3 hD h1 h2 a1 a2 kD hnd ent hrun1;generalize X.enc w=s
  induction D generalizing s with
  | nil=>rfl
  | cons p r ih=>obtain ⟨i,d,D⟩:=p;simp only [SL,Nat.zero_testBit,cond];exact ih s
 have hpre:∀ L:Nat,(∀ j,j<m->L.testBit j=true)->SL L D (X.enc w)=sm:=λL hL=>a3 _ λp hp=>hL p.1 (ent p hp).choose_spec.2.2
 have hpre3:S3 T K A q (2 ^ m-1) (A7 ops.toList) (X.enc w)=sm:=by
  conv=>lhs;rw [<- JA m (A7 ops.toList)]
  rw [Aea,A87 hrun1 λp hp=>by have:=tk p hp;rw [ZL];simpa using this]
  refine Na λp hp=>?_;obtain ⟨k,hk⟩:=KA hp;rw [YG] at hk;have:=(Cu hk).1;rw [ZL];simp only [ZS];omega
 have hfull:(if 2 ^ ops.size-1<2 ^ m then SL (2 ^ ops.size-1) D (X.enc w) else S3 T K A q (2 ^ ops.size-1) (A7 ops.toList) (X.enc w))=s':=by
  have hS3:S3 T K A q (2 ^ ops.size-1) (A7 ops.toList) (X.enc w)=s':=A87 hrun λp hp=>by
   obtain ⟨j,hj⟩:=KA hp;have:=(Cu hj).1;have hlt:=(QP.1 hj).1;rw [ZL];simp only [QO];omega
  split
  . rename_i hlt
    have hnm:ops.size<=m:=by
     rcases XE m ops.size with h | h
     . exfalso
       have h3:2 ^ (m+1)<=2 ^ ops.size:=JG (by omega) h
       have h4:0<2 ^ m:=Qbm (by omega)
       have:2 ^ (m+1)=2*2 ^ m:=by rw [KK];omega
       omega
     . exact h
    rw [ZD (by omega)] at hrun2
    have e:sm=s':=hrun2;rw [<- e];refine a3 _ λp hp=>?_;obtain ⟨o,ho,_,_⟩:=ent p hp;have:=(ZI.1 ho).1;rw [ZL];simpa using this
  . exact hS3
 have:=Ac6 (P:=P) hfol (K:=K) (id:=id) (ops:=ops) (S:=λL=>(if L<2 ^ m then SL L D (X.enc w) else S3 T K A q L (A7 ops.toList) (X.enc w)).st nt)
  (λi o hi=>(chk (i,o) (QX (at_ i o hi))).2.1) (λL i o hbig hcl hoi hbit hdep=>?_)
 . simp only [hfull,QL (show 0<2 ^ m from Qbm (by omega)),h0] at this
   exact this
 . have hmem:=QX (at_ i o hoi);refine ⟨(chk (i,o) hmem).1,?_⟩
   have hAi:(OA.at A i).S P:=by
    unfold OA.at
    cases hl:A1 i A with
    | none=>exact ⟨(λE h=>by cases h),(λE h=>by cases h),(λE h=>by cases h)⟩
    | some a=>exact hE i a hl
   have hRV:RV.S P (A1 i q):=by
    unfold RV.S;split
    . rename_i E z hz;exact hAi.2.1 E (WT.bx hw hz)
    . trivial
   have anc0:∀ r ∈ A5l (A7 ops.toList) [],L.testBit r.1=true \/ r.1=i->∀ k,r.2.testBit k=true->L.testBit k=true:=Aba (L:=L) (i0:=i) (l0:=A7 ops.toList) (λp hp hpi e he hbe=>by
    rcases hpi with h3 | h3
    . exact hcl p.1 p.2 h3 (opsAt p hp) e he hbe
    . have q3:=opsAt p hp;rw [h3,hoi] at q3;obtain rfl:=QA q3
      exact hdep e he hbe) (l:=A7 ops.toList) (acc:=[]) (λ_ h=>h) (λr h=>by simp at h)
   have inA:∀ j,j<ops.size->∃ mk,(j,mk) ∈ A5l (A7 ops.toList) []:=λj hj=>by
    have:∀ (l:List (Nat × Oper)) (acc:List (Nat × Nat)),((∃ p ∈ l,p.1=j) \/ ∃ mk,(j,mk) ∈ acc)->∃ mk,(j,mk) ∈ A5l l acc:=by
     intro l
     induction l with
     | nil=>intro acc h;rcases h with ⟨p,hp,_⟩ | h;simp at hp;exact h
     | cons p l ih =>
      intro acc h;obtain ⟨i1,o1⟩:=p;refine ih _ ?_;rcases h with ⟨p,hp,rfl⟩ | ⟨mk,h⟩
      . rcases QU.1 hp with rfl | hp
        . exact .inr ⟨_,YR⟩
        . exact .inl ⟨p,hp,rfl⟩
      . exact .inr ⟨mk,ZX _ h⟩
    exact this _ _ (.inl ⟨(j,ops[j]),QX (at_ j _ (Qac hj)),rfl⟩)
   have all_:∀ j,m<=j->j<ops.size->(L.testBit j=true \/ j=i)->∀ k,k<j->L.testBit k=true:=λj hmj hj hji k hk=>by
    obtain ⟨mk,hmk⟩:=inA j hj;have:=QM.1 hsuf _ hmk;simp only [XN] at this;rcases this with h3 | h3
    . rw [ZP] at h3;omega
    . exact anc0 _ hmk hji k (QM.1 h3 k (YN.2 hk))
   have hin:i<ops.size:=(ZI.1 hoi).1;rcases XE i m with him | him
   rotate_left
   . -- one of those that wait for all
     have hLi:L=2 ^ i-1:=by
      refine KR λj=>?_;rw [ZL];rcases JR j i with c | c | c
      . rw [all_ i him hin (.inr rfl) j c];simp [c]
      . subst c;rw [hbit];simp
      . have e : L.testBit j = false := by
         cases hb:L.testBit j with
         | false=>rfl
         | true =>
          exfalso
          have hjn:j<ops.size:=by
           rcases XE j ops.size with h | h
           . exact h
           . rw [hbig j h] at hb;cases hb
          rw [all_ j (by omega) hjn (.inl hb) i c] at hbit;cases hbit
        rw [e];simp;omega
     have e1:L ||| 1 <<< i=2 ^ (i+1)-1:=by
      refine KR λj=>?_;rw [Yg,hLi,ZL,ZL];by_cases c:j=i
      . subst c;simp
      . by_cases c2:j<i
        . have:j<i+1:=by omega
          simp [c2,this]
        . have:¬ j<i+1:=by omega
          simp [c,c2,this]
     have e2:(if L<2 ^ m then SL L D (X.enc w) else S3 T K A q L (A7 ops.toList) (X.enc w))=S3 T K A q (2 ^ i-1) (A7 ops.toList) (X.enc w):=by
      split
      . rename_i hlt
        have:i=m:=by
         rcases XE m i with h | h
         . exfalso
           have h3:2 ^ (m+1)<=2 ^ i:=JG (by omega) h
           have h4:0<2 ^ m:=Qbm (by omega)
           have:2 ^ (m+1)=2*2 ^ m:=by rw [KK];omega
           omega
         . omega
        rw [this,hpre3]
        exact hpre L λj hj=>by rw [hLi,ZL,this];simpa using hj
      . rw [hLi]
     have e3:¬ L ||| 1 <<< i<2 ^ m:=by
      rw [e1]
      have h3:2 ^ (m+1)<=2 ^ (i+1):=JG (by omega) (by omega)
      have h4:0<2 ^ m:=Qbm (by omega)
      have:2 ^ (m+1)=2*2 ^ m:=by rw [KK];omega
      omega
     obtain ⟨av,b1,b2⟩:=Fx.at2 (i0:=i) hrun (λk p hk=>A5q hk) (i:=i) (o:=o) (by omega) (at_ i o hoi)
     rw [e2,QJ e3,e1];exact A1t hT b1 rfl b2 hAi hRV
   have hLm:L<2 ^ m:=Nat.lt_pow_two_of_testBit L λj hj=>by
    cases hb:L.testBit j with
    | false=>rfl
    | true =>
     exfalso
     have hjn:j<ops.size:=by
      rcases XE j ops.size with h | h
      . exact h
      . rw [hbig j h] at hb;cases hb
     rw [all_ j hj hjn (.inl hb) i (by omega)] at hbit;cases hbit
   have hLm2:L ||| 1 <<< i<2 ^ m:=Nat.lt_pow_two_of_testBit _ λj hj=>by
    rw [Yg,Nat.testBit_lt_two_pow (ZU hLm (JG (by omega) hj))]
    have:j ≠ i:=by omega
    simp [this]
   rw [QL hLm,QL hLm2]
   have hmemt:(i,o) ∈ (A7 ops.toList).take m:=QX (i:=i) (by rw [XG,QL him];exact at_ i o hoi)
   have hB:=QM.1 h1 (i,o) hmemt;unfold B76 at hB;simp only [QE] at hB;obtain ⟨⟨hnm,hK⟩,hB⟩:=hB
   cases hDi:Yq i D with
   | none=>rw [hDi] at hB;cases hB
   | some Di =>
   rw [hDi] at hB;simp only [QE] at hB;obtain ⟨hsep,hnew⟩:=hB;obtain ⟨d0,hm⟩:=Abx hDi;obtain ⟨o',ho',hd0,_⟩:=ent _ hm;simp only at ho' hd0;rw [hoi] at ho';obtain rfl:=QA ho';subst hd0;obtain ⟨g1,g2,g3⟩:=a2 _ hm;simp only at g1 g2 g3
   have nodep:∀ p ∈ D,L.testBit p.1=true->∀ o',A1 p.1 ((A7 ops.toList).take m)=some o'->Ur o' i=false:=λp hp hb o' ho'=>by
    obtain ⟨o2,ho2,_,hlt⟩:=ent p hp;rw [lk _ _ hlt ho2] at ho';obtain rfl:=QA ho'
    cases hd:Ur o2 i with
    | false=>rfl
    | true =>
     obtain ⟨e,he,hbe,rfl⟩:=Ab3 hd;rw [hcl p.1 o2 hb ho2 e he hbe] at hbit;cases hbit
   have depL:∀ j,Ur o j=true->L.testBit j=true:=λj hd=>by
    obtain ⟨e,he,hbe,rfl⟩:=Ab3 hd;exact hdep e he hbe
   obtain ⟨mm,hm1,hm2⟩:=Afn L (Yb D)
   have inE:∀ x,(Yb D).any (Nat.beq x)=true ↔ x ∈ Yb D:=λx=>by
    constructor
    . intro h;obtain ⟨y,hy,e⟩:=ZZ.1 h;exact QC e ▸ hy
    . intro h;exact ZZ.2 ⟨x,h,XF x⟩
   have hmask:mm ∈ Aqx ((A7 ops.toList).take m) D (i,o):=by
    refine Qab.2 ⟨hm1,?_⟩;simp only [QE];refine ⟨?_,?_⟩
    . rw [hm2,hbit];simp
    . refine QM.2 λr hr=>?_
      have anc:=Aba (L:=L) (i0:=i) (l0:=(A7 ops.toList).take m) (λp hp hpi e he hbe=>by
       have q3:=opsAt p (Qba hp);rcases hpi with h3 | h3
       . exact hcl p.1 p.2 h3 q3 e he hbe
       . rw [h3,hoi] at q3;obtain rfl:=QA q3
         exact hdep e he hbe) (l:=(A7 ops.toList).take m) (acc:=[]) (λ_ h=>h) (λr h=>by simp at h) r hr
      have mL:mm.testBit r.1=true->L.testBit r.1=true:=λh3=>by
       rw [hm2] at h3;simp only [QE] at h3;exact h3.2
      simp only [QE];refine ⟨?_,?_⟩
      . cases hmr:mm.testBit r.1 with
        | false=>rfl
        | true =>
         cases hd:r.2.testBit i with
         | false=>rfl
         | true=>rw [anc (.inl (mL hmr)) i hd] at hbit;cases hbit
      . cases hmr:(Nat.beq r.1 i || mm.testBit r.1) with
        | false=>rfl
        | true =>
         rw [ZR,YO];refine QM.2 λk hk=>?_
         cases hd:r.2.testBit k with
         | false=>rfl
         | true =>
          have hri:L.testBit r.1=true \/ r.1=i:=by
           simp only [XN] at hmr;rcases hmr with h3 | h3
           . exact .inr (QC h3)
           . exact .inl (mL h3)
          rw [hm2,anc hri k hd,(inE k).2 hk];rfl
   have e1:=Qal.1 h2 (i,o) hmemt;have e2:=Qal.1 e1 mm hmask;simp only [hDi,Bhs] at e2
   have hbx:(SL L D (X.enc w)).boxes=(SL mm D (X.enc w)).boxes:=Alp rfl λp hp he=>by
    rw [hm2,(inE p.1).2 (ZM.2 ⟨p,Qab.2 ⟨hp,he⟩,rfl⟩),XS]
   have heff:Qc T (OA.at A i) (A1 i q) o (SL L D (X.enc w))=some (Di.g,Di.av,Di.x,Di.e):=by
    unfold Ang at hnm
    cases hq:Is o with
    | none=>rw [hq] at hnm;cases hnm
    | some xs =>
     rw [hq] at hnm;simp only at hnm;rw [<- e2];refine Au4 hq (λx hx=>B2i λt ht=>?_) hbx;refine Aq8 rfl λp hp hpt=>?_;have:=QM.1 (QM.1 hnm x hx) p hp;rw [ht,hpt] at this;simp only [eqO,XF,ZR,YO,QE] at this;rw [depL p.1 this.1,ZL]
     have h3:p.1<i:=by simpa [ZP] using this.2
     simp [h3]
   have hstep:=Aus (K:=K) heff (λt ht=>by rw [ht] at hK;exact hK) g3 (λb k hb hk=>by
    rw [hb,hk] at hnew;simp only [QE] at hnew;obtain ⟨⟨⟨n1,n2⟩,n3⟩,n4⟩:=hnew
    have key:∀ p ∈ D,L.testBit p.1=true->hdl p.2.1 p.2.2.e ≠ some k/\p.2.2.x.men k=false/\Agh k p.2.2.e=false:=λp hp hpb=>by
     have:=QM.1 n4 p hp;simp only [XN] at this;rcases this with (h3 | h3) | h3
     . rw [QC h3,hbit] at hpb;cases hpb
     . simp only [QE,ZJ] at h3;exact ⟨Y9 h3.1.1 k rfl,h3.1.2,h3.2⟩
     . exfalso;split at h3
       . rename_i o2 ho2;rw [nodep p hp hpb o2 ho2] at h3;cases h3
       . cases h3
    refine ⟨?_,n2,Alo n3 λp hp hpb=>(key p hp hpb).2⟩
    rw [Alm (by simpa using n1) λp hp hpb=>(key p hp hpb).1];rfl)
   have hadd:SL (L ||| 1 <<< i) D (X.enc w)=Gb o.dst Di (SL L D (X.enc w)):=B2d hnd hm hbit λp hp hlt hpb=>by
    have:=QM.1 hsep p hp;simp only [XN] at this;rcases this with h3 | h3
    . have:=QC h3;omega
    . simp only [QE,ZJ,XN] at h3;refine ⟨Y9 h3.1,?_⟩;rcases h3.2 with h4 | h4
      . exact Y9 h4
      . exfalso;obtain ⟨o2,ho2,_,hlt2⟩:=ent p hp;rw [lk _ _ hlt2 ho2] at h4;simp only [XN] at h4;rcases h4 with h4 | h4
        . rw [nodep p hp hpb o2 (lk _ _ hlt2 ho2)] at h4;cases h4
        . obtain ⟨e,he,hbe,h5⟩:=Ab3 h4;have:=(chk (i,o) hmem).2.1 e he hbe;simp only at this;omega
   have e5:(⟨Di.g,Di.av,Di.x,Di.e⟩:Dat)=Di:=rfl;rw [e5,<- hadd,g1] at hstep;exact A1t hT hstep rfl g2 hAi hRV
end Go.Ev

/- DERIVED. Regions that draw their order: both checks. -/
namespace Go.Ev
open Go
variable {P:Program} {T:Ty} {α:Type}
def Al (T:Ty) (K:Am) (A:List (Nat × OA)) (X:Tm) (ops:Array Oper):Prop :=
 Aw6 A (A7 ops.toList)=true /\ ∀ w q,WT A (A7 ops.toList) q->Gs T K A (A7 ops.toList) (X.enc w) q \/ Aq9 T K A (A7 ops.toList) (X.enc w) q
theorem Bdv (hT:Aw P T) (hfol:P.follows .mixedOrders=true) {K:Am} {A:List (Nat × OA)} {X:Tm} {id:Nat} {ops:Array Oper} {nt:Nat} (hE:∀ i a,A1 i A=some a->a.S P) (hF:Al T K A X ops) {w:X.den} {k:St3->Option α} {r:α}
  (h:Ht T K ops.toList A (A7 ops.toList) (X.enc w) k=some r):∃ s',Code.Den P K (.region id ops true) ((X.enc w).st nt) .normal (s'.st nt)/\k s'=some r:=by
 obtain ⟨hchk,hfam⟩:=hF
 have chk:∀ p ∈ A7 ops.toList,p.2.guard=none/\(∀ e ∈ p.2.after,Region.binds .any e=true->e.on<p.1)/\(OA.at A p.1).two=false:=λp hp=>by
  have:=QM.1 hchk p hp;simp only [QE] at this;obtain ⟨⟨h1,h2⟩,h3⟩:=this
  refine ⟨?_,λe he hb=>?_,by cases hx:(OA.at A p.1).two with | false=>rfl | true=>rw [hx] at h3;cases h3⟩
  . cases hg:p.2.guard with
    | none=>rfl
    | some _=>rw [hg] at h1;cases h1
  . have:=QM.1 h2 e (by simpa using he)
    rw [hb] at this;simpa [ZP] using this
 have hnod:((A7 ops.toList).map (·.1)).Nodup:=by
  have:(A7 ops.toList).map (·.1)=List.range ops.toList.length:=by
   apply JD;intro j;simp only [A7,XJ,QK,YZ];by_cases hj:j<ops.toList.length
   . simp at hj;simp [hj]
   . simp at hj;simp [hj]
  rw [this];exact Qaq
 obtain ⟨q,s',hw,hk,hrun⟩:=A5u _ _ _ _ hnod (λp hp=>(chk p hp).1) (λp hp=>(chk p hp).2.2) h;refine ⟨s',?_,hk⟩;rcases hfam w q hw with hfam | hlite
 rotate_left
 . exact B3q hT hfol hE hchk hw hlite hrun
 have hsz:(A7 ops.toList).length=ops.size:=by simp [A7]
 have at_:∀ (i:Nat) (o:Oper),ops[i]? = some o->(A7 ops.toList)[i]? = some (i,o):=λi o hi=>by
  obtain ⟨h1,h2⟩:=ZI.1 hi;simp [A7,YZ,h1,h2]
 have h0:S3 T K A q 0 (A7 ops.toList) (X.enc w)=X.enc w:=Na λp _=>by simp
 have hfull:S3 T K A q (2 ^ ops.size-1) (A7 ops.toList) (X.enc w)=s':=A87 hrun λp hp=>by
  obtain ⟨j,hj⟩:=KA hp;have:=(Cu hj).1;have hlt:=(QP.1 hj).1;rw [ZL];simp only [QO];omega
 have:=Ac6 (P:=P) hfol (K:=K) (id:=id) (ops:=ops) (S:=λL=>(S3 T K A q L (A7 ops.toList) (X.enc w)).st nt)
  (λi o hi=>(chk (i,o) (QX (at_ i o hi))).2.1) (λL i o hbig hcl hoi hbit hdep=>?_)
 . simp only [h0,hfull] at this;exact this
 . have hmem:=QX (at_ i o hoi);refine ⟨(chk (i,o) hmem).1,?_⟩
   have hLd:L ∈ Mn (A7 ops.toList) [0]:=by
    have:=Abu (L:=L) (A7 ops.toList) 0 [0] (λk p hk=>?_) (by simp [Nat.mod_one])
    . have e : L % 2 ^ (0 + (A7 ops.toList).length) = L := by
       refine KR λj=>?_;rw [KI,hsz,YH];by_cases hj:j<ops.size
       . simp [hj]
       . rw [hbig j (by omega)];simp
      rw [e] at this;exact this
    . obtain ⟨h1,h2⟩:=Cu hk
      refine ⟨by omega,(chk p (QX hk)).2.1,λhb e he hbe=>hcl p.1 p.2 hb ?_ e he hbe⟩
      rw [h1];simpa using h2
   have hrd:(i,o) ∈ rdy (A7 ops.toList) L:=by
    refine Qab.2 ⟨hmem,?_⟩;simp only [hbit,XH,XS];unfold A7s;refine QM.2 λe he=>?_
    cases hbe:Region.binds .any e with
    | false=>rfl
    | true=>simpa using hdep e (by simpa using he) hbe
   have e1:=Qal.1 hfam L hLd;have e2:=Qal.1 e1 (i,o) hrd
   obtain ⟨av,s1,b1,b2⟩:=Fx.at (i0:=i) hrun (λk p hk=>A5q hk) (i:=i) (o:=o) (by omega) (at_ i o hoi)
   simp only [b1,QQ] at e2
   have hAi:(OA.at A i).S P:=by
    unfold OA.at
    cases hl:A1 i A with
    | none=>exact ⟨(λE h=>by cases h),(λE h=>by cases h),(λE h=>by cases h)⟩
    | some a=>exact hE i a hl
   refine A1t hT e2 rfl b2 hAi ?_;unfold RV.S;split
   . rename_i E z hz;exact hAi.2.1 E (WT.bx hw hz)
   . trivial
end Go.Ev

/- DERIVED. Code, loops and functions over shapes. -/
namespace Go.Ev
open Go
variable {P:Program} {T:Ty} {α:Type}
def LO.Sound (P:Program) (K:Am) (L:LO α) (c:Code):Prop :=
 ∀ (nt:Nat) (v:L.H.den) (k:Exit->St3->Option α) (r:α),L.run v (Nm k L.outs)=some r->∃ x s',(Code.Den P K c ((L.H.enc v).st nt) x (s'.st nt) /\ ∀ c',c = .loop c'->Fs P K c' ((L.H.enc v).st nt) x (s'.st nt))/\k x s'=some r
def A6:Code->Array Oper
 | .region _ ops _=>ops
 | _=>#[]
structure D3.OK (P:Program) (T:Ty) (K:Am) (D:D3 α) (c:Code):Prop where
 ent:∀ id A,A1 id D.reg=some A->∀ i a,A1 i A.ops=some a->a.S P
 loop:∀ p ∈ Ab c,∀ L,A1 p.1 D.loop=some L->L.Sound P K p.2
 any:∀ p ∈ Au c,∀ X ∈ V7 p.1 D.any,Al T K ((A1 p.1 D.reg).getD {}).ops X p.2
def Cs:List (Nat × OA)->List (Ent ⊕ Ent3)
 | []=>[]
 | (_,a)::r=>a.alt.map .inr++match a.ent with
  | some E=>.inl E::(match a.entB with
   | some F=>.inr F::Cs r
   | none=>Cs r)
  | none=>match a.entB with
   | some E=>.inr E::Cs r
   | none=>Cs r
def Ah:List (Nat × RA)->List (Ent ⊕ Ent3)
 | []=>[]
 | (_,A)::r=>Cs A.ops++Ah r
def Bk4 (P:Program):Ent ⊕ Ent3->Prop
 | .inl E=>E.Sound P
 | .inr E=>E.Sound P
def Ao (P:Program):List (Ent ⊕ Ent3)->Prop
 | []=>True
 | .inl E::r=>E.Sound P/\Ao P r
 | .inr E::r=>E.Sound P/\Ao P r
def Abe (P:Program) (K:Am) (D:D3 α):List (Nat × Code)->Prop
 | []=>True
 | p::r=>(∀ L,A1 p.1 D.loop=some L->L.Sound P K p.2)/\Abe P K D r
theorem Ao.mem:∀ {l:List (Ent ⊕ Ent3)},Ao P l->∀ E ∈ l,Bk4 P E
 | [],_,E,h=>by cases h
 | .inl F::r,hs,E,h=>by
  rcases QU.1 h with rfl | h
  . exact hs.1
  . exact Ao.mem hs.2 E h
 | .inr F::r,hs,E,h=>by
  rcases QU.1 h with rfl | h
  . exact hs.1
  . exact Ao.mem hs.2 E h
theorem Abe.mem {K:Am} {D:D3 α}:∀ {l:List (Nat × Code)},Abe P K D l->∀ p ∈ l,∀ L,A1 p.1 D.loop=some L->L.Sound P K p.2
 | [],_,p,h=>by cases h
 | q::r,hs,p,h=>by
  rcases QU.1 h with rfl | h
  . exact hs.1
  . exact Abe.mem hs.2 p h
theorem El:∀ {l:List (Nat × OA)} {i:Nat} {a:OA},A1 i l=some a->(∀ E,a.ent=some E->Sum.inl E ∈ Cs l)/\(∀ E,a.entB=some E->Sum.inr E ∈ Cs l) /\ ∀ E,E ∈ a.alt->Sum.inr E ∈ Cs l
 | [],_,_,h=>by cases h
 | (j,b)::r,i,a,h=>by
  simp only [A1] at h
  cases hb:Nat.beq j i with
  | true =>
   rw [hb] at h;obtain rfl:=QA h
   refine ⟨λE he=>?_,λE he=>?_,λE he=>by simp only [Cs];exact QF.2 (.inl (ZM.2 ⟨E,he,rfl⟩))⟩
   . simp only [Cs,he];exact QF.2 (.inr YR)
   . simp only [Cs];refine QF.2 (.inr ?_)
     cases b.ent with
     | some F=>simp only [he];exact ZX _ YR
     | none=>simp only [he];exact YR
  | false =>
   rw [hb] at h;have:=El h
   have up:∀ x,x ∈ Cs r->x ∈ Cs ((j,b)::r):=by
    intro x hx;simp only [Cs];refine QF.2 (.inr ?_);split
    . split
      . exact ZX _ (ZX _ hx)
      . exact ZX _ hx
    . split
      . exact ZX _ hx
      . exact hx
   exact ⟨λE he=>up _ (this.1 E he),λE he=>up _ (this.2.1 E he),λE he=>up _ (this.2.2 E he)⟩
theorem Fc:∀ {l:List (Nat × RA)} {id:Nat} {A:RA} {E:Ent ⊕ Ent3},A1 id l=some A->E ∈ Cs A.ops->E ∈ Ah l
 | [],_,_,_,h,_=>by cases h
 | (j,B)::r,id,A,E,h,he=>by
  simp only [A1] at h;simp only [Ah,QF]
  cases hb:Nat.beq j id with
  | true =>
   rw [hb] at h;obtain rfl:=QA h;exact .inl he
  | false =>
   rw [hb] at h;exact .inr (Fc h he)
def Alu (f:Tm->Prop):List Tm->Prop
 | []=>True
 | X::r=>f X/\Alu f r
theorem Alu.mem {f:Tm->Prop}:∀ {l:List Tm},Alu f l->∀ X ∈ l,f X
 | [],_,X,hX=>by cases hX
 | Y::r,h,X,hX=>by
  rcases QU.1 hX with rfl | hX
  . exact h.1
  . exact Alu.mem h.2 X hX
def Alv (T:Ty) (K:Am) (D:D3 α):List (Nat × Array Oper)->Prop
 | []=>True
 | p::r=>Alu (λX=>Al T K ((A1 p.1 D.reg).getD {}).ops X p.2) (V7 p.1 D.any)/\Alv T K D r
theorem Alv.mem {K:Am} {D:D3 α}:∀ {l:List (Nat × Array Oper)},Alv T K D l->∀ p ∈ l,∀ X ∈ V7 p.1 D.any,Al T K ((A1 p.1 D.reg).getD {}).ops X p.2
 | [],_,p,hp=>by cases hp
 | q::r,h,p,hp=>by
  rcases QU.1 hp with rfl | hp
  . exact h.1.mem
  . exact Alv.mem h.2 p hp
theorem D3.OK.mk3a {K:Am} {D:D3 α} {c:Code} {ls:List (Nat × Code)} {as:List (Nat × Array Oper)} (he:Ao P (Ah D.reg)) (hl:Ab c=ls) (h:Abe P K D ls) (ha:Au c=as) (h':Alv T K D as):D3.OK P T K D c :=
 ⟨λ_ _ hA _ _ ha'=>⟨λE hE=>he.mem (.inl E) (Fc hA ((El ha').1 E hE)),λE hE=>he.mem (.inr E) (Fc hA ((El ha').2.1 E hE)),λE hE=>he.mem (.inr E) (Fc hA ((El ha').2.2 E hE))⟩,λp hp=>h.mem p (by rw [<- hl];exact hp),λp hp=>h'.mem p (by rw [<- ha];exact hp)⟩
theorem D3.OK.mk3 {K:Am} {D:D3 α} {c:Code} {ls:List (Nat × Code)} (he:Ao P (Ah D.reg)) (hl:Ab c=ls) (h:Abe P K D ls) (ha:D.any=[]:=by rfl):D3.OK P T K D c :=
 ⟨λ_ _ hA _ _ ha'=>⟨λE hE=>he.mem (.inl E) (Fc hA ((El ha').1 E hE)),λE hE=>he.mem (.inr E) (Fc hA ((El ha').2.1 E hE)),λE hE=>he.mem (.inr E) (Fc hA ((El ha').2.2 E hE))⟩,λp hp=>h.mem p (by rw [<- hl];exact hp),λp _ X hX=>by rw [ha] at hX;cases hX⟩
theorem Ad {K:Am} {i:Nat} {l:List (Nat × LO α)} {L0:LO α} {c:Code} (h:A1 i l=some L0) (hs:L0.Sound P K c):∀ L,A1 i l=some L->L.Sound P K c:=λL hL=>by
 rw [h] at hL;obtain rfl:=QA hL;exact hs
theorem Den.weakT {K:Am} {c:Code} {s:St} {s1:St3} {x:Exit} {X:Tm} {w:X.den} {nt:Nat} (h:Code.Den P K c s x (s1.st nt)) (hd:X.dec s1=some w):Code.Den P K c s x ((X.enc w).st nt) :=
 Den.weak h λ_ _ _ _ hs=>Tm.dec_ok hd hs
theorem Den.weakIn {K:Am} {c:Code} {s:St3} {s':St} {x:Exit} {X:Tm} {w:X.den} {nt:Nat} (h:Code.Den P K c ((X.enc w).st nt) x s') (hd:X.dec s=some w):Code.Den P K c (s.st nt) x s':=by
 intro Γ wd E a ro n hK hdef hs;obtain ⟨E',hs'⟩:=Tm.dec_ok hd hs;exact h Γ wd E' a ro n hK hdef hs'
theorem D3.OK.left {K:Am} {D:D3 α} {c d:Code} (h:D3.OK P T K D (.seq c d)):D3.OK P T K D c:=⟨h.ent,λp hp=>h.loop p (QF.2 (.inl hp)),λp hp=>h.any p (QF.2 (.inl hp))⟩
theorem D3.OK.right {K:Am} {D:D3 α} {c d:Code} (h:D3.OK P T K D (.seq c d)):D3.OK P T K D d:=⟨h.ent,λp hp=>h.loop p (QF.2 (.inr hp)),λp hp=>h.any p (QF.2 (.inr hp))⟩
theorem Ow (hT:Aw P T) (hfol:P.follows .mixedOrders=true) {K:Am} {D:D3 α} {nt:Nat}:∀ (c:Code) (s:St3) (k:Exit->St3->Option α) (r:α),D3.OK P T K D c->Bi P T K D c s k=some r ->
  ∃ x s',Code.Den P K c (s.st nt) x (s'.st nt)/\k x s'=some r:=by
 intro c
 induction c with
 | skip=>intro s k r _ h;exact ⟨.normal,s,Den.skip,h⟩
 | region id ops draw =>
  intro s k r hD h;simp only [Bi] at h
  have hEnt:∀ i a,A1 i ((A1 id D.reg).getD {}).ops=some a->a.S P:=λi a hi=>by
   cases hl:A1 id D.reg with
   | none=>rw [hl] at hi;cases hi
   | some A=>rw [hl] at hi;exact hD.ent id A hl i a hi
  cases hA:V7 id D.any with
  | nil =>
   rw [hA] at h;obtain ⟨s',h1,h2⟩:=B8j (id:=id) (nt:=nt) hT hfol hEnt h;exact ⟨.normal,s',h1,h2⟩
  | cons X0 r0 =>
   rw [hA] at h
   cases draw with
   | false=>cases h
   | true =>
    simp only [cond] at h
    have key:∀ l:List Tm,(∀ X ∈ l,Al T K ((A1 id D.reg).getD {}).ops X ops)->Aew s (λX w=>Ht T K ops.toList ((A1 id D.reg).getD {}).ops (A7 ops.toList) (X.enc w) (k .normal)) l=some r->∃ x s',Code.Den P K (.region id ops true) (s.st nt) x (s'.st nt)/\k x s'=some r:=by
     intro l
     induction l with
     | nil=>intro _ h;cases h
     | cons X l ih =>
      intro hl h;simp only [Aew] at h;split at h
      . rename_i w hw
        obtain ⟨s',h1,h2⟩:=Bdv (id:=id) (nt:=nt) hT hfol hEnt (hl X (by simp)) h
        exact ⟨.normal,s',Den.weakIn h1 hw,h2⟩
      . exact ih (λY hY=>hl Y (by simp [hY])) h
    exact key _ (λX hX=>hD.any (id,ops) (by simp [Au]) X (by rw [hA];exact hX)) h
 | seq c d ihc ihd =>
  intro s k r hD h;simp only [Bi] at h;split at h
  . obtain ⟨x,s1,h1,h2⟩:=ihc _ _ _ hD.left h
    cases x with
    | normal =>
     obtain ⟨y,s2,h3,h4⟩:=ihd _ _ _ hD.right h2;exact ⟨y,s2,Den.seq h1 h3,h4⟩
    | _=>exact ⟨_,s1,Den.seqX (by simp) h1,h2⟩
  . rename_i X hX;obtain ⟨x,s1,h1,h2⟩:=ihc _ _ _ hD.left h
    cases x with
    | normal =>
     simp only at h2;split at h2
     . rename_i w hw;obtain ⟨y,s2,h3,h4⟩:=ihd _ _ _ hD.right h2;exact ⟨y,s2,Den.seq (Den.weakT h1 hw) h3,h4⟩
     . cases h2
    | _=>exact ⟨_,s1,Den.seqX (by simp) h1,h2⟩
 | cond c a b iha ihb =>
  intro s k r hD h
  cases c with
  | tmp t =>
   simp only [Bi] at h;split at h
   . rename_i y hl;have hl':=Abp (nt:=nt) hl
     cases y with
     | true =>
      simp only [cond] at h;obtain ⟨x,s',h1,h2⟩:=iha _ _ _ (D3.OK.left (d:=b) ⟨hD.ent,hD.loop,hD.any⟩) h;rw [Jp hl] at h1;exact ⟨x,s',Den.cond (b:=true) rfl hl' h1,h2⟩
     | false =>
      simp only [cond] at h;obtain ⟨x,s',h1,h2⟩:=ihb _ _ _ (D3.OK.right (c:=a) ⟨hD.ent,hD.loop,hD.any⟩) h;rw [Jp hl] at h1;exact ⟨x,s',Den.cond (b:=false) rfl hl' h1,h2⟩
   . cases h
  | const=>simp [Bi] at h
  | global=>simp [Bi] at h
  | func=>simp [Bi] at h
 | block id c ih =>
  intro s k r hD h;simp only [Bi] at h;obtain ⟨x,s',h1,h2⟩:=ih _ _ _ ⟨hD.ent,hD.loop,hD.any⟩ h
  cases x with
  | exit j =>
   simp only at h2
   cases hb:Nat.beq j id with
   | true =>
    rw [hb] at h2;obtain rfl:=QC hb;exact ⟨.normal,s',Den.blockX h1,h2⟩
   | false =>
    rw [hb] at h2
    exact ⟨.exit j,s',Den.block h1 (by intro e;injection e with e;subst e;simp at hb),h2⟩
  | _=>exact ⟨_,s',Den.block h1 (by simp),h2⟩
 | loop c ih =>
  intro s k r hD h;simp only [Bi] at h;split at h
  . rename_i L hL;split at h
    . rename_i v hv;obtain ⟨x,s',⟨h1,_⟩,h2⟩:=hD.loop _ (QS.2 rfl) L hL nt v k r h;exact ⟨x,s',Den.weakIn h1 hv,h2⟩
    . cases hp:(Ab c).isEmpty with
      | false=>rw [hp] at h;cases h
      | true =>
        rw [hp] at h;simp only [cond] at h
        have hDc:D3.OK P T K D c:=⟨hD.ent,λp hm=>(by rw [YK.1 hp] at hm;cases hm),λp hm=>hD.any p hm⟩
        obtain ⟨x,s1,h1,h2⟩:=ih _ _ _ hDc h
        cases x with
        | normal =>
         simp only at h2;split at h2
         . rename_i v hv;obtain ⟨y,s',⟨_,h3⟩,h4⟩:=hD.loop _ (QS.2 rfl) L hL nt v k r h2;exact ⟨y,s',Den.loop (.round (Den.weakT h1 hv) (h3 c rfl)),h4⟩
         . cases h2
        | _=>exact ⟨_,s1,Den.loop (.last (by simp) h1),h2⟩
  . cases h
 | rangeFunc f ps a b _ _ =>
  intro s k r hD h;simp only [Bi] at h;split at h
  . rename_i L hL;split at h
    . rename_i v hv;obtain ⟨x,s',⟨h1,_⟩,h2⟩:=hD.loop _ (QS.2 rfl) L hL nt v k r h;exact ⟨x,s',Den.weakIn h1 hv,h2⟩
    . cases h
  . cases h
 | exit id=>intro s k r _ h;exact ⟨.exit id,s,Den.exit,h⟩
 | ret=>intro s k r _ h;exact ⟨.ret,s,Den.ret,h⟩
 | scope c _=>intro s k r _ h;simp [Bi] at h
 | label l=>intro s k r _ h;simp [Bi] at h
 | goto l=>intro s k r _ h;simp [Bi] at h
 | refuse w=>intro s k r _ h;simp [Bi] at h
theorem Sl {k:Exit->St3->Option α} {y:Exit} {s:St3} {r:α}:∀ {l:List (Exit × Tm)},Ma l (Nm k l) y s=some r->∃ (X:Tm) (w:X.den),X.dec s=some w/\k y (X.enc w)=some r
 | [],h=>by cases h
 | (x,X)::l,h=>by
  simp only [Ma] at h
  cases hb:Exit.eqb x y with
  | true =>
   rw [hb] at h;obtain rfl:=Exit.eqb_eq hb;simp only [cond] at h;split at h
   . rename_i w hw;exact ⟨X,w,hw,h⟩
   . cases h
  | false =>
   rw [hb] at h;exact Sl h
theorem B8o (hT:Aw P T) (hfol:P.follows .mixedOrders=true) {K:Am} {D:D3 α} {c:Code} {H:Tm} {outs:List (Exit × Tm)} (B:H.den->(H.den->Option α)->KS α outs->Option α) (hD:D3.OK P T K D c)
  (hB:∀ v f ks,Bi P T K D c (H.enc v) (A80 H outs f ks)=B v f ks) (n:Nat):(⟨H,outs,A5 B n⟩:LO α).Sound P K (.loop c):=by
 intro nt v k r h
 have key:∀ (n:Nat) (v:H.den),A5 B n v (Nm k outs)=some r->∃ x s',Fs P K c ((H.enc v).st nt) x (s'.st nt)/\k x s'=some r:=by
  intro n
  induction n with
  | zero=>intro v h;cases h
  | succ n ih =>
   intro v h;simp only [A5] at h;rw [<- hB] at h;obtain ⟨x,s1,h1,h2⟩:=Ow hT hfol (nt:=nt) _ _ _ _ hD h
   have out:∀ x,x ≠ .normal->Code.Den P K c ((H.enc v).st nt) x (s1.st nt)->Ma outs (Nm k outs) x s1=some r->∃ x s',Fs P K c ((H.enc v).st nt) x (s'.st nt)/\k x s'=some r:=by
    intro x hx hd hp;obtain ⟨X,w,hw,hk⟩:=Sl hp;exact ⟨x,X.enc w,.last hx (Den.weakT hd hw),hk⟩
   cases x with
   | normal =>
    simp only [A80] at h2;split at h2
    . rename_i v' hv;obtain ⟨y,s2,h3,h4⟩:=ih v' h2;exact ⟨y,s2,.round (Den.weakT h1 hv) h3,h4⟩
    . cases h2
   | _=>exact out _ (by simp) h1 h2
 obtain ⟨x,s',h1,h2⟩:=key n v h
 exact ⟨x,s',⟨Den.loop h1,λc' e=>by cases e;exact h1⟩,h2⟩
theorem A1u {s:St3} {nt:Nat} {rv:ResultVar} {v:SV} (h:A8k T s rv=some v) (hs:v.s (A3 s.boxes) = .v (v.v (A3 s.boxes))):∃ obs,Nf T (s.st nt) rv=some (v.v (A3 s.boxes),obs) /\ ∀ p ∈ obs,p:=by
 unfold A8k at h;split at h
 . rename_i t
   refine ⟨[],?_,by simp⟩
   simp only [Nf,St3.st,Ae,h,QQ,hs]
 . rename_i a ty;split at h
   . rename_i hh row col ha;split at h
     . rename_i e hf fz cs hl;split at h
       . rename_i r hr;obtain rfl:=QA h;have hv:(s.st nt).val (.tmp a) = .v (.one (.hp hh row col)):=Bf ha rfl;unfold Ys at hr;split at hr
         . cases hr
         . rename_i ti hti;simp only [hl] at hr
           cases hb:(Nat.beq row 0&&Nat.ble (col+ti.size) cs.length&&cs.all SV.cellB) with
           | false=>rw [hb] at hr;cases hr
           | true =>
            rw [hb] at hr;simp only [QE] at hb;obtain rfl:=QC hb.1.1;simp only [cond,QB] at hr;obtain ⟨z,hz,rfl⟩:=hr;obtain ⟨h1,h2⟩:=H4 (L:=A3 s.boxes) hz (V8 _ hb.2);rw [KL] at h1
            have hbx:(s.st nt).box hh=some ((B3.var e hf fz cs).box (A3 s.boxes)):=by
             show A1 hh (Aj (B3.box (A3 s.boxes)) s.boxes)=_;rw [Br,hl];rfl
            refine ⟨[],?_,by simp⟩
            simp only [Nf,hv,Fk,hti,hbx,B3.box,ZB,hb.1.2,XH,XP,ZG,cond,h1,YC]
       . cases h
     . cases h
   . cases h
theorem Ana {s:St3} {nt:Nat} {rv:ResultVar} {v:SV} {t:Sh} {q} (h:A8k T s rv=some v) (hc:Yd s.boxes t v=some (true,q)):∃ obs,Nf T (s.st nt) rv=some (v.v (A3 s.boxes),obs) /\ ∀ p ∈ obs,p:=by
 obtain ⟨x,ks⟩:=q;exact A1u h (Px hc rfl).1
theorem B8m {s:St3} {nt:Nat} {t:Sh} {rv:ResultVar} {g:Bool} {x:t.den} {ks:List Nat} (h:Wi T s rv t=some (g,x,ks)) (hg:g=true) :
  ∃ obs,Ir T (s.st nt) rv (some (t.v x))=some (t.v x,obs,ks)/\(∀ p ∈ obs,p) /\ ∀ k ∈ ks,k<1000/\(A1 k s.boxes).isSome=true:=by
 subst hg;unfold Wi at h;split at h
 . rename_i v hv;obtain ⟨obs,h1,h2⟩:=Ana (nt:=nt) hv h;obtain ⟨_,⟨ob,h3,h4⟩,h5⟩:=Px h rfl;have h3':Ja (s.st nt).box (v.v (A3 s.boxes)) (t.v x)=some (ob,ks):=h3;refine ⟨obs++ob,?_,λp hp=>?_,h5⟩
   . simp only [Ir,h1,h3']
   . rcases QF.1 hp with hp | hp
     . exact h2 p hp
     . exact h4 p hp
 . cases h
theorem B2w {s:St3} {nt:Nat}:∀ {ts:List Sh} {rvs:List ResultVar} {x:HL ts} {g:Bool},Iq T s ts rvs=some (g,x)->g=true ->
  ∃ obs ks,Dz T (s.st nt) rvs ((B4 ts x).map some)=some (B4 ts x,obs,ks)/\(∀ p ∈ obs,p) /\ ∀ k ∈ ks,k<1000/\(A1 k s.boxes).isSome=true:=by
 have one:∀ {t:Sh} {rv:ResultVar} {g:Bool} {x:t.den} {ks:List Nat},Wi T s rv t=some (g,x,ks)->g=true ->
   ∃ obs,Ir T (s.st nt) rv (some (t.v x))=some (t.v x,obs,ks)/\(∀ p ∈ obs,p) /\ ∀ k ∈ ks,k<1000/\(A1 k s.boxes).isSome=true:=by
  intro t rv g x ks h hg;subst hg;unfold Wi at h;split at h
  . rename_i v hv;obtain ⟨obs,h1,h2⟩:=Ana (nt:=nt) hv h;obtain ⟨_,⟨ob,h3,h4⟩,h5⟩:=Px h rfl;have h3':Ja (s.st nt).box (v.v (A3 s.boxes)) (t.v x)=some (ob,ks):=h3;refine ⟨obs++ob,?_,λp hp=>?_,h5⟩
    . simp only [Ir,h1,h3']
    . rcases QF.1 hp with hp | hp
      . exact h2 p hp
      . exact h4 p hp
  . cases h
 intro ts
 induction ts with
 | nil =>
  intro rvs x g h hg
  cases rvs with
  | nil=>exact ⟨[],[],rfl,by simp,by simp⟩
  | cons=>simp [Iq] at h
 | cons t ts ih =>
  intro rvs x g h hg
  cases ts with
  | nil =>
   cases rvs with
   | nil=>simp [Iq] at h
   | cons rv rvs =>
    cases rvs with
    | nil =>
     simp only [Iq] at h;split at h
     . rename_i g1 y ks h1;simp only [QD,QI] at h;obtain ⟨rfl,rfl⟩:=h;obtain ⟨obs,o1,o2,o3⟩:=one h1 hg
       refine ⟨obs++[],ks++[],?_,by simpa using o2,by simpa using o3⟩
       simp only [B4,QW,YL,Dz,Qbb,o1]
     . cases h
    | cons=>simp [Iq] at h
  | cons u r =>
   cases rvs with
   | nil=>simp [Iq] at h
   | cons rv rvs =>
    simp only [Iq] at h;split at h
    . rename_i g1 y ks g2 ys h1 h2;simp only [QD,QI] at h;obtain ⟨rfl,rfl⟩:=h;simp only [QE] at hg;obtain ⟨obs,o1,o2,o3⟩:=one h1 hg.1;obtain ⟨obs',ks',p1,p2,p3⟩:=ih h2 hg.2;refine ⟨obs++obs',ks++ks',?_,λp hp=>?_,λk hk=>?_⟩
      . simp only [B4,QW,Dz,Qbb,List.tail_cons,o1];have:Dz T (s.st nt) rvs ((B4 (u::r) ys).map some)=_:=p1;rw [this]
      . rcases QF.1 hp with hp | hp
        . exact o2 p hp
        . exact p2 p hp
      . rcases QF.1 hk with hk | hk
        . exact o3 k hk
        . exact p3 k hk
    . cases h
theorem Wh:∀ (vs:List SV) (L:Nat->Nat) (i:Nat),(∀ v ∈ vs,v.s L = .v (v.v L))->Aj (SV.s L) (F7 i vs)=params i (vs.map (SV.v L))
 | [],_,_,_=>rfl
 | v::r,L,i,h=>by
  have ih:=Wh r L (i+1) λx hx=>h x (by simp [hx])
  simp only [F7,Aj,QW,params] at ih ⊢
  rw [h v (by simp),ih]
theorem Auj {L:Nat->Nat}:∀ (ts:List Sh) (x:HL ts),∀ v ∈ Er ts x,v.s L = .v (v.v L)
 | [],_,v,h=>by cases h
 | [t],x,v,h=>by
  simp only [Er,QS] at h;subst h;rw [(Il t x).2,(Il t x).1]
 | t::u::r,x,v,h=>by
  simp only [Er,QU] at h;rcases h with rfl | h
  . rw [(Il t x.1).2,(Il t x.1).1]
  . exact Auj (u::r) x.2 v (by simpa [Er] using h)
theorem B1m (ts:List Sh) (x:HL ts) (nt:Nat):(Ya ts x).st nt={ slots:=params 0 (B4 ts x),boxes:=[],nt:=nt }:=by
 simp only [Ya,St3.st];rw [Wh _ _ _ (Auj ts x),A1o];rfl
theorem Big (hT:Aw P T) (hfol:P.follows .mixedOrders=true) {f:Nat} {fn:Func} {c:Code} {K:Am} {ts rs:List Sh} {m:HL ts->Option (HL rs)} (D:D3 (HL rs))
  (hf : P.funcs[f]? = some fn) (hname : (fn.name == "runtime.NumGoroutine") = false) (hb : fn.body = some c) (hN : fn.ntmps = K.N) (hmv : K.mv = []) (hargs : ts.length <= K.N) (hD : D3.OK P T K D c)
  (h:∀ x,Bi P T K D c (Ya ts x) (B3o T rs fn.results.toList)=m x):(⟨f,ts,rs,m⟩:Ent).Sound P:=by
 intro nt x r hm;have hm:m x=some r:=hm;rw [<- h] at hm;obtain ⟨e,s',h1,h2⟩:=Ow hT hfol (nt:=nt) _ _ _ _ hD hm;rw [B1m] at h1
 have key:∀ e,e = .normal \/ e = .ret->Code.Den P K c { slots:=params 0 (B4 ts x),boxes:=[],nt:=nt } e (s'.st nt)->(match Iq T s' rs fn.results.toList with | some (g,y)=>bif g then some y else none | none=>none)=some r->Jk P f nt [] [] (B4 ts x) (Jr rs r) nt []:=by
  intro e he hd h2;split at h2
  . rename_i g y hy
    cases g with
    | false=>cases h2
    | true =>
     obtain rfl:=QA h2;obtain ⟨obs,ks,o1,o2,o3⟩:=B2w (nt:=nt) hy rfl
     exact Aw5 hT hf hname hb hN hmv (by rw [Abg];exact hargs) he hd o1 o2 (V1 o3) (A1n rs y)
  . cases h2
 cases e with
 | normal=>exact key _ (.inl rfl) h1 h2
 | ret=>exact key _ (.inr rfl) h1 h2
 | _=>cases h2
end Go.Ev

/- DERIVED. Functions that are handed boxes or hand out boxes, over shapes. -/
namespace Go.Ev
open Go
variable {P:Program} {T:Ty} {α:Type}
def K0 (T:Ty) (s:St3):List PK->List ResultVar->Option (Bool × List Nat)
 | [],[]=>some (true,[])
 | .im t::r,rv::rvs=>match Wi T s rv t,K0 T s r rvs with
  | some (g,_,ks),some (g',ks')=>some (g&&g',ks++ks')
  | _,_=>none
 | _::r,_::rvs=>K0 T s r rvs
 | _,_=>none
def Rz (bs:List (Nat × B3)) (k:Nat):(c:CK)->SV->Option (c.den × List (Nat × Nat))
 | .im t,v=>bif t.one then (v.as false t).map λx=>(x,[]) else none
 | .own e t,.hw h=>match A1 h bs with
  | some (.arr e' sh false xs)=>bif Nat.beq e e' then ((Sh.sl sh).to (.sl t) xs).map λx=>(x,[(k,h)]) else none
  | _=>none
 | .ptr e t,.hp h 0 0=>match A1 h bs with
  | some (.var e' true false cs)=>bif Nat.beq e e'&&cs.all SV.isD then (t.all false cs).map λx=>(x,[(k,h)]) else none
  | _=>none
 | .back j,.hw h=>bif Nat.beq h j then some ((),[]) else none
 | .emp t,v=>match v.as false (.sl t) with
  | some []=>some ((),[])
  | _=>none
 | .tree e t,.hw h=>match A1 h bs with
  | some (.tree e' sh false xs)=>bif Nat.beq e e' then ((Sh.sl sh).to (.sl t) xs).map λx=>(x,[(k,h)]) else none
  | _=>none
 | _,_=>none
def G9 (bs:List (Nat × B3)) (k:Nat):(cs:List CK)->List SV->Option (DC cs × List (Nat × Nat))
 | [],[]=>some ((),[])
 | [c],[v]=>Rz bs k c v
 | c::d::r,v::vs=>match Rz bs k c v,G9 bs (k+1) (d::r) vs with
  | some (x,q),some (y,q')=>some ((x,y),q++q')
  | _,_=>none
 | _,_=>none
def A8i (T:Ty) (s:St3) (fbs:List (Nat × B3)) (k:Nat):(p:PK)->ResultVar->Option (p.den × List (Nat × Nat))
 | .im t,rv=>(Wi T s rv t).map λq=>(q.2.1,[])
 | .one c,rv=>match A8k T s rv with
  | some v=>Rz fbs k c v
  | none=>none
 | .mix cs,rv=>match A8k T s rv with
  | some (.agg vs)=>G9 fbs k cs vs
  | _=>none
def P9 (T:Ty) (s:St3) (fbs:List (Nat × B3)) (k:Nat):(ps:List PK)->List ResultVar->Option (HP ps × List (Nat × Nat))
 | [],[]=>some ((),[])
 | [p],[rv]=>A8i T s fbs k p rv
 | p::q::r,rv::rvs=>match A8i T s fbs k p rv,P9 T s fbs (k+p.n) (q::r) rvs with
  | some (x,l),some (y,l')=>some ((x,y),l++l')
  | _,_=>none
 | _,_=>none
def Aqu (bs:List (Nat × B3)) (k:Nat):(c:CK)->Option c.den
 | .own e t=>match A1 k bs with
  | some (.arr e' sh false xs)=>bif Nat.beq e e' then (Sh.sl sh).to (.sl t) xs else none
  | _=>none
 | .ptr e t=>match A1 k bs with
  | some (.var e' true false cs)=>bif Nat.beq e e'&&cs.all SV.isD then t.all false cs else none
  | _=>none
 | .tree e t=>match A1 k bs with
  | some (.tree e' sh false xs)=>bif Nat.beq e e' then (Sh.sl sh).to (.sl t) xs else none
  | _=>none
 | _=>none
def Aex (bs:List (Nat × B3)):(os:List (Nat × CK))->Option (DO os)
 | []=>some ()
 | [p]=>Aqu bs p.1 p.2
 | p::q::r=>match Aqu bs p.1 p.2,Aex bs (q::r) with
  | some x,some y=>some (x,y)
  | _,_=>none
def Aqw {rs:List PK}:(os:List (Nat × CK))->HP rs->DO os->HR rs os
 | [],y,_=>y
 | _::_,y,z=>(y,z)
theorem B33 {rs:List PK}:∀ (os:List (Nat × CK)) (y:HP rs) (z:DO os),M9 (Aqw os y z)=y/\B72 (Aqw os y z)=z
 | [],_,_=>⟨rfl,rfl⟩
 | _::_,_,_=>⟨rfl,rfl⟩
def Ss (os:List (Nat × CK)):List (Nat × Nat):=os.map λp=>(p.1,p.1)
def Ar5 (T:Ty) (ts rs:List PK) (rvs:List ResultVar) (s:St3):Option (Bool × HR rs (Ap 1000 ts)) :=
 match K0 T s rs rvs with
 | some (g,ks)=>match P9 T s (Bm s.boxes ks) 0 rs rvs,Aex (Bm s.boxes ks) (Ap 1000 ts) with
  | some (y,q),some z=>bif Ex (q++Ss (Ap 1000 ts))&&C2 (D5 0 rs y++bxO (Ap 1000 ts) z) (q++Ss (Ap 1000 ts))&&(q.all (λp=>Nat.blt p.2 1000)&&(Ap 1000 ts).all (λp=>Nat.blt p.1 2000))&&(rs.flatMap PK.backs).all (λj=>(A1 j (D5 0 rs y)).isNone&&(Ap 1000 ts).any λp=>Nat.beq p.1 j) then
    some (g,Aqw (Ap 1000 ts) y z) else none
  | _,_=>none
 | none=>none
def A8s (T:Ty) (ts:List PK) (rvs:List ResultVar) (s:St3):(fs:List (List PK))->Option (HF (Ap 1000 ts) fs)
 | []=>none
 | [rs]=>match Ar5 T ts rs rvs s with
  | some (g,y)=>bif g then some y else none
  | none=>none
 | rs::r::q=>match Ar5 T ts rs rvs s with
  | some (g,y)=>bif g then some (.inl y) else none
  | none=>match A8s T ts rvs s (r::q) with
   | some z=>some (.inr z)
   | none=>none
def B3n (T:Ty) (ts:List PK) (fs:List (List PK)) (rvs:List ResultVar) (x:Exit) (s:St3):Option (HF (Ap 1000 ts) fs) :=
 match x with
 | .normal=>A8s T ts rvs s fs
 | .ret=>A8s T ts rvs s fs
 | _=>none
section
variable {bs:List (Nat × B3)} {ρ L0 L':Nat->Nat} {p:Nat->Bool}
theorem Ux {k:Nat} {c:CK} {v:SV} {x:c.den} {q:List (Nat × Nat)} (h:Rz bs k c v=some (x,q)) (hL0:A3 bs=L0)
  (hq:∀ r ∈ q,ρ r.2=r.1/\p r.2=true) (hbk:∀ j ∈ c.backs,ρ j=j/\p j=true/\L' j=L0 j) (hL:∀ k' b,(k',b) ∈ c.bx k x->L' k'=b.len) :
  v.cellB=true/\(v.c L0).ren ρ=(c.sv k x).c L'/\(v.c L0).okH p=true/\(c.sv k x).cellB=true/\Gg bs (c.bx k x) q:=by
 unfold Rz at h;split at h
 . rename_i t
   cases ht:t.one with
   | false=>rw [ht] at h;cases h
   | true =>
    rw [ht] at h;simp only [cond,QB,QI] at h;obtain ⟨y,hy,rfl,rfl⟩:=h;obtain rfl:=A5f hy
    exact ⟨ht,rfl,rfl,ht,λk b hb=>by cases hb⟩
 . rename_i e t hh;split at h
   . rename_i e' sh xs hl
     cases he:Nat.beq e e' with
     | false=>rw [he] at h;cases h
     | true =>
      rw [he] at h;simp only [cond,QB,QI] at h;obtain ⟨y,hy,rfl,rfl⟩:=h;obtain ⟨rfl,rfl⟩:=Dy hy;obtain rfl:=QC he
      have hle:L0 hh=xs.length:=by rw [<- hL0];simp [A3,hl,B3.len]
      have hk:L' k=xs.length:=hL k (.arr e sh false xs) (by simp [CK.bx])
      obtain ⟨r1,r2⟩:=hq (k,hh) (by simp)
      refine ⟨rfl,?_,r2,rfl,λk' b hb=>?_⟩
      . simp only [SV.c,C.ren,CK.sv,hle,hk];rw [show ρ hh=k from r1]
      . simp only [CK.bx,QS,QI] at hb;obtain ⟨rfl,rfl⟩:=hb
        exact ⟨hh,_,by simp,hl,rfl,λ_ _=>rfl,λ_=>⟨rfl,rfl⟩⟩
   . cases h
 . rename_i e t hh;split at h
   . rename_i e' cs hl
     cases he:(Nat.beq e e'&&cs.all SV.isD) with
     | false=>rw [he] at h;cases h
     | true =>
      rw [he] at h;simp only [cond,QB,QI] at h;obtain ⟨y,hy,rfl,rfl⟩:=h;simp only [QE] at he;obtain rfl:=QC he.1;obtain ⟨a1,_,_,a4⟩:=Cl hy
      obtain ⟨r1,r2⟩:=hq (k,hh) (by simp)
      refine ⟨rfl,?_,r2,rfl,λk' b hb=>?_⟩
      . simp only [SV.c,C.ren,CK.sv];rw [show ρ hh=k from r1]
      . simp only [CK.bx,QS,QI] at hb;obtain ⟨rfl,rfl⟩:=hb
        refine ⟨hh,_,by simp,hl,rfl,λL1 L2=>?_,λ_=>⟨rfl,rfl⟩⟩
        simp only [B3.box,a1,J7,Ab0,a4]
   . cases h
 . rename_i j hh
   cases he:Nat.beq hh j with
   | false=>rw [he] at h;cases h
   | true =>
    rw [he] at h;simp only [cond,QD,QI] at h;obtain ⟨_,rfl⟩:=h;obtain rfl:=QC he
    obtain ⟨b1,b2,b3⟩:=hbk hh (by simp [CK.backs])
    refine ⟨rfl,?_,b2,rfl,λk b hb=>by cases hb⟩
    simp only [SV.c,C.ren,CK.sv,b1,b3]
 . rename_i t;split at h
   . rename_i ha
     cases h;obtain rfl:=A5f ha
     exact ⟨rfl,rfl,rfl,rfl,λk b hb=>by cases hb⟩
   . cases h
 . rename_i e t hh;split at h
   . rename_i e' sh xs hl
     cases he:Nat.beq e e' with
     | false=>rw [he] at h;cases h
     | true =>
      rw [he] at h;simp only [cond,QB,QI] at h;obtain ⟨y,hy,rfl,rfl⟩:=h;obtain ⟨rfl,rfl⟩:=Dy hy;obtain rfl:=QC he
      have hle:L0 hh=xs.length:=by rw [<- hL0];simp [A3,hl,B3.len]
      have hk:L' k=xs.length:=hL k (.tree e sh false xs) (by simp [CK.bx])
      obtain ⟨r1,r2⟩:=hq (k,hh) (by simp)
      refine ⟨rfl,?_,r2,rfl,λk' b hb=>?_⟩
      . simp only [SV.c,C.ren,CK.sv,hle,hk];rw [show ρ hh=k from r1]
      . simp only [CK.bx,QS,QI] at hb;obtain ⟨rfl,rfl⟩:=hb
        exact ⟨hh,_,by simp,hl,rfl,λ_ _=>rfl,λ_=>⟨rfl,rfl⟩⟩
   . cases h
 . cases h
theorem A1f:∀ {cs:List CK} {k:Nat} {vs:List SV} {x:DC cs} {q:List (Nat × Nat)},G9 bs k cs vs=some (x,q)->A3 bs=L0 ->
  (∀ r ∈ q,ρ r.2=r.1/\p r.2=true)->(∀ j ∈ cs.flatMap CK.backs,ρ j=j/\p j=true/\L' j=L0 j)->(∀ k' b,(k',b) ∈ Lx k cs x->L' k'=b.len) ->
  (vs.map (SV.c L0)).map (C.ren ρ)=(Vw k cs x).map (SV.c L')/\(vs.map (SV.c L0)).all (C.okH p)=true/\Gg bs (Lx k cs x) q
 | [],k,[],x,q,h,_,_,_,_=>⟨rfl,rfl,λk b hb=>by cases hb⟩
 | [],k,_::_,_,_,h,_,_,_,_=>by simp [G9] at h
 | [c],k,[],_,_,h,_,_,_,_=>by simp [G9] at h
 | [c],k,[v],x,q,h,h0,hq,hbk,hL=>by
  obtain ⟨_,h1,h2,_,h3⟩:=Ux (x:=x) h h0 hq (by simpa using hbk) hL
  exact ⟨by simp only [QW,YL,Vw,h1],by simp only [QW,YL,XY,Qaz,h2,ZG],h3⟩
 | [c],k,v::w::r,_,_,h,_,_,_,_=>by simp [G9] at h
 | c::d::r,k,[],_,_,h,_,_,_,_=>by simp [G9] at h
 | c::d::r,k,v::vs,x,q,h,h0,hq,hbk,hL=>by
  simp only [G9] at h;split at h
  . rename_i x1 q1 y1 q2 h1 h2;simp only [QD,QI] at h;obtain ⟨rfl,rfl⟩:=h
    obtain ⟨_,a1,a2,_,a3⟩:=Ux h1 h0 (λr hr=>hq r (QF.2 (.inl hr))) (λj hj=>hbk j (by simp only [Qam,QF];exact .inl hj)) (λk' b hb=>hL k' b (by simp only [Lx];exact QF.2 (.inl hb)))
    obtain ⟨b1,b2,b3⟩:=A1f h2 h0 (λr hr=>hq r (QF.2 (.inr hr))) (λj hj=>hbk j (by rw [Qam];exact QF.2 (.inr hj))) (λk' b hb=>hL k' b (by simp only [Lx];exact QF.2 (.inr hb)))
    refine ⟨?_,?_,a3.app b3⟩
    . simp only [QW,Vw,a1];rw [b1]
    . simp only [QW,XY,a2,b2,ZG]
  . cases h
theorem An9 {s:St3} {nt:Nat} {k:Nat} {pk:PK} {rv:ResultVar} {x:pk.den} {q:List (Nat × Nat)} (h:A8i T s bs k pk rv=some (x,q)) (hL0:A3 bs=A3 s.boxes)
  (hq:∀ r ∈ q,ρ r.2=r.1/\p r.2=true) (hbk:∀ j ∈ pk.backs,ρ j=j/\p j=true/\L' j=A3 s.boxes j) (hL:∀ k' b,(k',b) ∈ pk.bx k x->L' k'=b.len)
  {g:Bool} {ks:List Nat} (hk:K0 T s [pk] [rv]=some (g,ks)) (hg:g=true) :
  ∃ d xv obs,Ir T (s.st nt) rv d=some (xv,obs,ks)/\(∀ p ∈ obs,p)/\xv.ren ρ=(pk.sv k x).v L'/\xv.okH p=true/\Gg bs (pk.bx k x) q/\(pk.sv k x).s L' = .v ((pk.sv k x).v L') /\ ∀ j ∈ ks,j<1000/\(A1 j s.boxes).isSome=true:=by
 cases pk with
 | im t =>
  simp only [A8i,QB,QI] at h;obtain ⟨⟨g1,y,ks1⟩,h1,rfl,rfl⟩:=h;simp only [K0,h1,QD,QI,XP,XC] at hk;obtain ⟨rfl,rfl⟩:=hk;obtain ⟨obs,a1,a2,a3⟩:=B8m (nt:=nt) h1 hg
  refine ⟨_,_,obs,a1,a2,?_,?_,(λk b hb=>by cases hb),?_,a3⟩
  . rw [show (PK.im t).sv k y=t.sv y from rfl,(Il t y).1];unfold Sh.v
    cases t.one with
    | true=>rfl
    | false =>
     simp only [cond,V.ren,XJ];rfl
  . unfold Sh.v
    cases t.one with
    | true=>rfl
    | false=>simp [V.okH,C.okH]
  . exact (Il t y).2.trans (by rw [show (PK.im t).sv k y=t.sv y from rfl,(Il t y).1])
 | one c =>
  simp only [K0,QD,QI] at hk;obtain ⟨rfl,rfl⟩:=hk;simp only [A8i] at h;split at h
  . rename_i v hv;obtain ⟨a1,a2,a3,a4,a5⟩:=Ux h hL0 hq hbk hL
    obtain ⟨obs,b1,b2⟩:=A1u (nt:=nt) hv (by rw [(Fq a1).1,(Fq a1).2])
    refine ⟨none,v.v (A3 s.boxes),obs,by simp only [Ir,b1],b2,?_,?_,a5,?_,by simp⟩
    . rw [(Fq a1).2];show V.one _=(c.sv k x).v L';rw [(Fq a4).2,a2]
    . rw [(Fq a1).2];exact a3
    . show (c.sv k x).s L' = .v ((c.sv k x).v L');rw [(Fq a4).1,(Fq a4).2]
  . cases h
 | mix cs =>
  simp only [K0,QD,QI] at hk;obtain ⟨rfl,rfl⟩:=hk;simp only [A8i] at h;split at h
  . rename_i vs hv;obtain ⟨a1,a2,a3⟩:=A1f h hL0 hq hbk hL;obtain ⟨obs,b1,b2⟩:=A1u (nt:=nt) hv rfl
    refine ⟨none,(SV.agg vs).v (A3 s.boxes),obs,by simp only [Ir,b1],b2,?_,a2,a3,rfl,by simp⟩
    show V.agg _=V.agg _;rw [a1]
  . cases h
theorem Ag1 {s:St3} {nt:Nat}:∀ {ps:List PK} {k:Nat} {rvs:List ResultVar} {x:HP ps} {q:List (Nat × Nat)},P9 T s bs k ps rvs=some (x,q)->A3 bs=A3 s.boxes ->
  (∀ r ∈ q,ρ r.2=r.1/\p r.2=true)->(∀ j ∈ ps.flatMap PK.backs,ρ j=j/\p j=true/\L' j=A3 s.boxes j)->(∀ k' b,(k',b) ∈ D5 k ps x->L' k'=b.len) ->
  ∀ {g:Bool} {ks:List Nat},K0 T s ps rvs=some (g,ks)->g=true ->
  ∃ ds xs obs,Dz T (s.st nt) rvs ds=some (xs,obs,ks)/\(∀ p ∈ obs,p)/\xs.map (V.ren ρ)=(Bx k ps x).map (SV.v L')/\xs.all (V.okH p)=true/\Gg bs (D5 k ps x) q/\(∀ v ∈ Bx k ps x,v.s L' = .v (v.v L')) /\ ∀ j ∈ ks,j<1000/\(A1 j s.boxes).isSome=true
 | [],k,[],x,q,h,_,_,_,_,g,ks,hk,_=>by
  simp only [K0,QD,QI] at hk;obtain ⟨_,rfl⟩:=hk
  exact ⟨[],[],[],rfl,by simp,rfl,rfl,(λk b hb=>by cases hb),by simp [Bx],by simp⟩
 | [],k,_::_,_,_,h,_,_,_,_,_,_,_,_=>by simp [P9] at h
 | [pk],k,[],_,_,h,_,_,_,_,_,_,_,_=>by simp [P9] at h
 | [pk],k,[rv],x,q,h,h0,hq,hbk,hL,g,ks,hk,hg=>by
  obtain ⟨d,xv,obs,a1,a2,a3,a4,a5,a6,a7⟩:=An9 (nt:=nt) (x:=x) h h0 hq (by simpa using hbk) hL hk hg
  refine ⟨[d],[xv],obs++[],?_,by simpa using a2,?_,?_,a5,?_,a7⟩
  . simp only [Dz,Qbb,a1,XC]
  . simp only [QW,YL,Bx,a3]
  . simp [a4]
  . simpa [Bx] using a6
 | [pk],k,rv::w::r,_,_,h,_,_,_,_,_,_,_,_=>by simp [P9] at h
 | pk::p2::r,k,[],_,_,h,_,_,_,_,_,_,_,_=>by simp [P9] at h
 | pk::p2::r,k,rv::rvs,x,q,h,h0,hq,hbk,hL,g,ks,hk,hg=>by
  simp only [P9] at h;split at h
  . rename_i x1 q1 y1 q2 h1 h2;simp only [QD,QI] at h;obtain ⟨rfl,rfl⟩:=h
    obtain ⟨g1,ks1,g2,ks2,e1,e2,rfl,rfl⟩:∃ g1 ks1 g2 ks2,K0 T s [pk] [rv]=some (g1,ks1)/\K0 T s (p2::r) rvs=some (g2,ks2)/\g=(g1&&g2)/\ks=ks1++ks2:=by
     cases pk with
     | im t =>
      simp only [K0] at hk;split at hk
      . rename_i g1 a ks1 g2 ks2 i1 i2;simp only [QD,QI] at hk
        exact ⟨g1,ks1,g2,ks2,by simp [K0,i1],i2,hk.1.symm,hk.2.symm⟩
      . cases hk
     | one c=>exact ⟨true,[],g,ks,rfl,hk,by simp,rfl⟩
     | mix cs=>exact ⟨true,[],g,ks,rfl,hk,by simp,rfl⟩
    simp only [QE] at hg
    obtain ⟨d,xv,obs,a1,a2,a3,a4,a5,a6,a7⟩:=An9 (nt:=nt) h1 h0 (λr hr=>hq r (QF.2 (.inl hr))) (λj hj=>hbk j (by rw [Qam];exact QF.2 (.inl hj))) (λk' b hb=>hL k' b (by simp only [D5];exact QF.2 (.inl hb))) e1 hg.1
    obtain ⟨ds,xs,obs',b1,b2,b3,b4,b5,b6,b7⟩:=Ag1 (nt:=nt) h2 h0 (λr hr=>hq r (QF.2 (.inr hr))) (λj hj=>hbk j (by rw [Qam];exact QF.2 (.inr hj))) (λk' b hb=>hL k' b (by simp only [D5];exact QF.2 (.inr hb))) e2 hg.2
    refine ⟨d::ds,xv::xs,obs++obs',?_,λp hp=>(QF.1 hp).elim (a2 p) (b2 p),?_,?_,a5.app b5,?_,λj hj=>(QF.1 hj).elim (a7 j) (b7 j)⟩
    . simp only [Dz,Qbb,List.tail_cons,a1,b1]
    . simp only [QW,Bx,a3,b3]
    . simp only [XY,a4,b4,ZG]
    . simpa [Bx] using ⟨a6,b6⟩
  . cases h
end
end Go.Ev

/- DERIVED. THE USE for a function that is handed boxes or hands out boxes. -/
namespace Go.Ev
open Go
variable {P:Program} {T:Ty} {α:Type}
theorem Anf {bs:List (Nat × B3)} {k:Nat} {c:CK} {x:c.den} (h:Aqu bs k c=some x):Gg bs (c.bx k x) [(k,k)]:=by
 unfold Aqu at h;split at h
 . rename_i e t;split at h
   . rename_i e' sh xs hl
     cases he:Nat.beq e e' with
     | false=>rw [he] at h;cases h
     | true =>
      rw [he] at h;obtain ⟨rfl,rfl⟩:=Dy h;obtain rfl:=QC he;intro k' b hb;simp only [CK.bx,QS,QI] at hb;obtain ⟨rfl,rfl⟩:=hb
      exact ⟨_,_,by simp,hl,rfl,λ_ _=>rfl,λ_=>⟨rfl,rfl⟩⟩
   . cases h
 . rename_i e t;split at h
   . rename_i e' cs hl
     cases he:(Nat.beq e e'&&cs.all SV.isD) with
     | false=>rw [he] at h;cases h
     | true =>
      rw [he] at h;simp only [cond] at h;simp only [QE] at he;obtain rfl:=QC he.1;obtain ⟨a1,_,_,a4⟩:=Cl h;intro k' b hb;simp only [CK.bx,QS,QI] at hb;obtain ⟨rfl,rfl⟩:=hb
      refine ⟨_,_,by simp,hl,rfl,λL1 L2=>?_,λ_=>⟨rfl,rfl⟩⟩
      simp only [B3.box,a1,J7,Ab0,a4]
   . cases h
 . rename_i e t;split at h
   . rename_i e' sh xs hl
     cases he:Nat.beq e e' with
     | false=>rw [he] at h;cases h
     | true =>
      rw [he] at h;obtain ⟨rfl,rfl⟩:=Dy h;obtain rfl:=QC he;intro k' b hb;simp only [CK.bx,QS,QI] at hb;obtain ⟨rfl,rfl⟩:=hb
      exact ⟨_,_,by simp,hl,rfl,λ_ _=>rfl,λ_=>⟨rfl,rfl⟩⟩
   . cases h
 . cases h
theorem Agb {bs:List (Nat × B3)}:∀ {os:List (Nat × CK)} {z:DO os},Aex bs os=some z->Gg bs (bxO os z) (Ss os)
 | [],z,_=>λk b hb=>by cases hb
 | [p],z,h=>Anf (c:=p.2) h
 | p::q::r,z,h=>by
  simp only [Aex] at h;split at h
  . rename_i x y h1 h2;obtain rfl:=QA h;exact Gg.app (q:=[(p.1,p.1)]) (Anf h1) (Agb h2)
  . cases h
theorem B6g:∀ {cs:List CK} {k:Nat} {x:DC cs} {k':Nat} {b:B3},(k',b) ∈ Lx k cs x->∃ c,(k',c) ∈ Aqt k cs:=by
 have one:∀ {c:CK} {k:Nat} {x:c.den} {k':Nat} {b:B3},(k',b) ∈ c.bx k x->∃ d,(k',d) ∈ c.owns k:=by
  intro c k x k' b h
  cases c <;> simp [CK.bx,CK.owns] at h ⊢ <;> exact h.1
 intro cs
 induction cs with
 | nil=>intro k x k' b h;cases h
 | cons c r ih =>
  intro k x k' b h
  cases r with
  | nil =>
   obtain ⟨d,hd⟩:=one (c:=c) h;exact ⟨d,QF.2 (.inl hd)⟩
  | cons d r =>
   simp only [Lx] at h;rcases QF.1 h with h | h
   . obtain ⟨d,hd⟩:=one h;exact ⟨d,QF.2 (.inl hd)⟩
   . obtain ⟨d,hd⟩:=ih h;exact ⟨d,QF.2 (.inr hd)⟩
theorem B6f:∀ {ps:List PK} {k:Nat} {x:HP ps} {k':Nat} {b:B3},(k',b) ∈ D5 k ps x->∃ c,(k',c) ∈ Ap k ps:=by
 have one:∀ {p:PK} {k:Nat} {x:p.den} {k':Nat} {b:B3},(k',b) ∈ p.bx k x->∃ d,(k',d) ∈ p.owns k:=by
  intro p k x k' b h
  cases p with
  | im t=>cases h
  | one c=>cases c <;> simp [PK.bx,PK.owns,CK.bx,CK.owns] at h ⊢ <;> exact h.1
  | mix cs=>exact B6g (cs:=cs) h
 intro ps
 induction ps with
 | nil=>intro k x k' b h;cases h
 | cons p r ih =>
  intro k x k' b h
  cases r with
  | nil =>
   obtain ⟨d,hd⟩:=one (p:=p) h;exact ⟨d,QF.2 (.inl hd)⟩
  | cons d r =>
   simp only [D5] at h;rcases QF.1 h with h | h
   . obtain ⟨d,hd⟩:=one h;exact ⟨d,QF.2 (.inl hd)⟩
   . obtain ⟨d,hd⟩:=ih h;exact ⟨d,QF.2 (.inr hd)⟩
theorem Bd3 (L:Nat->Nat):∀ (ps:List PK) (k:Nat) (x:HP ps),∀ v ∈ Bx k ps x,v.s L = .v (v.v L):=by
 have one:∀ (p:PK) (k:Nat) (x:p.den),(p.sv k x).s L = .v ((p.sv k x).v L):=by
  intro p k x
  cases p with
  | im t=>exact (Il t x).2.trans (by rw [show (PK.im t).sv k x=t.sv x from rfl,(Il t x).1])
  | one c=>cases c <;> rfl
  | mix cs=>rfl
 intro ps
 induction ps with
 | nil=>intro k x v h;cases h
 | cons p r ih =>
  intro k x v h
  cases r with
  | nil =>
   simp only [Bx,QS] at h;subst h;exact one p k x
  | cons d r =>
   simp only [Bx,QU] at h;rcases h with rfl | h
   . exact one p k x.1
   . exact ih _ x.2 v (by simpa [Bx] using h)
theorem Bdh {L:Nat->Nat} {vs:List SV} (h:∀ v ∈ vs,v.s L = .v (v.v L)):(H7 vs).s L=Dp (vs.map (SV.v L)):=by
 match vs,h with
 | [],_=>rfl
 | [x],h=>exact h x (by simp)
 | x::y::r,_=>rfl
theorem B3b {ρ:Nat->Nat} (xs:List V):(Dp xs).ren ρ=Dp (xs.map (V.ren ρ)):=by
 match xs with
 | []=>rfl
 | [x]=>rfl
 | x::y::r=>rfl
theorem B3c {p:Nat->Bool} {xs:List V} (h:xs.all (V.okH p)=true):(Dp xs).okH p=true:=by
 match xs,h with
 | [],_=>rfl
 | [x],h=>simpa [Dp,S.okH] using h
 | x::y::r,h=>simpa [Dp,S.okH] using h
def Vd (rn:List (Nat × Nat)) (h:Nat):Nat:=match Jg rn h with
 | some k=>k
 | none=>0
theorem A15 {β:Type}:∀ {l:List (Nat × β)} {k:Nat} {b:β},(k,b) ∈ l->(A1 k l).isSome=true
 | [],_,_,h=>by cases h
 | (k1,b1)::r,k,b,h=>by
  simp only [A1]
  cases hb:Nat.beq k1 k with
  | true=>rfl
  | false =>
   rcases QU.1 h with h | h
   . obtain ⟨rfl,rfl⟩:=KH h;simp at hb
   . exact A15 h
theorem Agw (hT:Aw P T) {f:Nat} {fn:Func} {c:Code} {K:Am} {nt:Nat} {ts rs:List PK} {x:HP ts} {e:Exit} {s:St3} {Y:HR rs (Ap 1000 ts)}
  (hf : P.funcs[f]? = some fn) (hname : (fn.name == "runtime.NumGoroutine") = false) (hb : fn.body = some c) (hN : fn.ntmps = K.N) (hmv : K.mv = []) (hargs : (Bx 1000 ts x).length <= K.N)
  (he:e = .normal \/ e = .ret) (hd:Code.Den P K c ((⟨F7 0 (Bx 1000 ts x),D5 1000 ts x⟩:St3).st nt) e (s.st nt)) (h:Ar5 T ts rs fn.results.toList s=some (true,Y)) :
  Jl.Den P ⟨f,ts,rs⟩ nt x Y:=by
 unfold Ar5 at h;split at h
 case h_2=>cases h
 rename_i g ks hks;split at h
 case h_2=>cases h
 rename_i y q z hy hz
 cases hc:(Ex (q++Ss (Ap 1000 ts))&&C2 (D5 0 rs y++bxO (Ap 1000 ts) z) (q++Ss (Ap 1000 ts))&&(q.all (λp=>Nat.blt p.2 1000)&&(Ap 1000 ts).all (λp=>Nat.blt p.1 2000))&&(rs.flatMap PK.backs).all (λj=>(A1 j (D5 0 rs y)).isNone&&(Ap 1000 ts).any λp=>Nat.beq p.1 j)) with
 | false=>rw [hc] at h;cases h
 | true =>
 rw [hc] at h;simp only [cond,QD,QI] at h;obtain ⟨rfl,rfl⟩:=h;simp only [QE] at hc;obtain ⟨⟨⟨c1,c2⟩,c3,c5⟩,c4⟩:=hc;generalize hrn:q++Ss (Ap 1000 ts)=rn at *;obtain ⟨m1,m2⟩:=B33 (rs:=rs) (Ap 1000 ts) y z
 have hB:B5 ⟨f,ts,rs⟩ (Aqw (Ap 1000 ts) y z)=D5 0 rs y++bxO (Ap 1000 ts) z:=by
  unfold B5;rw [m1,m2]
 generalize hBd:D5 0 rs y++bxO (Ap 1000 ts) z=B at *
 have qrn:∀ p ∈ q,p ∈ rn:=λp hp=>by rw [<- hrn];exact QF.2 (.inl hp)
 have irn:∀ p ∈ Ss (Ap 1000 ts),p ∈ rn:=λp hp=>by rw [<- hrn];exact QF.2 (.inr hp)
 have fwdm:∀ k h,(k,h) ∈ rn->Iv rn k=h/\Vd rn h=k/\A1 k rn=some h:=λk h hm=>by
  obtain ⟨e1,e2⟩:=Nk c1 hm
  exact ⟨by unfold Iv;rw [e1],by unfold Vd;rw [e2],e1⟩
 have outS:∀ k,(A1 k (By B)).isSome=(A1 k rn).isSome:=λk=>by
  unfold By;rw [Ae,JE,F8 c2 k]
 have okP:∀ k h,(k,h) ∈ rn->((A1 (Vd rn h) (By B)).isSome&&Nat.beq (Iv rn (Vd rn h)) h)=true:=λk h hm=>by
  obtain ⟨e1,e2,e3⟩:=fwdm k h hm;rw [e2,outS k,e3,e1];simp
 have hL':∀ k b,(k,b) ∈ B->A3 B k=b.len:=λk b hb=>by
  have:=Wk c2 c1 hb;unfold A3;rw [this]
 have hlf:A3 (Bm s.boxes ks)=A3 s.boxes:=D2 ks s.boxes;have hout:=Agb hz
 have hIdm:∀ j,j ∈ rs.flatMap PK.backs->(j,j) ∈ Ss (Ap 1000 ts):=λj hj=>by
  have h4:=QM.1 c4 j hj;simp only [QE] at h4;obtain ⟨p,hp,hpj⟩:=ZZ.1 h4.2;obtain rfl:=QC hpj;exact ZM.2 ⟨p,hp,rfl⟩
 have lenB:∀ k h b,(k,b) ∈ B->(k,h) ∈ rn->∀ b',A1 h (Bm s.boxes ks)=some b'->b'.len=b.len->A3 B k=A3 s.boxes h:=λk h b hb _ b' hb' hl=>by
  rw [hL' k b hb,<- hl,<- hlf];unfold A3;rw [hb']
 have hInB:Gg (Bm s.boxes ks) (bxO (Ap 1000 ts) z) (Ss (Ap 1000 ts)):=hout
 have hbk:∀ j ∈ rs.flatMap PK.backs,Vd rn j=j/\((A1 (Vd rn j) (By B)).isSome&&Nat.beq (Iv rn (Vd rn j)) j)=true/\A3 B j=A3 s.boxes j:=λj hj=>by
  have hm:=irn _ (hIdm j hj);refine ⟨(fwdm j j hm).2.1,okP j j hm,?_⟩
  have hS:(A1 j B).isSome=true:=by rw [F8 c2 j,(fwdm j j hm).2.2];rfl
  obtain ⟨b,hb⟩:=ZF.1 hS;have hmem:=Ca hb;have hmem':=hmem;rw [<- hBd] at hmem';rcases QF.1 hmem' with hm1 | hm1
  . have h4:=QM.1 c4 j hj;simp only [QE,Option.isNone_iff_eq_none] at h4;have:=A15 hm1;rw [h4.1] at this;cases this
  . obtain ⟨h',b',i1,i2,i3,_,_⟩:=hInB j b hm1;obtain ⟨p,hp,hpe⟩:=ZM.1 i1;obtain ⟨rfl,rfl⟩:=KH hpe;exact lenB _ _ b hmem hm b' i2 i3
 obtain ⟨ds,xs,obs,a1,a2,a3,a4,a5,a6,a7⟩:=Ag1 (nt:=nt) (ρ:=Vd rn) (L':=A3 B) (p:=λh=>(A1 (Vd rn h) (By B)).isSome&&Nat.beq (Iv rn (Vd rn h)) h) hy hlf
  (λr hr=>⟨(fwdm r.1 r.2 (qrn _ hr)).2.1,okP r.1 r.2 (qrn _ hr)⟩) hbk (λk' b hb=>hL' k' b (by rw [<- hBd];exact QF.2 (.inl hb))) hks rfl
 have hIn:Gg (Bm s.boxes ks) B rn:=by rw [<- hBd,<- hrn];exact a5.app hout
 have hr:(H7 (Bx 0 rs y)).s (A3 B)=(Dp xs).ren (Vd rn):=by
  rw [Bdh a6,B3b,a3]
 have hst:(⟨F7 0 (Bx 1000 ts x),D5 1000 ts x⟩:St3).st nt={ slots:=params 0 ((Bx 1000 ts x).map (SV.v (A3 (D5 1000 ts x)))),boxes:=By (D5 1000 ts x),nt:=nt }:=by
  simp only [St3.st];rw [Wh _ _ _ (Bd3 _ ts 1000 x)];rfl
 rw [hst] at hd
 have hfin:=B3p hT (bs':=By B) hf hname hb hN hmv (by rw [ZB];exact hargs) he hd a1 a2 (V1 a7) (Iv rn) (Vd rn)
  (λk b hb=>?_) (λk k' hk hk' e=>?_) (B3c a4) (λk b hb=>?_)
 . unfold Jl.Den;rw [m1,hB,hr];exact hfin
 . unfold By at hb;rw [Ae] at hb;obtain ⟨b3,hb3,rfl⟩:=QB.1 hb;obtain ⟨h',b',i1,i2,i3,i4,i5⟩:=hIn k b3 (Ca hb3);obtain ⟨e1,_,_⟩:=fwdm k h' i1;refine ⟨?_,(i5 _).1,(i5 _).2,?_⟩
   . show A1 (Iv rn k) (B1 (Aj (B3.box (A3 s.boxes)) s.boxes) ks)=_;rw [Gk,Ae,e1,i2];exact XU some (i4 _ _)
   . rw [e1];rw [<- hrn] at i1;rcases QF.1 i1 with i1 | i1
     . exact .inl (by simpa [ZP] using QM.1 c3 _ i1)
     . obtain ⟨p,hp5,hpe⟩:=ZM.1 i1;obtain ⟨rfl,rfl⟩:=KH hpe
       exact .inr ⟨rfl,by simpa [ZP] using QM.1 c5 _ hp5⟩
 . rw [outS k] at hk;rw [outS k'] at hk';obtain ⟨h1,e1⟩:=ZF.1 hk;obtain ⟨h2,e2⟩:=ZF.1 hk';obtain ⟨f1,f2,_⟩:=fwdm k h1 (Ck e1);obtain ⟨f3,f4,_⟩:=fwdm k' h2 (Ck e2);rw [f1,f3] at e;rw [<- f2,<- f4,e]
 . unfold By at hb;rw [Ae] at hb;obtain ⟨b3,hb3,_⟩:=QB.1 hb;obtain ⟨d,hd'⟩:=B6f (Ca hb3);have hm:=irn (k,k) (ZM.2 ⟨_,hd',rfl⟩);obtain ⟨e1,_,e3⟩:=fwdm k k hm
   exact ⟨e1,by rw [outS k,e3];rfl,by simpa [ZP] using QM.1 c5 _ hd'⟩
theorem Bdu (hT:Aw P T) (hfol:P.follows .mixedOrders=true) {f:Nat} {fn:Func} {c:Code} {K:Am} {ts:List PK} {forms:List (List PK)} {m:HP ts->Option (HF (Ap 1000 ts) forms)} (D:D3 (HF (Ap 1000 ts) forms))
  (hf : P.funcs[f]? = some fn) (hname : (fn.name == "runtime.NumGoroutine") = false) (hb : fn.body = some c) (hN : fn.ntmps = K.N) (hmv : K.mv = []) (hargs : ts.length <= K.N) (hD : D3.OK P T K D c)
  (h:∀ x,Bi P T K D c ⟨F7 0 (Bx 1000 ts x),D5 1000 ts x⟩ (B3n T ts forms fn.results.toList)=m x):(⟨f,ts,forms,m⟩:Ent3).Sound P:=by
 intro nt x z hm;have hm:m x=some z:=hm;rw [<- h] at hm;obtain ⟨e,s',h1,h2⟩:=Ow hT hfol (nt:=nt) _ _ _ _ hD hm
 have hlen:(Bx 1000 ts x).length<=K.N:=by
  have:∀ (ps:List PK) (k:Nat) (x:HP ps),(Bx k ps x).length=ps.length:=by
   intro ps
   induction ps with
   | nil=>intro k x;rfl
   | cons p r ih =>
    intro k x
    cases r with
    | nil=>rfl
    | cons d r=>simp only [Bx,ZC];rw [ih];rfl
  rw [this];exact hargs
 have key:∀ (fs:List (List PK)) (z:HF (Ap 1000 ts) fs),e = .normal \/ e = .ret->A8s T ts fn.results.toList s' fs=some z->Abf (Ap 1000 ts) fs z λrs y=>Jl.Den P ⟨f,ts,rs⟩ nt x y:=by
  intro fs
  induction fs with
  | nil=>intro z _ _;trivial
  | cons rs r ih =>
   intro z he hz
   cases r with
   | nil =>
    simp only [A8s] at hz;split at hz
    . rename_i g y hy
      cases g with
      | false=>cases hz
      | true =>
       obtain rfl:=QA hz;exact Agw hT hf hname hb hN hmv hlen he h1 hy
    . cases hz
   | cons r q =>
    simp only [A8s] at hz;split at hz
    . rename_i g y hy
      cases g with
      | false=>cases hz
      | true =>
       obtain rfl:=QA hz;exact Agw hT hf hname hb hN hmv hlen he h1 hy
    . split at hz
      . rename_i w hw;obtain rfl:=QA hz;exact ih w he hw
      . cases hz
 cases e with
 | normal=>exact key forms z (.inl rfl) h2
 | ret=>exact key forms z (.inr rfl) h2
 | _=>cases h2
end Go.Ev

/- DERIVED. A range over what slices.Backward hands back, over shapes. -/
namespace Go.Ev
open Go
variable {P:Program} {T:Ty} {α:Type}
def Afd (p0 p1 i:Nat) (z:Int) (s:St3):St3:={ s with slots:=Ak p1 (.d (.int .i64) z) (Ak p0 (.d (.int .i64) (i:Int)) s.slots) }
def A0j (wr:Nat->Bool) (p0 p1:Nat) (s:St3):St3:={ s with slots:=s.slots.filter λp=>!(wr p.1 || (Nat.beq p.1 p0 || Nat.beq p.1 p1)) }
theorem Auh {p0 p1 i:Nat} {z:Int} {s:St3} {nt:Nat}:(Afd p0 p1 i z s).st nt=P4 p0 p1 i z (s.st nt):=by
 simp only [Afd,St3.st,P4,<- Dc];rfl
theorem A18 {β γ:Type} (f:β->γ) (q:Nat->Bool):∀ l:List (Nat × β),Aj f (l.filter λp=>q p.1)=(Aj f l).filter λp=>q p.1
 | []=>rfl
 | (j,y)::r=>by
  have ih:=A18 f q r;simp only [Aj] at ih;simp only [Aj,QW,YU]
  cases q j with
  | true=>simp [ih]
  | false=>simp [ih]
theorem Ald {wr:Nat->Bool} {p0 p1:Nat} {s:St3} {nt:Nat}:(A0j wr p0 p1 s).st nt=Q1 wr p0 p1 (s.st nt):=by
 simp only [A0j,St3.st,Q1]
 rw [A18 (q:=λk=>!(wr k || (Nat.beq k p0 || Nat.beq k p1)))]
def Aq4 (H:Tm) (outs:List (Exit × Tm)) (wr:Nat->Bool) (p0 p1:Nat) (f:H.den->Option α) (ks:KS α outs) (x:Exit) (s:St3):Option α :=
 match x with
 | .normal=>match H.dec (A0j wr p0 p1 s) with
  | some v=>f v
  | none=>none
 | .ret=>Ma outs ks .ret (A0j wr p0 p1 s)
 | .exit id=>Ma outs ks (.exit id) (A0j wr p0 p1 s)
 | _=>none
def Auz (P:Program) (T:Ty) (K:Am) (D:D3 α) (H:Tm) (outs:List (Exit × Tm)) (p0 p1:Nat) (asg body:Code) (i:Nat) (z:Int) (v:H.den) (f:H.den->Option α) (ks:KS α outs):Option α :=
 Bi P T K D asg (Afd p0 p1 i z (H.enc v)) λx sA=>match x with
  | .normal=>Bi P T K D body sA (Aq4 H outs (λt=>asg.wr t || body.wr t) p0 p1 f ks)
  | _=>none
def Ni {V Ks:Type} (zsOf:V->List Int) (B:Nat->Int->V->(V->Option α)->Ks->Option α) (zs:List Int):Nat->V->(V->Option α)->Ks->Option α
 | 0,v,d,_=>d v
 | i+1,v,d,ks=>B i (zs.getD i 0) v (λv'=>gd (decide (zsOf v'=zs)) (Ni zsOf B zs i v' d ks)) ks
def Nh {V Ks:Type} (zsOf:V->List Int) (B:Nat->Int->V->(V->Option α)->Ks->Option α) (Dn:V->Ks->Option α) (v:V) (ks:Ks):Option α :=
 gd (decide ((zsOf v).length<=4611686018427387904)) (Ni zsOf B (zsOf v) (zsOf v).length v (λv'=>Dn v' ks) ks)
theorem Anx {g:Bool} {x:Option α} {r:α} (h:gd g x=some r):g=true/\x=some r:=by cases g with | true=>exact ⟨rfl,h⟩ | false=>cases h
theorem Tm.dec_weak {X:Tm} {s:St3} {w:X.den} {nt:Nat} (h:X.dec s=some w):C3 (s.st nt) ((X.enc w).st nt):=λ_ _ _ _ hs=>Tm.dec_ok h hs
theorem Ag5 (hT:Aw P T) (hfol:P.follows .mixedOrders=true) {K:Am} {D:D3 α} {g p0 p1 fB:Nat} {asg body:Code} {H:Tm} {outs:List (Exit × Tm)} (zsOf:H.den->List Int)
  (B:Nat->Int->H.den->(H.den->Option α)->KS α outs->Option α) (Dn:H.den->KS α outs->Option α) (hBk:Alt P fB) (hrA:asg.rf=false) (hrB:body.rf=false) (hp0:Nat.blt p0 K.N=true) (hp1:Nat.blt p1 K.N=true)
  (hDa:D3.OK P T K D asg) (hDb:D3.OK P T K D body) (hz:∀ v,A1 g (H.enc v).slots=some (.d (.clo fB (.ref (.sl (.int .i64)))) (zsOf v)))
  (hB:∀ i z v f ks,Auz P T K D H outs p0 p1 asg body i z v f ks=B i z v f ks) (hDn:∀ v ks,Ma outs ks .normal (H.enc v)=Dn v ks) :
  (⟨H,outs,Nh zsOf B Dn⟩:LO α).Sound P K (.rangeFunc (.tmp g) #[p0,p1] asg body):=by
 intro nt v k r h;obtain ⟨hlen,h⟩:=Anx h;simp only [QO] at hlen;obtain ⟨Z,hZ⟩:∃ Z,Z=zsOf v:=⟨_,rfl⟩;rw [<- hZ] at h hlen
 have clo:∀ v',zsOf v'=Z->A1 g ((H.enc v').st nt).slots=some (Ab7 fB Z):=λv' e=>by
  simp only [St3.st,Ae,hz v',QQ,e];rfl
 have key:∀ (i:Nat) (v:H.den),zsOf v=Z->Ni zsOf B Z i v (λv'=>Dn v' (Nm k outs)) (Nm k outs)=some r ->
   ∃ x s1 X w,Ff P K g p0 p1 fB Z asg body i ((H.enc v).st nt) x (St3.st s1 nt)/\Tm.dec X s1=some w/\k x (X.enc w)=some r:=by
  intro i
  induction i with
  | zero =>
   intro v hv h;simp only [Ni] at h;rw [<- hDn] at h;obtain ⟨X,w,h1,h2⟩:=Sl h;exact ⟨.normal,H.enc v,X,w,.done (clo v hv),h1,h2⟩
  | succ i ih =>
   intro v hv h;simp only [Ni] at h;rw [<- hB] at h;unfold Auz at h;obtain ⟨x,sA,a1,a2⟩:=Ow hT hfol (nt:=nt) _ _ _ _ hDa h;rw [Auh] at a1
   cases x with
   | normal =>
    simp only at a2;obtain ⟨y,s1,b1,b2⟩:=Ow hT hfol (nt:=nt) _ _ _ _ hDb a2
    have out:(y = .ret \/ ∃ id,y = .exit id)->Ma outs (Nm k outs) y (A0j (λt=>asg.wr t || body.wr t) p0 p1 s1)=some r ->
      ∃ x s1 X w,Ff P K g p0 p1 fB Z asg body (i+1) ((H.enc v).st nt) x (St3.st s1 nt)/\Tm.dec X s1=some w/\k x (X.enc w)=some r:=by
     intro hy hp;obtain ⟨X,w,h1,h2⟩:=Sl hp;refine ⟨y,_,X,w,?_,h1,h2⟩;rw [Ald];exact .stop (clo v hv) hy a1 b1
    cases y with
    | normal =>
     simp only [Aq4] at b2;split at b2
     . rename_i v' hv';obtain ⟨e1,e2⟩:=Anx b2
       obtain ⟨x,s2,X,w,c1,c2,c3⟩:=ih v' (by simpa using e1) e2
       exact ⟨x,s2,X,w,.round (clo v hv) a1 b1 (by rw [<- Ald];exact Tm.dec_weak hv') c1,c2,c3⟩
     . cases b2
    | ret=>exact out (.inl rfl) b2
    | exit id=>exact out (.inr ⟨id,rfl⟩) b2
    | goto l=>cases b2
    | panic c=>cases b2
    | outgrown=>cases b2
   | _=>cases a2
 obtain ⟨x,s1,X,w,c1,c2,c3⟩:=key Z.length v hZ.symm h
 have:=Den.range hBk hlen hrA hrB (by simpa [ZP] using hp0) (by simpa [ZP] using hp1) c1
 exact ⟨x,X.enc w,⟨Den.weak this (Tm.dec_weak c2),λc' e=>by cases e⟩,c3⟩
end Go.Ev
