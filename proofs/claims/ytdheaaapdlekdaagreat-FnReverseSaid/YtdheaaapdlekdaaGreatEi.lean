/- DERIVED. The evaluator over shapes of data: all paths of a function. -/
import Derived.Test.YtdheaaapdlekdaaGreatEd

set_option linter.all false
set_option linter.unusedVariables false
set_option linter.unusedSimpArgs false

/- DERIVED. Regions that draw their order, over shapes: each order gives the same. -/
namespace Go.Ev
open Go
variable {P:Program} {T:Ty} {α:Type}
inductive RV where
 | sv (x:SV)
 | bx (E:Ent3) (z:HF (Ar 1000 E.ts) E.forms)
inductive AV where
 | none
 | im (E:Ent) (x:HL E.ts) (y:SV)
 | bx (E:Ent3) (x:HP E.ts) (z:HF (Ar 1000 E.ts) E.forms)
def AV.ok:AV->Prop
 | .none=>True
 | .im E x y=>∃ r,E.m x=some r/\y=Nu E.rs r
 | .bx E x z=>E.m x=some z
def Fu:List (Nat × Sh)->St3->Option (Bool × St3)
 | [],s=>some (true,s)
 | (t,sh)::r,s=>match Ql s t sh with
  | some (g,s1)=>match Fu r s1 with
   | some (g',s2)=>some (g&&g',s2)
   | none=>none
  | none=>none
def Ff (T:Ty) (K:Aj) (A:OA) (rv:Option RV) (o:Oper) (s:St3):Option (Bool × AV × St3) :=
 match Fu A.fz s with
 | none=>none
 | some (g0,s0)=>match A.ent with
  | some E=>match rv with
   | some (.sv y)=>match Ur E o s0 with
    | some (g,x)=>match s0.put3 K o.dst y with
     | some s'=>some (g0&&g,.im E x y,s')
     | none=>none
    | none=>none
   | _=>none
  | none=>match A.entB with
   | some _=>match rv with
    | some (.bx E z)=>match M8 E.f E.ts o s0 with
     | some (g,x,bor,q)=>M7 (Ar 1000 E.ts) E.forms z λrs y =>
      bif M6 K ⟨E.f,E.ts,rs,E.mv⟩ A.hb s0 x bor q y then (match (Br ⟨E.f,E.ts,rs,E.mv⟩ A.hb s0 q y).2.put3 K o.dst (Br ⟨E.f,E.ts,rs,E.mv⟩ A.hb s0 q y).1 with
       | some s'=>some (g0&&(g&&Hw (Bd ⟨E.f,E.ts,rs,E.mv⟩ y) s0.boxes (Eo ⟨E.f,E.ts,rs,E.mv⟩ (Kn ⟨E.f,E.ts,rs,E.mv⟩ A.hb q)) q),.bx E x z,s')
       | none=>none) else none
     | none=>none
    | _=>none
   | none=>match A6i T K A o s0 with
    | some (g,s')=>some (g0&&g,.none,s')
    | none=>none
theorem A70 {nt:Nat}:∀ {l:List (Nat × Sh)} {s s':St3} {g:Bool},Fu l s=some (g,s')->g=true->Km (s.st nt) (s'.st nt)
 | [],s,s',g,h,_=>by
  simp only [Fu,QF,QL] at h;obtain ⟨_,rfl⟩:=h;exact λ_ _ E _ hs=>⟨E,hs⟩
 | (t,sh)::r,s,s',g,h,hg=>by
  simp only [Fu] at h;split at h
  . rename_i g1 s1 h1;split at h
    . rename_i g2 s2 h2;simp only [QF,QL] at h;obtain ⟨rfl,rfl⟩:=h;simp only [QH] at hg;intro Γ w E tmps hs;obtain ⟨x',ob,q1,q2⟩:=Xm (nt:=nt) h1 hg.1
      obtain ⟨E1,hs1⟩:=Fd [(t,x')] (s':=s1.st nt) (obs:=ob++[]) hs (by simp only [Gb,q1]) (λp hp=>by simp only [XT] at hp;exact q2 p hp)
      exact A70 h2 hg.2 Γ w E1 tmps hs1
    . cases h
  . cases h
def RV.S (P:Program):Option RV->Prop
 | some (.bx E _)=>E.Sound P
 | _=>True
theorem A82 (hT:B8 P T) {K:Aj} {A:OA} {rv:Option RV} {o:Oper} {s s':St3} {g:Bool} {av:AV} {nt:Nat} (h:Ff T K A rv o s=some (g,av,s')) (hg:g=true) (hav:av.ok) (hE:A.S P) (hrv:RV.S P rv):A6n P K o (s.st nt) (s'.st nt):=by
 unfold Ff at h;split at h
 . cases h
 rename_i g0 s0 h0;have fin:∀ {D:Hh} {obs:List Prop},g0=true->Fg P T K o D (s0.st nt)=some (s'.st nt,obs)->(∀ p ∈ obs,p)->A6n P K o (s.st nt) (s'.st nt):=λhg0 hs ho=>⟨_,A70 h0 hg0,Hj hT hs ho⟩;split at h
 . rename_i E hent;split at h
   . rename_i y;split at h
     . rename_i g1 x hc;split at h
       . rename_i s2 hp;simp only [QF,QL] at h;obtain ⟨rfl,rfl,rfl⟩:=h;simp only [QH] at hg;obtain ⟨rfl,rfl⟩:=hg;obtain ⟨r,hm,rfl⟩:=hav;obtain ⟨obs,h1,h2⟩:=Abc (T:=T) (nt:=nt) hc hm (hE.1 E hent);have:=Vh (nt:=nt) hp;rw [Afh] at this;obtain ⟨D',obs',h3,h4⟩:=Xq h2 this;exact fin rfl h3 (h4 h1)
       . cases h
     . cases h
   . cases h
 . rename_i hent;split at h
   . rename_i F hF;split at h
     . rename_i E z;split at h
       . rename_i g1 x bor q hc;have hS:E.Sound P:=hrv
         have hm:∀ {r:Bool × AV × St3} ,M7 (Ar 1000 E.ts) E.forms z (λrs y =>
          bif M6 K ⟨E.f,E.ts,rs,E.mv⟩ A.hb s0 x bor q y then (match (Br ⟨E.f,E.ts,rs,E.mv⟩ A.hb s0 q y).2.put3 K o.dst (Br ⟨E.f,E.ts,rs,E.mv⟩ A.hb s0 q y).1 with
           | some s'=>some (g0&&(g1&&Hw (Bd ⟨E.f,E.ts,rs,E.mv⟩ y) s0.boxes (Eo ⟨E.f,E.ts,rs,E.mv⟩ (Kn ⟨E.f,E.ts,rs,E.mv⟩ A.hb q)) q),AV.bx E x z,s')
           | none=>none) else none)=some r->r.2.1 = .bx E x z:=λ{r} hr=>by
          have key:∀ (fs:List (List PK)) (zz:HF (Ar 1000 E.ts) fs),M7 (Ar 1000 E.ts) fs zz (λrs y =>
           bif M6 K ⟨E.f,E.ts,rs,E.mv⟩ A.hb s0 x bor q y then (match (Br ⟨E.f,E.ts,rs,E.mv⟩ A.hb s0 q y).2.put3 K o.dst (Br ⟨E.f,E.ts,rs,E.mv⟩ A.hb s0 q y).1 with
            | some s'=>some (g0&&(g1&&Hw (Bd ⟨E.f,E.ts,rs,E.mv⟩ y) s0.boxes (Eo ⟨E.f,E.ts,rs,E.mv⟩ (Kn ⟨E.f,E.ts,rs,E.mv⟩ A.hb q)) q),AV.bx E x z,s')
            | none=>none) else none)=some r->r.2.1 = .bx E x z:=by
           intro fs zz hz
           have hall:Ai3 (Ar 1000 E.ts) fs zz (λ_ _=>True):=by
            clear hz
            induction fs with
            | nil=>trivial
            | cons f fs ih =>
             cases fs with
             | nil=>trivial
             | cons f2 fs=>cases zz with
              | inl a=>trivial
              | inr b=>exact ih b
           obtain ⟨rs,y,h1,_⟩:=Qe hz hall
           cases hck:M6 K ⟨E.f,E.ts,rs,E.mv⟩ A.hb s0 x bor q y with
           | false=>rw [hck] at h1;cases h1
           | true =>
            rw [hck] at h1;simp only [cond] at h1;split at h1
            . obtain rfl:=QA h1;rfl
            . cases h1
          exact key E.forms z hr
         have e1:av = .bx E x z:=hm h;subst e1;have hav:E.m x=some z:=hav;obtain ⟨rs,y,h1,h2⟩:=Qe h (hS nt x z hav)
         cases hck:M6 K ⟨E.f,E.ts,rs,E.mv⟩ A.hb s0 x bor q y with
         | false=>rw [hck] at h1;cases h1
         | true =>
          rw [hck] at h1;simp only [cond] at h1;split at h1
          . rename_i s2 hp;simp only [QF,QL] at h1;obtain ⟨e,_,rfl⟩:=h1;rw [<- e] at hg;simp only [QH] at hg;obtain ⟨rfl,rfl,hl⟩:=hg;obtain ⟨D,obs,q1,q2⟩:=Akr (T:=T) (E:=⟨E.f,E.ts,rs,E.mv⟩) hc hck hl h2 hp;exact fin rfl q1 q2
          . cases h1
       . cases h
     . cases h
   . split at h
     . rename_i g1 s2 hr;simp only [QF,QL] at h;obtain ⟨rfl,rfl,rfl⟩:=h;simp only [QH] at hg;obtain ⟨D,obs,h1,h2⟩:=Asv (nt:=nt) hT hr hg.2;exact fin hg.1 h1 h2
     . cases h
abbrev OA.at (A:List (Nat × OA)) (i:Nat):OA:=(A1 i A).getD {}
def S3 (T:Ty) (K:Aj) (A:List (Nat × OA)) (q:List (Nat × RV)) (L:Nat):List (Nat × Oper)->St3->St3
 | [],s=>s
 | (i,o)::l,s=>S3 T K A q L l (bif L.testBit i then (match Ff T K (OA.at A i) (A1 i q) o s with
  | some r=>r.2.2
  | none=>s) else s)
def WT (A:List (Nat × OA)):List (Nat × Oper)->List (Nat × RV)->Prop
 | [],q=>q=[]
 | (i,_)::l,q=>match (OA.at A i).ent with
  | some E=>∃ y q',q=(i,.sv (Nu E.rs y))::q'/\WT A l q'
  | none=>match (OA.at A i).entB with
   | some F=>∃ z q',q=(i,.bx F z)::q'/\WT A l q'
   | none=>WT A l q
def I0 (T:Ty) (K:Aj) (A:List (Nat × OA)) (q:List (Nat × RV)):List (Nat × Oper)->St3->St3->Prop
 | [],s,s'=>s=s'
 | (i,o)::l,s,s'=>∃ av s1,Ff T K (OA.at A i) (A1 i q) o s=some (true,av,s1)/\av.ok/\I0 T K A q l s1 s'
theorem WT.keys {A:List (Nat × OA)}:∀ {l:List (Nat × Oper)} {q:List (Nat × RV)},WT A l q->∀ i,(∀ p ∈ l,p.1 ≠ i)->A1 i q=none
 | [],q,h,i,_=>by unfold WT at h;subst h;rfl
 | (j,o)::l,q,h,i,hi=>by
  have ih:=λq' (h':WT A l q')=>WT.keys h' i λp hp=>hi p (by simp [hp])
  unfold WT at h;split at h
  . obtain ⟨y,q',rfl,h'⟩:=h
    rw [Bm (hi (j,o) (by simp))]
    exact ih q' h'
  . split at h
    . obtain ⟨y,q',rfl,h'⟩:=h
      rw [Bm (hi (j,o) (by simp))]
      exact ih q' h'
    . exact ih q h
theorem I0.congr {K:Aj} {A:List (Nat × OA)} {q q':List (Nat × RV)}:∀ {l:List (Nat × Oper)} {s s':St3},(∀ p ∈ l,A1 p.1 q=A1 p.1 q')->I0 T K A q l s s'->I0 T K A q' l s s'
 | [],_,_,_,h=>h
 | (i,o)::l,s,s',hq,h=>by
  obtain ⟨av,s1,h1,h2,h3⟩:=h
  exact ⟨av,s1,by rw [<- hq (i,o) (by simp)];exact h1,h2,I0.congr (λp hp=>hq p (by simp [hp])) h3⟩
theorem Atm {l:List (Nat × Sh)} {s:St3} {k:St3->Option α} {r:α} (h:Kb l s k=some r):∃ s',Fu l s=some (true,s')/\k s'=some r:=by
 induction l generalizing s with
 | nil=>exact ⟨s,rfl,h⟩
 | cons p l ih =>
  obtain ⟨t,sh⟩:=p;simp only [Kb] at h;split at h
  . rename_i g s1 h1
    cases g with
    | false=>cases h
    | true =>
     obtain ⟨s2,h2,h3⟩:=ih h
     exact ⟨s2,by simp only [Fu,h1,h2,ZO],h3⟩
  . cases h
theorem Ac6 {K:Aj} {ops:List Oper} {A:List (Nat × OA)}:∀ (l:List (Nat × Oper)) (s:St3) (k:St3->Option α) (r:α),(l.map (·.1)).Nodup->(∀ p ∈ l,p.2.guard=none)->(∀ p ∈ l,(OA.at A p.1).two=false) ->
  Kc T K ops A l s k=some r->∃ q s',WT A l q/\k s'=some r/\I0 T K A q l s s'
 | [],s,k,r,_,_,_,h=>⟨[],s,rfl,h,rfl⟩
 | (i,o)::l,s,k,r,hn,hg,hx,h=>by
  simp only [QT,JB] at hn
  have hni:∀ p ∈ l,p.1 ≠ i:=λp hp e=>hn.1 (by rw [<- e];exact ZK.2 ⟨p,hp,rfl⟩)
  simp only [Kc] at h;obtain ⟨s0,h0,h⟩:=Atm h
  have hgo:o.guard=none:=hg (i,o) (by simp)
  unfold A2a at h;rw [hgo] at h;simp only at h
  have ih:=λs1 h'=>Ac6 (K:=K) (ops:=ops) (A:=A) l s1 k r hn.2 (λp hp=>hg p (by simp [hp])) (λp hp=>hx p (by simp [hp])) h'
  obtain ⟨hxi,hal,hbo,hsh⟩:=OA.two_false (hx (i,o) (by simp))
  unfold Xk Vc at h;simp only [OA.at] at hal hbo hsh;simp only [hal,hbo,hsh,At3] at h
  cases hent:(OA.at A i).ent with
  | some E =>
   have hB:(OA.at A i).entB=none:=by
    cases e:(OA.at A i).entB with
    | none=>rfl
    | some F=>rw [hent,e] at hxi;cases hxi
   simp only [OA.at] at hent hB;simp only [hent,hB] at h;split at h
   . rename_i g x hc
     cases g with
     | false=>cases h
     | true =>
      simp only [cond,ob] at h;split at h
      . rename_i y hm;split at h
        . rename_i s1 hp;obtain ⟨q,s',w1,w2,w3⟩:=ih s1 h;refine ⟨(i,.sv (Nu E.rs y))::q,s',?_,w2,?_⟩
          . unfold WT;simp only [OA.at,hent];exact ⟨y,q,rfl,w1⟩
          . refine ⟨.im E x (Nu E.rs y),s1,?_,⟨y,hm,rfl⟩,I0.congr (λp hp=>(Bm (hni p hp).symm).symm) w3⟩;rw [C7];simp only [Ff,OA.at,h0,hent,hc,hp,ZO]
        . cases h
      . cases h
   . cases h
  | none =>
   cases hB:(OA.at A i).entB with
   | some F =>
    simp only [OA.at] at hent hB;simp only [hent,hB] at h;unfold Vb at h;split at h
    . rename_i g x bor qn hc
      cases g with
      | false=>cases h
      | true =>
       simp only [cond] at h;split at h
       . rename_i z hm
         have hall:∀ (fs:List (List PK)) (zz:HF (Ar 1000 F.ts) fs),Ai3 (Ar 1000 F.ts) fs zz (λ_ _=>True):=by
          intro fs
          induction fs with
          | nil=>intro _;trivial
          | cons f fs ih2 =>
           intro zz
           cases fs with
           | nil=>trivial
           | cons f2 fs=>cases zz with
            | inl a=>trivial
            | inr b=>exact ih2 b
         have key:∀ (fs:List (List PK)) (zz:HF (Ar 1000 F.ts) fs),(M7 (Ar 1000 F.ts) fs zz λrs y=>onB K ⟨F.f,F.ts,rs,F.mv⟩ ((A1 i A).getD {}).hb o s0 x bor qn y λs2=>Kc T K ops A l s2 k)=some r ->
           ∃ s1,(M7 (Ar 1000 F.ts) fs zz λrs y =>
            bif M6 K ⟨F.f,F.ts,rs,F.mv⟩ ((A1 i A).getD {}).hb s0 x bor qn y then (match (Br ⟨F.f,F.ts,rs,F.mv⟩ ((A1 i A).getD {}).hb s0 qn y).2.put3 K o.dst (Br ⟨F.f,F.ts,rs,F.mv⟩ ((A1 i A).getD {}).hb s0 qn y).1 with
             | some s'=>some (true&&(true&&Hw (Bd ⟨F.f,F.ts,rs,F.mv⟩ y) s0.boxes (Eo ⟨F.f,F.ts,rs,F.mv⟩ (Kn ⟨F.f,F.ts,rs,F.mv⟩ ((A1 i A).getD {}).hb qn)) qn),AV.bx F x z,s')
             | none=>none) else none)=some (true,.bx F x z,s1)/\Kc T K ops A l s1 k=some r:=by
          intro fs
          induction fs with
          | nil=>intro _ h;cases h
          | cons f fs ih2 =>
           have one:∀ (y:HR f (Ar 1000 F.ts)),(onB K ⟨F.f,F.ts,f,F.mv⟩ ((A1 i A).getD {}).hb o s0 x bor qn y λs2=>Kc T K ops A l s2 k)=some r ->
             ∃ s1,(bif M6 K ⟨F.f,F.ts,f,F.mv⟩ ((A1 i A).getD {}).hb s0 x bor qn y then (match (Br ⟨F.f,F.ts,f,F.mv⟩ ((A1 i A).getD {}).hb s0 qn y).2.put3 K o.dst (Br ⟨F.f,F.ts,f,F.mv⟩ ((A1 i A).getD {}).hb s0 qn y).1 with
             | some s'=>some (true&&(true&&Hw (Bd ⟨F.f,F.ts,f,F.mv⟩ y) s0.boxes (Eo ⟨F.f,F.ts,f,F.mv⟩ (Kn ⟨F.f,F.ts,f,F.mv⟩ ((A1 i A).getD {}).hb qn)) qn),AV.bx F x z,s')
             | none=>none) else none)=some (true,.bx F x z,s1)/\Kc T K ops A l s1 k=some r:=by
            intro y h;unfold onB at h
            cases hck:M6 K ⟨F.f,F.ts,f,F.mv⟩ ((A1 i A).getD {}).hb s0 x bor qn y with
            | false=>rw [hck] at h;cases h
            | true =>
             rw [hck] at h;simp only [cond] at h
             cases hl:Hw (Bd ⟨F.f,F.ts,f,F.mv⟩ y) s0.boxes (Eo ⟨F.f,F.ts,f,F.mv⟩ (Kn ⟨F.f,F.ts,f,F.mv⟩ ((A1 i A).getD {}).hb qn)) qn with
             | false=>rw [hl] at h;cases h
             | true =>
              rw [hl] at h;simp only at h;split at h
              . rename_i s1 hp;refine ⟨s1,?_,h⟩;simp only [cond,hp,ZO]
              . cases h
           cases fs with
           | nil=>exact one
           | cons f2 fs =>
            intro zz h
            cases zz with
            | inl a=>exact one a h
            | inr b=>exact ih2 b h
         obtain ⟨s1,k1,k2⟩:=key F.forms z h;obtain ⟨q,s',w1,w2,w3⟩:=ih s1 k2;refine ⟨(i,.bx F z)::q,s',?_,w2,?_⟩
         . unfold WT;simp only [OA.at,hent,hB];exact ⟨z,q,rfl,w1⟩
         . refine ⟨.bx F x z,s1,?_,hm,I0.congr (λp hp=>(Bm (hni p hp).symm).symm) w3⟩;rw [C7];simp only [Ff,OA.at,h0,hent,hB,hc];exact k1
       . cases h
    . cases h
   | none =>
    simp only [OA.at] at hent hB;simp only [hent,hB] at h;split at h
    . rename_i gr s2 hr
      cases gr with
      | false=>cases h
      | true =>
       simp only [cond] at h;obtain ⟨q,s',w1,w2,w3⟩:=ih s2 h;refine ⟨q,s',?_,w2,?_⟩
       . unfold WT;simp only [OA.at,hent,hB];exact w1
       . refine ⟨.none,s2,?_,trivial,w3⟩;have hnone:A1 i q=none:=WT.keys w1 i hni;rw [hnone];simp only [Ff,OA.at,h0,hent,hB,hr,ZO]
    . cases h
def Ael (o:Oper) (L:Nat):Bool:=o.after.toList.all λe=>!Region.binds .any e || L.testBit e.on
def Qc:List (Nat × Oper)->List Nat->List Nat
 | [],D=>D
 | (i,o)::l,D=>Qc l (D++(D.filter (Ael o)).map λL=>L ||| 1 <<< i)
def rdy (l:List (Nat × Oper)) (L:Nat):List (Nat × Oper):=l.filter λp=>!L.testBit p.1&&Ael p.2 L
def K7 (T:Ty) (K:Aj) (A:List (Nat × OA)) (l:List (Nat × Oper)) (s:St3) (q:List (Nat × RV)):Prop :=
 (Qc l [0]).map (λL=>(rdy l L).map λp=>Ff T K (OA.at A p.1) (A1 p.1 q) p.2 (S3 T K A q L l s)) =
 (Qc l [0]).map (λL=>(rdy l L).map λp=>(Ff T K (OA.at A p.1) (A1 p.1 q) p.2 (S3 T K A q (2 ^ p.1-1) l s)).map λr=>(r.1,r.2.1,S3 T K A q (L ||| 1 <<< p.1) l s))
theorem K7.mk {K:Aj} {A:List (Nat × OA)} {l:List (Nat × Oper)} {s:St3} {q:List (Nat × RV)}
  (h:(Qc l [0]).map (λL=>(rdy l L).map λp=>Ff T K (OA.at A p.1) (A1 p.1 q) p.2 (S3 T K A q L l s)) =
   (Qc l [0]).map (λL=>(rdy l L).map λp=>(Ff T K (OA.at A p.1) (A1 p.1 q) p.2 (S3 T K A q (2 ^ p.1-1) l s)).map λr=>(r.1,r.2.1,S3 T K A q (L ||| 1 <<< p.1) l s))):K7 T K A l s q:=h
def B55 (A:List (Nat × OA)) (l:List (Nat × Oper)):Bool :=
 l.all λp=>(match p.2.guard with | none=>true | some _=>false)&&p.2.after.toList.all (λe=>!Region.binds .any e || Nat.blt e.on p.1) && !(OA.at A p.1).two
theorem Ac9 (L i:Nat):(L.testBit i=true->L % 2 ^ (i+1)=L % 2 ^ i ||| 1 <<< i)/\(L.testBit i=false->L % 2 ^ (i+1)=L % 2 ^ i):=by
 constructor
 . intro h;refine KR λj=>?_;rw [KG,Qba,KG,JD];by_cases e:j=i
   . subst e;simp [h]
   . by_cases h1:j<i
     . have h2:j<i+1:=by omega
       have h3:¬ i<=j:=by omega
       simp [h1,h2,h3]
     . have h2:¬ j<i+1:=by omega
       obtain ⟨d,hd⟩:∃ d,j-i=d+1:=⟨j-i-1,by omega⟩
       simp [h1,h2,hd,Qag]
 . intro h;refine KR λj=>?_;rw [KG,KG];by_cases e:j=i
   . subst e;simp [h]
   . by_cases h1:j<i
     . have h2:j<i+1:=by omega
       simp [h1,h2]
     . have h2:¬ j<i+1:=by omega
       simp [h1,h2]
theorem Aif {L:Nat}:∀ (l:List (Nat × Oper)) (i:Nat) (D:List Nat),(∀ k p,l[k]? = some p->p.1=i+k/\(∀ e ∈ p.2.after,Region.binds .any e=true->e.on<p.1)/\(L.testBit p.1=true->∀ e ∈ p.2.after,Region.binds .any e=true->L.testBit e.on=true)) ->
  L % 2 ^ i ∈ D->L % 2 ^ (i+l.length) ∈ Qc l D
 | [],i,D,_,h=>by simpa [Qc] using h
 | (j,o)::l,i,D,hl,h=>by
  obtain ⟨h1,h2,h3⟩:=hl 0 (j,o) rfl;simp only [KE] at h1;subst h1;simp only [Qc,QY]
  rw [show j+(l.length+1)=j+1+l.length by omega]
  refine Aif l (j+1) _ (λk p hk=>?_) ?_
  . obtain ⟨a,b⟩:=hl (k+1) p (by simpa using hk)
    exact ⟨by omega,b⟩
  . cases hb:L.testBit j with
    | false =>
     rw [(Ac9 L j).2 hb];exact QG.2 (.inl h)
    | true =>
     rw [(Ac9 L j).1 hb];refine QG.2 (.inr (ZK.2 ⟨_,Qan.2 ⟨h,?_⟩,rfl⟩));unfold Ael;refine QK.2 λe he=>?_
     cases hbe:Region.binds .any e with
     | false=>rfl
     | true =>
      have he':e ∈ o.after:=by simpa using he
      have:=h2 e he' hbe;simp only [KG,this,decide_true,ZZ,ZJ,YJ];exact h3 hb e he' hbe
theorem Aex {K:Aj} {A:List (Nat × OA)} {q:List (Nat × RV)} {L:Nat}:∀ {l:List (Nat × Oper)} {s s':St3},I0 T K A q l s s'->(∀ p ∈ l,L.testBit p.1=true)->S3 T K A q L l s=s'
 | [],s,s',h,_=>h
 | (i,o)::l,s,s',h,hL=>by
  obtain ⟨av,s1,h1,_,h3⟩:=h
  simp only [S3,hL (i,o) (by simp),cond,h1]
  exact Aex h3 λp hp=>hL p (by simp [hp])
theorem R5 {K:Aj} {A:List (Nat × OA)} {q:List (Nat × RV)} {L:Nat}:∀ {l:List (Nat × Oper)} {s:St3},(∀ p ∈ l,L.testBit p.1=false)->S3 T K A q L l s=s
 | [],s,_=>rfl
 | (i,o)::l,s,hL=>by
  simp only [S3,hL (i,o) (by simp),cond]
  exact R5 λp hp=>hL p (by simp [hp])
theorem I0.at {K:Aj} {A:List (Nat × OA)} {q:List (Nat × RV)} {i0:Nat}:∀ {l:List (Nat × Oper)} {s s':St3} {b:Nat},I0 T K A q l s s'->(∀ k p,l[k]? = some p->p.1=b+k)->∀ {i:Nat} {o:Oper},i=b+i0->l[i0]? = some (i,o) ->
  ∃ av s1,Ff T K (OA.at A i) (A1 i q) o (S3 T K A q (2 ^ i-1) l s)=some (true,av,s1)/\av.ok:=by
 induction i0 with
 | zero =>
  intro l s s' b h hl i o hi ho
  match l,h with
  | [],_=>simp at ho
  | (j,o')::l,h =>
   simp only [JO,QF,QL] at ho;obtain ⟨rfl,rfl⟩:=ho;obtain ⟨av,s1,h1,h2,_⟩:=h;refine ⟨av,s1,?_,h2⟩;rw [R5 (λp hp=>?_)]
   . exact h1
   . obtain ⟨k,hk⟩:=YZ hp;have:=hl k p hk;rw [ZS];simp only [ZV];omega
 | succ i0 ih =>
  intro l s s' b h hl i o hi ho
  match l,h with
  | [],_=>simp at ho
  | (j,o')::l,h =>
   obtain ⟨av,s1,h1,_,h3⟩:=h;have hj:=hl 0 (j,o') rfl;simp only [KE] at hj
   obtain ⟨av2,s2,q1,q2⟩:=ih (b:=b+1) h3 (λk p hk=>by have:=hl (k+1) p (by simpa using hk);omega) (i:=i) (o:=o) (by omega) (by simpa using ho)
   refine ⟨av2,s2,?_,q2⟩
   have hb:(2 ^ i-1).testBit j=true:=by
    rw [ZS];simp only [QO];omega
   simp only [S3,hb,cond,h1];exact q1
theorem WT.bx {A:List (Nat × OA)}:∀ {l:List (Nat × Oper)} {q:List (Nat × RV)},WT A l q->∀ {i:Nat} {E:Ent3} {z:HF (Ar 1000 E.ts) E.forms},A1 i q=some (.bx E z)->(OA.at A i).entB=some E
 | [],q,h,i,E,z,hi=>by unfold WT at h;subst h;cases hi
 | (j,o)::l,q,h,i,E,z,hi=>by
  unfold WT at h;split at h
  . obtain ⟨y,q',rfl,h'⟩:=h;simp only [A1] at hi
    cases hb:Nat.beq j i with
    | true=>rw [hb] at hi;cases hi
    | false=>rw [hb] at hi;exact WT.bx h' hi
  . split at h
    . rename_i F hF;obtain ⟨y,q',rfl,h'⟩:=h;simp only [A1] at hi
      cases hb:Nat.beq j i with
      | true =>
       rw [hb] at hi;have:=QD hb;subst this;simp only [cond,QF,RV.bx.injEq] at hi;obtain ⟨rfl,_⟩:=hi;exact hF
      | false=>rw [hb] at hi;exact WT.bx h' hi
    . exact WT.bx h hi
theorem Abz {l:List Oper} {k:Nat} {p:Nat × Oper} (h:(Ad l)[k]? = some p):p.1=0+k:=by
 rw [YI];exact (Dp h).1
end Go.Ev

/- DERIVED. Regions that draw their order: what an operation does hangs on what it names, and on the boxes. -/
namespace Go.Ev
open Go
variable {P:Program} {T:Ty} {α:Type}
def Lg (o:Oper):Option (List Operand):=match o.op with
 | .move x=>some [x]
 | .assign x=>some [x]
 | .pick c a b=>some [c,a,b]
 | .load _ a=>some [a]
 | .nilCheck x=>some [x]
 | .binOp _ _ x y _=>some [x,y]
 | .unOp _ _ x=>some [x]
 | .convert _ _ x=>some [x]
 | .fieldAddr _ x _=>some [x]
 | .indexAddr _ x i=>some [x,i]
 | .extract x _=>some [x]
 | .store _ a x=>some [a,x]
 | .alloc _=>some []
 | .box _ x=>some [x]
 | .call c=>match c.callee with
  | .value f=>some (f::c.args.toList)
  | .builtin .len=>some c.args.toList
  | .builtin .max=>some c.args.toList
  | .builtin .min=>some c.args.toList
  | _=>none
 | .slice _ x lo hi none=>some (x::(lo.toList++hi.toList))
 | .build _ ps=>some (ps.toList.map (·.2))
 | .buildSlice _ _ ps=>some (ps.toList.map (·.2))
 | _=>none
theorem P7 {s s2:St3}:∀ {l:List Operand},(∀ x ∈ l,s.val x=s2.val x)->l.map s.val=l.map s2.val
 | [],_=>rfl
 | x::l,h=>by rw [QT,QT,h x (by simp),P7 λy hy=>h y (by simp [hy])]
theorem A0g {s s2:St3}:∀ {o:Option Operand},(∀ x ∈ o.toList,s.val x=s2.val x)->o.map s.val=o.map s2.val
 | none,_=>rfl
 | some x,h=>by rw [QV,QV,h x (by simp)]
theorem A1s {s s2:St3} {ps:Array (Nat × Operand)} (h:∀ x ∈ ps.toList.map (·.2),s.val x=s2.val x):Ej s ps=Ej s2 ps:=by
 unfold Ej
 exact ZE λp hp=>by rw [h p.2 (ZK.2 ⟨p,hp,rfl⟩)]
theorem Auk {hint:Option Sh} {o:Oper} {xs:List Operand} {s s2:St3} (hq:Lg o=some xs) (hx:∀ x ∈ xs,s.val x=s2.val x) (hb:s.boxes=s2.boxes):O5 T hint o s=O5 T hint o s2:=by
 unfold Lg at hq;unfold O5;split at hq
 case h_15 c e =>
  rw [e];dsimp only;split at hq
  . rename_i f hc;rw [hc]
  . rename_i hc;rw [hc];obtain rfl:=QA hq;dsimp only;split
    . rename_i x t h1 h2
      rw [hx x (by rw [h1];simp),hb]
    . rfl
  . rename_i hc;rw [hc];obtain rfl:=QA hq;dsimp only;split
    . rename_i x y h1
      rw [hx x (by rw [h1];simp),hx y (by rw [h1];simp)]
    . rfl
  . rename_i hc;rw [hc];obtain rfl:=QA hq;dsimp only;split
    . rename_i x y h1
      rw [hx x (by rw [h1];simp),hx y (by rw [h1];simp)]
    . rfl
  . cases hq
 case h_2 x e =>
  obtain rfl:=QA hq;rw [e]
  cases x with
  | tmp t =>
   show K2 (s.val (.tmp t))=K2 (s2.val (.tmp t))
   rw [hx _ (by simp)]
  | const v=>cases v <;> first | rfl | (rename_i a;cases a <;> rfl)
  | func f=>rfl
  | global g=>rfl
 case h_16 t x lo hi e =>
  obtain rfl:=QA hq;rw [e];dsimp only
  rw [hx x (by simp),A0g (o:=lo) λy hy=>hx y (by simp [hy]),A0g (o:=hi) λy hy=>hx y (by simp [hy]),hb]
 case h_17 t ps e =>
  obtain rfl:=QA hq;rw [e];dsimp only;rw [A1s hx]
 case h_18 t n ps e =>
  obtain rfl:=QA hq;rw [e];dsimp only;rw [A1s hx]
 all_goals first
  | (cases hq;done)
  | (rename_i e
     obtain rfl:=QA hq;simp only [QX,YK,or_false,forall_eq_or_imp,forall_eq] at hx
     first
      | (rw [e];done)
      | (rw [e];simp only [hx,hb]))
theorem Aum {E:Ent} {o:Oper} {xs:List Operand} {s s2:St3} (hq:Lg o=some xs) (hx:∀ x ∈ xs,s.val x=s2.val x) (hb:s.boxes=s2.boxes):Ur E o s=Ur E o s2:=by
 unfold Lg at hq;unfold Ur;split at hq
 case h_15 c e =>
  rw [e];dsimp only;split at hq
  . rename_i f hc;rw [hc];obtain rfl:=QA hq;dsimp only
    rw [hx f (by simp),P7 (s:=s) (s2:=s2) (l:=c.args.toList) (λy hy=>hx y (by simp [hy])),hb]
  . rename_i hc;rw [hc]
  . rename_i hc;rw [hc]
  . rename_i hc;rw [hc]
  . cases hq
 all_goals first
  | (cases hq;done)
  | (rename_i e;rw [e])
theorem Asp {f0:Nat} {ts:List PK} {o:Oper} {xs:List Operand} {s s2:St3} (hq:Lg o=some xs) (hx:∀ x ∈ xs,s.val x=s2.val x) (hb:s.boxes=s2.boxes):M8 f0 ts o s=M8 f0 ts o s2:=by
 unfold Lg at hq;unfold M8;split at hq
 case h_15 c e =>
  rw [e];dsimp only;split at hq
  . rename_i f hc;rw [hc];obtain rfl:=QA hq;dsimp only
    rw [hx f (by simp),P7 (s:=s) (s2:=s2) (l:=c.args.toList) (λy hy=>hx y (by simp [hy])),hb]
  . rename_i hc;rw [hc]
  . rename_i hc;rw [hc]
  . rename_i hc;rw [hc]
  . cases hq
 all_goals first
  | (cases hq;done)
  | (rename_i e;rw [e])
def Bgf (A:OA) (E:Ent3) (bs:List (Nat × B3)) (g:Bool) (x:HP E.ts) (bor:List Nat) (q:List (Nat × Nat)) (z:HF (Ar 1000 E.ts) E.forms):Option (Bool × AV × SV × E3) :=
 M7 (Ar 1000 E.ts) E.forms z λrs y =>
  bif E.mv.isEmpty&&((rs.flatMap PK.backs).isEmpty&&(A4x rs).isEmpty)&&Ahv ⟨E.f,E.ts,rs,E.mv⟩ A.hb ⟨[],bs⟩ x bor q y then (match Bd ⟨E.f,E.ts,rs,E.mv⟩ y,q with
   | [(_,b)],[(_,h)]=>some (true&&(g&&Hw (Bd ⟨E.f,E.ts,rs,E.mv⟩ y) bs [] q),.bx E x z,(Br ⟨E.f,E.ts,rs,E.mv⟩ A.hb ⟨[],bs⟩ q y).1,.set h (b.ren3 (Es q)))
   | _,_=>none) else none
theorem A7h {α:Type} {os:List (Nat × CK)}:∀ {fs:List (List PK)} {z:HF os fs} {k:(rs:List PK)->HR rs os->Option α} {r:α},M7 os fs z k=some r->∃ rs y,k rs y=some r /\ ∀ {β:Type} (k':(rs:List PK)->HR rs os->Option β),M7 os fs z k'=k' rs y
 | [],_,_,_,h=>by cases h
 | [rs],y,k,r,h=>⟨rs,y,h,λ_=>rfl⟩
 | rs::r0::q,.inl y,k,r,h=>⟨rs,y,h,λ_=>rfl⟩
 | rs::r0::q,.inr z,k,r,h=>by
  obtain ⟨rs',y,h1,h2⟩:=A7h (fs:=r0::q) (z:=z) (k:=k) h;exact ⟨rs',y,h1,λk'=>h2 k'⟩
theorem Avf {f:SV->SV} (h:∀ x,f x=x):∀ l:List (Nat × SV),Am f l=l
 | []=>rfl
 | (i,x)::r=>by
  have ih:=Avf h r;simp only [Am,QT,h] at ih ⊢;rw [ih]
def V6 (T:Ty) (A:OA) (rv:Option RV) (o:Oper) (s:St3):Option (Bool × AV × SV × E3) :=
 match A.fz,A.entB,A.ent,A.tr with
 | [],none,some E,_=>match rv with
  | some (.sv y)=>match Ur E o s with
   | some (g,x)=>some (true&&g,.im E x y,y,.none)
   | none=>none
  | _=>none
 | [],none,none,none=>match O5 T A.sh o s with
  | some r=>some (true&&r.g,.none,r.val,r.eff)
  | none=>none
 | [],some _,none,_=>match rv with
  | some (.bx E z)=>match M8 E.f E.ts o s with
   | some (g,x,bor,q)=>Bgf A E s.boxes g x bor q z
   | none=>none
  | _=>none
 | _,_,_,_=>none
theorem B2n {A:OA} {rv:Option RV} {o:Oper} {xs:List Operand} {s s2:St3} (hq:Lg o=some xs) (hx:∀ x ∈ xs,s.val x=s2.val x) (hb:s.boxes=s2.boxes):V6 T A rv o s=V6 T A rv o s2:=by
 unfold V6;rw [Auk hq hx hb];split
 . rw [Aum hq hx hb]
 . rfl
 . split
   . rw [Asp hq hx hb,hb]
   . rfl
 . rfl
theorem Ai9 {K:Aj} {A:OA} {rv:Option RV} {o:Oper} {s:St3} {g:Bool} {av:AV} {x:SV} {e:E3} (h:V6 T A rv o s=some (g,av,x,e)) :
  Ff T K A rv o s=(s.eff3 K o.dst e).bind λs1=>(s1.put3 K o.dst x).map λs'=>(g,av,s'):=by
 unfold V6 at h;unfold Ff;split at h
 . rename_i h1 h2 h3;rw [h1,h3];simp only [Fu];split at h
   . rename_i y;split at h
     . rename_i g' x' hc;simp only [QF,QL] at h;obtain ⟨rfl,rfl,rfl,rfl⟩:=h;try rw [hc]
       simp only [St3.eff3,XY]
       cases s.put3 K o.dst y <;> rfl
     . cases h
   . cases h
 . rename_i h0 h1 h2 h3;rw [h0,h1,h2];simp only [Fu];unfold A6i;rw [h3];split at h
   . rename_i r hc;try rw [hc]
     simp only [QF,QL] at h;obtain ⟨rfl,rfl,rfl,rfl⟩:=h;dsimp only
     cases s.eff3 K o.dst r.eff with
     | none=>rfl
     | some s1 =>
      simp only [XY]
      cases s1.put3 K o.dst r.val <;> rfl
   . cases h
 . rename_i EB h0 h1 h2;rw [h0,h1,h2];simp only [Fu];split at h
   . rename_i E z;split at h
     . rename_i g' x' bor q hc;unfold Bgf at h;obtain ⟨rs,y,e1,e2⟩:=A7h h;simp only [hc,e2]
       cases hk0:E.mv.isEmpty with
       | false=>rw [hk0] at e1;cases e1
       | true =>
       have b0:E.mv=[]:=YU.1 hk0;rw [hk0,ZZ] at e1
       cases hk:(rs.flatMap PK.backs).isEmpty with
       | false=>rw [hk] at e1;cases e1
       | true =>
        cases hk2:(A4x rs).isEmpty with
        | false=>rw [hk,hk2] at e1;cases e1
        | true =>
         have b1:rs.flatMap PK.backs=[]:=YU.1 hk;have b2:A4x rs=[]:=YU.1 hk2
         have b3:Kn ⟨E.f,E.ts,rs,E.mv⟩ A.hb q=q:=by simp only [Kn,b2];rfl
         have b4:∀ rn,Eo ⟨E.f,E.ts,rs,E.mv⟩ rn=[]:=λrn=>by simp only [Eo,b1,b0];rfl
         have b5:M6 K ⟨E.f,E.ts,rs,E.mv⟩ A.hb s x' bor q y=Ahv ⟨E.f,E.ts,rs,E.mv⟩ A.hb ⟨[],s.boxes⟩ x' bor q y:=by
          simp only [M6,Am2,b0,List.isEmpty_nil,Qac,XR,Ahv,b2,KT]
         rw [hk,hk2,ZZ,ZZ] at e1;rw [b5]
         cases hck:Ahv ⟨E.f,E.ts,rs,E.mv⟩ A.hb ⟨[],s.boxes⟩ x' bor q y with
         | false=>rw [hck] at e1;cases e1
         | true =>
          rw [hck] at e1;simp only [cond] at e1 ⊢;split at e1
          . rename_i k1 b k2 hh he;simp only [QF,QL] at e1;obtain ⟨rfl,rfl,rfl,rfl⟩:=e1
            have b6:(Br ⟨E.f,E.ts,rs,E.mv⟩ A.hb s [(k2,hh)] y)=((Br ⟨E.f,E.ts,rs,E.mv⟩ A.hb ⟨[],s.boxes⟩ [(k2,hh)] y).1,⟨s.slots,B2 hh (b.ren3 (Es [(k2,hh)])) s.boxes⟩):=by
             unfold Br;rw [b4,b3,he];have m1:∀ g:B3->B3,Am g [(k1,b)]=[(k1,g b)]:=λ_=>rfl;simp only [List.any_nil,cond,m1,A27];rw [Avf λ_=>rfl]
            rw [b6,b3,b4];simp only [St3.eff3,XY]
            cases St3.put3 K _ o.dst _ <;> rfl
          . cases e1
     . cases h
   . cases h
 . cases h
theorem Mt {β:Type} (k i:Nat) (x z:β) (l:List (Nat × β)):B2 k x ((i,z)::l)=if k<i then (k,x)::(i,z)::l else if i=k then (k,x)::l else (i,z)::B2 k x l:=by
 have bl:Nat.blt k i=decide (k<i):=by
  cases e:Nat.blt k i with
  | true=>rw [XD] at e;simp [e]
  | false =>
   have:¬ k<i:=λhh=>by rw [<- XD] at hh;rw [hh] at e;cases e
   simp [this]
 have be:Nat.beq i k=decide (i=k):=by
  cases e:Nat.beq i k with
  | true=>simp [QD e]
  | false =>
   have:i ≠ k:=λhh=>by subst hh;simp at e
   simp [this]
 simp only [B2,bl,be,QE]
theorem A87 {β:Type} {k j:Nat} (x y:β) (h:k ≠ j):∀ l:List (Nat × β),B2 k x (B2 j y l)=B2 j y (B2 k x l)
 | []=>by
  have e:∀ (a:Nat) (b:β),B2 a b []=[(a,b)]:=λ_ _=>rfl;rw [e,e,Mt,Mt,e,e];grind
 | (i,z)::l=>by
  have ih:=A87 x y h l;rw [Mt,Mt];by_cases h2:j<i <;> by_cases h4:i=j <;> by_cases h1:k<i <;> by_cases h3:i=k <;> simp only [h1,h2,h3,h4,if_true,if_false,Mt] <;> grind [Mt]
end Go.Ev

/- DERIVED. Regions that draw their order: a light check, one A1 at each operation for each set of operations with effects. -/
namespace Go.Ev
open Go
variable {P:Program} {T:Ty} {α:Type}
structure Dat where
 g:Bool
 av:AV
 x:SV
 e:E3
def Zp (k:Option Tmp) (e:E3) (bs:List (Nat × B3)):List (Nat × B3):=match e with
 | .new b=>match k with
  | some k=>B2 k b bs
  | none=>bs
 | .set h b=>B2 h b bs
 | _=>bs
def Xu (k:Option Tmp) (x:SV) (sl:List (Nat × SV)):List (Nat × SV):=match k with
 | some t=>B2 t x sl
 | none=>sl
def Ih (d:Option Tmp) (D:Dat) (s:St3):St3:=⟨Xu d D.x s.slots,Zp d D.e s.boxes⟩
def okE (d:Option Tmp):E3->Bool
 | .none=>true
 | .new _=>d.isSome
 | .set _ _=>true
 | _=>false
def isE:E3->Bool
 | .none=>false
 | _=>true
def hdl (d:Option Tmp):E3->Option Nat
 | .new _=>d
 | .set h _=>some h
 | _=>none
def Ao2 (k:Nat):E3->Bool
 | .new b=>b.men k
 | .set _ b=>b.men k
 | _=>false
def eqO:Option Nat->Option Nat->Bool
 | some a,some b=>Nat.beq a b
 | _,_=>false
theorem A3x {a b:Option Nat} (h:eqO a b=false):∀ t,a=some t->b ≠ some t:=by
 rintro t rfl rfl
 simp [eqO] at h
abbrev H5:=List (Nat × Option Tmp × Dat)
def SL (L:Nat):H5->St3->St3
 | [],s=>s
 | (i,d,D)::r,s=>SL L r (bif L.testBit i then Ih d D s else s)
def A1l (T:Ty) (A:List (Nat × OA)) (q:List (Nat × RV)):List (Nat × Oper)->St3->Option H5
 | [],_=>some []
 | (i,o)::l,s=>match V6 T (OA.at A i) (A1 i q) o s with
  | some (g,av,x,e)=>bif okE o.dst e then (match A1l T A q l (Ih o.dst ⟨g,av,x,e⟩ s) with
   | some r=>some ((i,o.dst,⟨g,av,x,e⟩)::r)
   | none=>none) else none
  | none=>none
def Zr (o:Oper) (j:Nat):Bool:=o.after.toList.any λe=>Region.binds .any e&&Nat.beq e.on j
def opT:Operand->Option Nat
 | .tmp t=>some t
 | _=>none
def Av9 (D:H5) (i:Nat) (o:Oper):Bool:=match Lg o with
 | none=>false
 | some xs=>xs.all λx=>D.all λp=>!eqO (opT x) p.2.1 || (Zr o p.1&&Nat.blt p.1 i)
def A4u (i:Nat):H5->Option Dat
 | []=>none
 | (j,_,D)::r=>bif Nat.beq j i then some D else A4u i r
def Bfl (K:Aj) (l:List (Nat × Oper)) (D:H5) (s:St3) (p:Nat × Oper):Bool :=
 Av9 D p.1 p.2&&(match p.2.dst with
  | some t=>Nat.blt t K.N
  | none=>true)&&(match A4u p.1 D with
  | some Di=>D.all (λr=>Nat.beq r.1 p.1 || (!eqO p.2.dst r.2.1&&(!eqO (hdl p.2.dst Di.e) (hdl r.2.1 r.2.2.e) || (match A1 r.1 l with
    | some o=>Zr o p.1 || Zr p.2 r.1
    | none=>false))))&&(match Di.e with
   | .new _=>match p.2.dst with
    | some k=>(A1 k s.boxes).isNone&&Nat.blt k 1000&&s.clean k&&D.all (λr=>Nat.beq r.1 p.1 || (!eqO (some k) (hdl r.2.1 r.2.2.e) && !r.2.2.x.men k && !Ao2 k r.2.2.e) || (match A1 r.1 l with
     | some o=>Zr o p.1
     | none=>false))
    | none=>false
   | _=>true)
  | none=>false)
def Bsh (K:Aj) (l:List (Nat × Oper)) (D:H5) (s:St3):Bool:=l.all (Bfl K l D s)
def Ac0:List Nat->List Nat
 | []=>[0]
 | e::r=>Ac0 r++(Ac0 r).map (· ||| 1 <<< e)
theorem An5 (L:Nat):∀ E:List Nat,∃ m ∈ Ac0 E,∀ x,m.testBit x=(E.any (Nat.beq x)&&L.testBit x)
 | []=>⟨0,by simp [Ac0],λx=>by simp⟩
 | e::r=>by
  obtain ⟨m,hm,h⟩:=An5 L r
  cases hb:L.testBit e with
  | true =>
   refine ⟨m ||| 1 <<< e,QG.2 (.inr (ZK.2 ⟨m,hm,rfl⟩)),λx=>?_⟩;rw [Qba,h];by_cases c:x=e
   . subst c;simp [hb]
   . have e1 : (1 <<< e).testBit x = false := by
      rw [JD];by_cases c2:e<=x
      . obtain ⟨d,hd⟩:∃ d,x-e=d+1:=⟨x-e-1,by omega⟩
        rw [hd];simp [Qag]
      . simp [c2]
     have e2:Nat.beq x e=false:=by cases e3:Nat.beq x e with | false=>rfl | true=>exact absurd (QD e3) c
     rw [e1,JH,e2,Qbz,YJ]
  | false =>
   refine ⟨m,QG.2 (.inl hm),λx=>?_⟩;rw [h,JH];by_cases c:x=e
   . subst c;simp [hb]
   . have e2:Nat.beq x e=false:=by cases e3:Nat.beq x e with | false=>rfl | true=>exact absurd (QD e3) c
     rw [e2,YJ]
def A3z (D:H5):List Nat:=(D.filter λp=>isE p.2.2.e).map (·.1)
def Ahz (acc:List (Nat × Nat)):List Go.Edge->Nat
 | []=>0
 | e::r=>bif Region.binds .any e then Ahz acc r ||| 1 <<< e.on ||| (A1 e.on acc).getD 0 else Ahz acc r
def Abi:List (Nat × Oper)->List (Nat × Nat)->List (Nat × Nat)
 | [],acc=>acc
 | (i,o)::l,acc=>Abi l ((i,Ahz acc o.after.toList)::acc)
def Azf (l:List (Nat × Oper)) (D:H5) (p:Nat × Oper):List Nat :=
 (Ac0 (A3z D)).filter λm=>!m.testBit p.1&&((Abi l []).all λr=>!(m.testBit r.1&&r.2.testBit p.1)&&(!(Nat.beq r.1 p.1 || m.testBit r.1) || (A3z D).all (λk=>!r.2.testBit k || m.testBit k)))
theorem Ay9 {L:Nat} {acc:List (Nat × Nat)} (ha:∀ j m,A1 j acc=some m->L.testBit j=true->∀ k,m.testBit k=true->L.testBit k=true):∀ {es:List Go.Edge},(∀ e ∈ es,Region.binds .any e=true->L.testBit e.on=true)->∀ k,(Ahz acc es).testBit k=true->L.testBit k=true
 | [],_,k,h=>by simp [Ahz] at h
 | e::r,he,k,h=>by
  simp only [Ahz] at h
  have ih:=Ay9 ha (es:=r) (λe h=>he e (by simp [h])) k
  cases hb:Region.binds .any e with
  | false=>rw [hb] at h;exact ih h
  | true =>
   rw [hb] at h
   have hL:=he e (by simp) hb
   simp only [cond,Qba,XA] at h;rcases h with (h | h) | h
   . exact ih h
   . rw [JD] at h
     have:k=e.on:=by
      rcases JZ k e.on with c | c | c
      . have:¬ k>=e.on:=by omega
        simp [this] at h
      . exact c
      . obtain ⟨d,hd⟩:∃ d,k-e.on=d+1:=⟨k-e.on-1,by omega⟩
        rw [hd] at h;simp [Qag] at h
     rw [this];exact hL
   . cases hl:A1 e.on acc with
     | none=>rw [hl] at h;simp at h
     | some m=>rw [hl] at h;exact ha _ m hl hL k h
theorem Ahy {L i0:Nat} {l0:List (Nat × Oper)} (hr:∀ p ∈ l0,L.testBit p.1=true \/ p.1=i0->∀ e ∈ p.2.after,Region.binds .any e=true->L.testBit e.on=true):∀ {l:List (Nat × Oper)} {acc:List (Nat × Nat)},(∀ p ∈ l,p ∈ l0) ->
  (∀ r ∈ acc,L.testBit r.1=true \/ r.1=i0->∀ k,r.2.testBit k=true->L.testBit k=true)->∀ r ∈ Abi l acc,L.testBit r.1=true \/ r.1=i0->∀ k,r.2.testBit k=true->L.testBit k=true
 | [],acc,_,ha,r,h=>ha r h
 | (i,o)::l,acc,hl,ha,r,h=>by
  refine Ahy hr (l:=l) (λp hp=>hl p (by simp [hp])) (λr hr'=>?_) r h
  rcases QX.1 hr' with rfl | hr'
  . intro hi k hk
    refine Ay9 (λj m hj hL k hk=>ha (j,m) (Co hj) (.inl hL) k hk) (λe he hb=>hr (i,o) (hl _ (by simp)) hi e (by simpa using he) hb) k hk
  . exact ha r hr'
abbrev Bew:=Option (Bool × AV × SV × E3)
def Bq3:Option Dat->Bew
 | some D=>some (D.g,D.av,D.x,D.e)
 | none=>none
def Bsg (T:Ty) (A:List (Nat × OA)) (q:List (Nat × RV)) (l:List (Nat × Oper)) (D:H5) (s:St3):List (List Bew) :=
 l.map λp=>(Azf l D p).map λm=>V6 T (OA.at A p.1) (A1 p.1 q) p.2 ⟨(SL (2 ^ p.1-1) D s).slots,(SL m D s).boxes⟩
def Bsf (l:List (Nat × Oper)) (D:H5):List (List Bew) :=
 l.map λp=>(Azf l D p).map λ_=>Bq3 (A4u p.1 D)
def Blz (m:Nat) (l:List (Nat × Oper)):Bool:=(Abi l []).all λr=>Nat.blt r.1 m || (List.range r.1).all λk=>r.2.testBit k
def Aye (T:Ty) (K:Aj) (A:List (Nat × OA)) (l:List (Nat × Oper)) (s:St3) (q:List (Nat × RV)):Prop :=
 ∃ m,Blz m l=true/\(match A1l T A q (l.take m) s with
  | some D=>Bsh K (l.take m) D s
  | none=>false)=true/\Bsg T A q (l.take m) ((A1l T A q (l.take m) s).getD []) s=Bsf (l.take m) ((A1l T A q (l.take m) s).getD [])
theorem B9l {d d':Option Tmp} {e e':E3} (h:∀ t,hdl d e=some t->hdl d' e' ≠ some t) (bs:List (Nat × B3)):Zp d e (Zp d' e' bs)=Zp d' e' (Zp d e bs):=by
 cases e <;> cases e' <;> first | rfl | skip;all_goals cases d <;> cases d' <;> first | rfl | skip
 all_goals (simp only [Zp];first | rfl | (refine A87 _ _ (λc=>?_) _;subst c;exact h _ rfl rfl))
theorem B3y {d d':Option Tmp} {x x':SV} (h:∀ t,d=some t->d' ≠ some t) (sl:List (Nat × SV)):Xu d x (Xu d' x' sl)=Xu d' x' (Xu d x sl):=by
 cases d <;> cases d' <;> first | rfl | skip;simp only [Xu];refine A87 _ _ (λc=>?_) _;subst c;exact h _ rfl rfl
theorem Ba6 {d d':Option Tmp} {D D':Dat} (h1:∀ t,d=some t->d' ≠ some t) (h2:∀ t,hdl d D.e=some t->hdl d' D'.e ≠ some t) (s:St3):Ih d D (Ih d' D' s)=Ih d' D' (Ih d D s):=by
 simp only [Ih,B3y h1,B9l h2]
theorem At7 {L L':Nat}:∀ {D:H5} {s:St3},(∀ p ∈ D,L.testBit p.1=L'.testBit p.1)->SL L D s=SL L' D s
 | [],_,_=>rfl
 | (i,d,D)::r,s,h=>by
  simp only [SL,h (i,d,D) (by simp)]
  exact At7 λp hp=>h p (by simp [hp])
theorem A46 (L i j:Nat):(L ||| 1 <<< i).testBit j=(L.testBit j || decide (j=i)):=by
 rw [Qba];congr 1;rw [JD];by_cases c:j=i
 . subst c;simp
 . by_cases c2:i<=j
   . obtain ⟨d,hd⟩:∃ d,j-i=d+1:=⟨j-i-1,by omega⟩
     rw [hd];simp [Qag,c]
   . simp [c2,c]
theorem Bad {L:Nat} {d:Option Tmp} {D0:Dat}:∀ {D:H5} {s:St3},(∀ p ∈ D,L.testBit p.1=true->(∀ t,d=some t->p.2.1 ≠ some t)/\(∀ t,hdl d D0.e=some t->hdl p.2.1 p.2.2.e ≠ some t)) ->
  SL L D (Ih d D0 s)=Ih d D0 (SL L D s)
 | [],_,_=>rfl
 | (j,d',D')::r,s,h=>by
  simp only [SL]
  have ih:=λs=>Bad (L:=L) (d:=d) (D0:=D0) (D:=r) (s:=s) λp hp=>h p (by simp [hp])
  cases hb:L.testBit j with
  | false=>simp only [cond];exact ih s
  | true =>
   simp only [cond]
   obtain ⟨h1,h2⟩:=h (j,d',D') (by simp) hb
   rw [<- Ba6 h1 h2,ih]
theorem Bae {L i:Nat} {d:Option Tmp} {D0:Dat}:∀ {D:H5} {s:St3},(D.map (·.1)).Pairwise (· < ·)->(i,d,D0) ∈ D->L.testBit i=false->(∀ p ∈ D,i<p.1->L.testBit p.1=true->(∀ t,d=some t->p.2.1 ≠ some t)/\(∀ t,hdl d D0.e=some t->hdl p.2.1 p.2.2.e ≠ some t)) ->
  SL (L ||| 1 <<< i) D s=Ih d D0 (SL L D s)
 | [],_,_,h,_,_=>by simp at h
 | (j,d',D')::r,s,hn,hm,hb,h=>by
  simp only [QT,List.pairwise_cons] at hn;have hlt:∀ p ∈ r,j<p.1:=λp hp=>hn.1 p.1 (ZK.2 ⟨p,hp,rfl⟩);rcases QX.1 hm with e | hm
  . simp only [QL] at e;obtain ⟨rfl,rfl,rfl⟩:=e;simp only [SL,hb,A46,decide_true,Bool.or_true,cond]
    rw [At7 (L':=L) λp hp=>by rw [A46];have:=hlt p hp;simp [show p.1 ≠ i by omega]]
    exact Bad λp hp=>h p (by simp [hp]) (hlt p hp)
  . have hne:j ≠ i:=λc=>by have:=hlt _ hm;simp only at this;omega
    simp only [SL,A46,hne,decide_false,Qbz]
    exact Bae hn.2 hm hb λp hp=>h p (by simp [hp])
theorem Ayc {L L' t:Nat}:∀ {D:H5} {s s':St3},A1 t s.slots=A1 t s'.slots->(∀ p ∈ D,p.2.1=some t->L.testBit p.1=L'.testBit p.1)->A1 t (SL L D s).slots=A1 t (SL L' D s').slots
 | [],_,_,h,_=>h
 | (i,d,D)::r,s,s',h,hp=>by
  simp only [SL]
  refine Ayc ?_ λp hq=>hp p (by simp [hq])
  have key:∀ s,d ≠ some t->A1 t (Ih d D s).slots=A1 t s.slots:=λs hd=>by
   cases d with
   | none=>rfl
   | some u=>exact As _ _ λc=>hd (by rw [c])
  by_cases hd:d=some t
  . rw [hp (i,d,D) (by simp) hd]
    cases L'.testBit i with
    | false=>exact h
    | true=>subst hd;simp only [cond,Ih,Xu,At]
  . cases L.testBit i <;> cases L'.testBit i <;> simp only [cond,key _ hd,h]
theorem B9k {d:Option Tmp} {e:E3} (h:isE e=false) (bs:List (Nat × B3)):Zp d e bs=bs:=by cases e <;> first | rfl | cases h
theorem At9 {L L':Nat}:∀ {D:H5} {s s':St3},s.boxes=s'.boxes->(∀ p ∈ D,isE p.2.2.e=true->L.testBit p.1=L'.testBit p.1)->(SL L D s).boxes=(SL L' D s').boxes
 | [],_,_,h,_=>h
 | (i,d,D)::r,s,s',h,hp=>by
  simp only [SL]
  refine At9 ?_ λp hq=>hp p (by simp [hq])
  cases he:isE D.e with
  | true =>
   rw [hp (i,d,D) (by simp) he]
   cases L'.testBit i <;> simp only [cond,Ih,h]
  | false=>cases L.testBit i <;> cases L'.testBit i <;> simp only [cond,Ih,B9k he,h]
theorem Ai0 {β:Type} {f:Nat × β->Bool} {k:Nat} {x:β} {l:List (Nat × β)} (h:l.all f=true) (hx:f (k,x)=true):(B2 k x l).all f=true:=by
 refine QK.2 λp hp=>?_;rcases Wl hp with rfl | hp
 . exact hx
 . exact QK.1 h p hp
theorem At8 {L k:Nat}:∀ {D:H5} {s:St3},s.clean k=true->(∀ p ∈ D,L.testBit p.1=true->p.2.2.x.men k=false/\Ao2 k p.2.2.e=false)->(SL L D s).clean k=true
 | [],_,h,_=>h
 | (i,d,D)::r,s,h,hp=>by
  simp only [SL]
  refine At8 ?_ λp hq=>hp p (by simp [hq])
  cases hb:L.testBit i with
  | false=>exact h
  | true =>
   obtain ⟨h1,h2⟩:=hp (i,d,D) (by simp) hb
   simp only [cond];unfold St3.clean at h ⊢;simp only [QH] at h ⊢;refine ⟨?_,?_⟩
   . cases d with
     | none=>exact h.1
     | some t=>exact Ai0 h.1 (by simp only at h1;simp [h1])
   . show List.all (Zp d D.e s.boxes) _=true;simp only at h2
     cases he:D.e with
     | new b =>
      rw [he] at h2
      cases d with
      | none=>exact h.2
      | some t=>exact Ai0 h.2 (by simp only [Ao2] at h2;simp [h2])
     | set hh b =>
      rw [he] at h2
      exact Ai0 h.2 (by simp only [Ao2] at h2;simp [h2])
     | none=>exact h.2
     | app hh b=>exact h.2
     | frz ks=>exact h.2
theorem At6 {L k:Nat}:∀ {D:H5} {s:St3},A1 k s.boxes=none->(∀ p ∈ D,L.testBit p.1=true->hdl p.2.1 p.2.2.e ≠ some k)->A1 k (SL L D s).boxes=none
 | [],_,h,_=>h
 | (i,d,D)::r,s,h,hp=>by
  simp only [SL]
  refine At6 ?_ λp hq=>hp p (by simp [hq])
  cases hb:L.testBit i with
  | false=>exact h
  | true =>
   have h1:=hp (i,d,D) (by simp) hb
   simp only at h1;simp only [cond];show A1 k (Zp d D.e s.boxes)=none
   cases he:D.e with
   | new b =>
    rw [he] at h1
    cases d with
    | none=>exact h
    | some t=>exact (As _ _ λc=>h1 (by simp only [hdl];rw [c])).trans h
   | set hh b =>
    rw [he] at h1
    exact (As _ _ λc=>h1 (by simp only [hdl];rw [c])).trans h
   | none=>exact h
   | app hh b=>exact h
   | frz ks=>exact h
theorem B3h {K:Aj} {A:OA} {rv:Option RV} {o:Oper} {s:St3} {g:Bool} {av:AV} {x:SV} {e:E3} (h:V6 T A rv o s=some (g,av,x,e)) (hK:∀ t,o.dst=some t->Nat.blt t K.N=true) (he:okE o.dst e=true)
  (hnew:∀ b k,e = .new b->o.dst=some k->(A1 k s.boxes).isNone=true/\Nat.blt k 1000=true/\s.clean k=true):Ff T K A rv o s=some (g,av,Ih o.dst ⟨g,av,x,e⟩ s):=by
 rw [Ai9 h]
 have put:∀ s1:St3,s1.put3 K o.dst x=some ⟨Xu o.dst x s1.slots,s1.boxes⟩:=λs1=>by
  unfold St3.put3
  cases hd:o.dst with
  | none=>rfl
  | some t=>simp only [hK t hd,cond];rfl
 cases e with
 | none=>simp only [St3.eff3,XY,put,QV];rfl
 | set hh b=>simp only [St3.eff3,XY,put,QV];rfl
 | new b =>
  cases hd:o.dst with
  | none=>rw [hd] at he;cases he
  | some k =>
   obtain ⟨q1,q2,q3⟩:=hnew b k rfl hd;rw [hd] at put;simp only [St3.eff3,q1,q2,q3,ZO,cond,XY,put,QV];rfl
 | app hh b=>cases he
 | frz ks=>cases he
theorem B3g {K:Aj} {A:OA} {rv:Option RV} {o:Oper} {s s1:St3} {g g1:Bool} {av av1:AV} {x:SV} {e:E3} (h:V6 T A rv o s=some (g,av,x,e)) (he:okE o.dst e=true) (hs:Ff T K A rv o s=some (g1,av1,s1)) :
  g1=g/\av1=av/\s1=Ih o.dst ⟨g,av,x,e⟩ s:=by
 rw [Ai9 h] at hs
 have put:∀ {s0:St3},(s0.put3 K o.dst x).map (λs'=>(g,av,s'))=some (g1,av1,s1)->g1=g/\av1=av/\s1=⟨Xu o.dst x s0.slots,s0.boxes⟩:=λ{s0} hp=>by
  unfold St3.put3 at hp
  cases hd:o.dst with
  | none =>
   rw [hd] at hp;simp only [QV,QF,QL] at hp;obtain ⟨rfl,rfl,rfl⟩:=hp;exact ⟨rfl,rfl,rfl⟩
  | some t =>
   rw [hd] at hp;simp only at hp
   cases hb:Nat.blt t K.N with
   | false=>rw [hb] at hp;cases hp
   | true =>
    rw [hb] at hp;simp only [cond,QV,QF,QL] at hp;obtain ⟨rfl,rfl,rfl⟩:=hp;exact ⟨rfl,rfl,rfl⟩
 cases e with
 | none=>exact put hs
 | set hh b=>exact put hs
 | new b =>
  cases hd:o.dst with
  | none=>rw [hd] at he;cases he
  | some k =>
   rw [hd] at hs put;simp only [St3.eff3] at hs
   cases hb:((A1 k s.boxes).isNone&&Nat.blt k 1000&&s.clean k) with
   | false=>rw [hb] at hs;cases hs
   | true=>rw [hb] at hs;exact put hs
 | app hh b=>cases he
 | frz ks=>cases he
theorem Anh {K:Aj} {A:List (Nat × OA)} {q:List (Nat × RV)}:∀ {l:List (Nat × Oper)} {s s':St3} {D:H5},I0 T K A q l s s'->A1l T A q l s=some D ->
  D.map (λp=>(p.1,p.2.1))=l.map (λp=>(p.1,p.2.dst))/\(∀ p ∈ D,p.2.2.g=true/\p.2.2.av.ok/\okE p.2.1 p.2.2.e=true) /\ ∀ L:Nat,(∀ p ∈ D,L.testBit p.1=true)->SL L D s=s'
 | [],s,s',D,h,hd=>by
  simp only [A1l,QF] at hd;subst hd
  exact ⟨rfl,λp hp=>by simp at hp,λ_ _=>h⟩
 | (i,o)::l,s,s',D,h,hd=>by
  obtain ⟨av,s1,h1,h2,h3⟩:=h;simp only [A1l] at hd;split at hd
  . rename_i g av' x e he
    cases hok:okE o.dst e with
    | false=>rw [hok] at hd;cases hd
    | true =>
     rw [hok] at hd;simp only [cond] at hd;split at hd
     . rename_i r hr;obtain rfl:=QA hd;obtain ⟨rfl,rfl,rfl⟩:=B3g he hok h1;obtain ⟨a1,a2,a3⟩:=Anh h3 hr
       refine ⟨by simp only [QT,a1],λp hp=>?_,λL hL=>?_⟩
       . rcases QX.1 hp with rfl | hp
         . exact ⟨rfl,h2,hok⟩
         . exact a2 p hp
       . have hi:=hL (i,o.dst,⟨true,av,x,e⟩) (by simp)
         simp only at hi;simp only [SL,hi,cond]
         exact a3 L λp hp=>hL p (by simp [hp])
     . cases hd
  . cases hd
theorem Aih {i:Nat} {D0:Dat}:∀ {D:H5},A4u i D=some D0->∃ d,(i,d,D0) ∈ D
 | [],h=>by cases h
 | (j,d,D1)::r,h=>by
  simp only [A4u] at h
  cases hb:Nat.beq j i with
  | true =>
   rw [hb] at h;obtain rfl:=QA h;obtain rfl:=QD hb
   exact ⟨d,by simp⟩
  | false =>
   rw [hb] at h;obtain ⟨d',h'⟩:=Aih h
   exact ⟨d',by simp [h']⟩
theorem Bal {s s2:St3} {x:Operand} (h:∀ t,opT x=some t->A1 t s.slots=A1 t s2.slots):s.val x=s2.val x:=by
 cases x with
 | tmp t=>simp only [St3.val,h t rfl]
 | _=>rfl
theorem Ahq {o:Oper} {j:Nat} (h:Zr o j=true):∃ e ∈ o.after,Region.binds .any e=true/\e.on=j:=by
 unfold Zr at h;obtain ⟨e,he,h2⟩:=ZL.1 h;simp only [QH] at h2
 exact ⟨e,by simpa using he,h2.1,QD h2.2⟩
theorem I0.split {K:Aj} {A:List (Nat × OA)} {q:List (Nat × RV)}:∀ (m:Nat) {l:List (Nat × Oper)} {s s':St3},I0 T K A q l s s'->∃ s1,I0 T K A q (l.take m) s s1/\I0 T K A q (l.drop m) s1 s'
 | 0,l,s,s',h=>⟨s,by simp [I0],by simpa using h⟩
 | m+1,[],s,s',h=>⟨s',by simpa using h,by simp [I0]⟩
 | m+1,(i,o)::l,s,s',h=>by
  obtain ⟨av,s1,h1,h2,h3⟩:=h;obtain ⟨s2,k1,k2⟩:=I0.split m h3;exact ⟨s2,⟨av,s1,h1,h2,k1⟩,k2⟩
theorem Akv {K:Aj} {A:List (Nat × OA)} {q:List (Nat × RV)} {L:Nat}:∀ {a b:List (Nat × Oper)} {s:St3},S3 T K A q L (a++b) s=S3 T K A q L b (S3 T K A q L a s)
 | [],_,_=>rfl
 | (i,o)::a,b,s=>by simp only [YD,S3];exact Akv
theorem I0.at2 {K:Aj} {A:List (Nat × OA)} {q:List (Nat × RV)} {i0:Nat}:∀ {l:List (Nat × Oper)} {s s':St3} {b:Nat},I0 T K A q l s s'->(∀ k p,l[k]? = some p->p.1=b+k)->∀ {i:Nat} {o:Oper},i=b+i0->l[i0]? = some (i,o) ->
  ∃ av,Ff T K (OA.at A i) (A1 i q) o (S3 T K A q (2 ^ i-1) l s)=some (true,av,S3 T K A q (2 ^ (i+1)-1) l s)/\av.ok:=by
 induction i0 with
 | zero =>
  intro l s s' b h hl i o hi ho
  match l,h with
  | [],_=>simp at ho
  | (j,o')::l,h =>
   simp only [JO,QF,QL] at ho;obtain ⟨rfl,rfl⟩:=ho;obtain ⟨av,s1,h1,h2,_⟩:=h
   have hgt:∀ p ∈ l,j<p.1:=λp hp=>by
    obtain ⟨k,hk⟩:=YZ hp
    have:=hl (k+1) p (by simpa using hk)
    omega
   refine ⟨av,?_,h2⟩;rw [R5 (λp hp=>?_)]
   . have hb:(2 ^ (j+1)-1).testBit j=true:=by rw [ZS];simp
     simp only [S3,hb,cond,h1]
     rw [R5 λp hp=>by have:=hgt p hp;rw [ZS];simp only [ZV];omega]
   . obtain ⟨k,hk⟩:=YZ hp;have:=hl k p hk;rw [ZS];simp only [ZV];omega
 | succ i0 ih =>
  intro l s s' b h hl i o hi ho
  match l,h with
  | [],_=>simp at ho
  | (j,o')::l,h =>
   obtain ⟨av,s1,h1,_,h3⟩:=h;have hj:=hl 0 (j,o') rfl;simp only [KE] at hj
   obtain ⟨av2,q1,q2⟩:=ih (b:=b+1) h3 (λk p hk=>by have:=hl (k+1) p (by simpa using hk);omega) (i:=i) (o:=o) (by omega) (by simpa using ho)
   refine ⟨av2,?_,q2⟩
   have hb:(2 ^ i-1).testBit j=true:=by
    rw [ZS];simp only [QO];omega
   have hb2:(2 ^ (i+1)-1).testBit j=true:=by
    rw [ZS];simp only [QO];omega
   simp only [S3,hb,hb2,cond,h1];exact q1
theorem Bc2 (hT:B8 P T) (hfol:P.follows .mixedOrders=true) {K:Aj} {A:List (Nat × OA)} {X:Tm} {id:Nat} {ops:Array Oper} {nt:Nat} (hE:∀ i a,A1 i A=some a->a.S P) (hchk:B55 A (Ad ops.toList)=true)
  {w:X.den} {q:List (Nat × RV)} {s':St3} (hw:WT A (Ad ops.toList) q) (hF:Aye T K A (Ad ops.toList) (X.enc w) q) (hrun:I0 T K A q (Ad ops.toList) (X.enc w) s') :
  Code.Den P K (.region id ops true) ((X.enc w).st nt) .normal (s'.st nt):=by
 obtain ⟨m,hsuf,h1,h2⟩:=hF;obtain ⟨sm,hrun1,hrun2⟩:=hrun.split m
 cases hD:A1l T A q ((Ad ops.toList).take m) (X.enc w) with
 | none=>rw [hD] at h1;cases h1
 | some D =>
 rw [hD] at h1 h2;simp only [YN] at h1 h2;obtain ⟨a1,a2,a3⟩:=Anh hrun1 hD
 have chk:∀ p ∈ Ad ops.toList,p.2.guard=none/\(∀ e ∈ p.2.after,Region.binds .any e=true->e.on<p.1)/\(OA.at A p.1).two=false:=λp hp=>by
  have:=QK.1 hchk p hp;simp only [QH] at this;obtain ⟨⟨h1,h2⟩,h3⟩:=this
  refine ⟨?_,λe he hb=>?_,by cases hx:(OA.at A p.1).two with | false=>rfl | true=>rw [hx] at h3;cases h3⟩
  . cases hg:p.2.guard with
    | none=>rfl
    | some _=>rw [hg] at h1;cases h1
  . have:=QK.1 h2 e (by simpa using he)
    rw [hb] at this;simpa [XD] using this
 have hsz:(Ad ops.toList).length=ops.size:=by simp [Ad]
 have at_:∀ (i:Nat) (o:Oper),ops[i]? = some o->(Ad ops.toList)[i]? = some (i,o):=λi o hi=>by
  obtain ⟨h1,h2⟩:=ZU.1 hi;simp [Ad,YY,h1,h2]
 have opsAt:∀ p ∈ Ad ops.toList,ops[p.1]? = some p.2:=λp hp=>by
  obtain ⟨k,hk⟩:=YZ hp;obtain ⟨q1,q2⟩:=Dp hk;rw [q1];simpa using q2
 have key:((Ad ops.toList).map (·.1))=List.range ops.toList.length:=by
  apply JY;intro j;simp only [Ad,XC,QQ,YY];by_cases hj:j<ops.toList.length
  . simp at hj;simp [hj]
  . simp at hj;simp [hj]
 have kD:D.map (·.1)=((Ad ops.toList).take m).map (·.1):=by
  have:=ZY (List.map (·.1)) a1;simpa [XC,JJ] using this
 have hnd:(D.map (·.1)).Pairwise (· < ·):=by
  rw [kD,JP,key];exact List.pairwise_lt_range.sublist (List.take_sublist _ _)
 have tk:∀ p ∈ (Ad ops.toList).take m,p.1<m:=λp hp=>by
  obtain ⟨k,hk⟩:=YZ hp;rw [XM] at hk;split at hk
  . rename_i hlt;have:=(Dp hk).1;omega
  . cases hk
 have ent:∀ p ∈ D,∃ o,ops[p.1]? = some o/\p.2.1=o.dst/\p.1<m:=λp hp=>by
  have:(p.1,p.2.1) ∈ ((Ad ops.toList).take m).map (λp=>(p.1,p.2.dst)):=by rw [<- a1];exact ZK.2 ⟨p,hp,rfl⟩
  obtain ⟨r,hr,e⟩:=ZK.1 this;simp only [QL] at e
  exact ⟨r.2,by rw [<- e.1];exact opsAt r (Qbm hr),e.2.symm,by rw [<- e.1];exact tk r hr⟩
 have lk:∀ (i:Nat) (o:Oper),i<m->ops[i]? = some o->A1 i ((Ad ops.toList).take m)=some o:=λi o him hi=>by
  have hm:(i,o) ∈ (Ad ops.toList).take m:=ZN (i:=i) (by rw [XM,QC him];exact at_ i o hi)
  have nd:(((Ad ops.toList).take m).map (·.1)).Nodup:=(H8 ops.toList).sublist ((List.take_sublist _ _).map _);generalize (Ad ops.toList).take m=l at hm nd
  induction l with
  | nil=>simp at hm
  | cons r l ih =>
   obtain ⟨j,o'⟩:=r;simp only [QT,JB] at nd;rcases QX.1 hm with e | hm
   . simp only [QL] at e;obtain ⟨rfl,rfl⟩:=e;exact C7
   . rw [Bm λc=>nd.1 (by rw [c];exact ZK.2 ⟨_,hm,rfl⟩)]
     exact ih hm nd.2
 have h0:SL 0 D (X.enc w)=X.enc w:=by
  clear a3 hD h1 h2 a1 a2 kD hnd ent hrun1;generalize X.enc w=s
  induction D generalizing s with
  | nil=>rfl
  | cons p r ih=>obtain ⟨i,d,D⟩:=p;simp only [SL,Nat.zero_testBit,cond];exact ih s
 have hpre:∀ L:Nat,(∀ j,j<m->L.testBit j=true)->SL L D (X.enc w)=sm:=λL hL=>a3 _ λp hp=>hL p.1 (ent p hp).choose_spec.2.2
 have hpre3:S3 T K A q (2 ^ m-1) (Ad ops.toList) (X.enc w)=sm:=by
  conv=>lhs;rw [<- JE m (Ad ops.toList)]
  rw [Akv,Aex hrun1 λp hp=>by have:=tk p hp;rw [ZS];simpa using this]
  refine R5 λp hp=>?_;obtain ⟨k,hk⟩:=YZ hp;rw [YH] at hk;have:=(Dp hk).1;rw [ZS];simp only [ZV];omega
 have hfull:(if 2 ^ ops.size-1<2 ^ m then SL (2 ^ ops.size-1) D (X.enc w) else S3 T K A q (2 ^ ops.size-1) (Ad ops.toList) (X.enc w))=s':=by
  have hS3:S3 T K A q (2 ^ ops.size-1) (Ad ops.toList) (X.enc w)=s':=Aex hrun λp hp=>by
   obtain ⟨j,hj⟩:=YZ hp;have:=(Dp hj).1;have hlt:=(ZD.1 hj).1;rw [ZS];simp only [QO];omega
  split
  . rename_i hlt
    have hnm:ops.size<=m:=by
     rcases ZT m ops.size with h | h
     . exfalso
       have h3:2 ^ (m+1)<=2 ^ ops.size:=YG (by omega) h
       have h4:0<2 ^ m:=Qby (by omega)
       have:2 ^ (m+1)=2*2 ^ m:=by rw [YL];omega
       omega
     . exact h
    rw [ZB (by omega)] at hrun2
    have e:sm=s':=hrun2;rw [<- e];refine a3 _ λp hp=>?_;obtain ⟨o,ho,_,_⟩:=ent p hp;have:=(ZU.1 ho).1;rw [ZS];simpa using this
  . exact hS3
 have:=Aiu (P:=P) hfol (K:=K) (id:=id) (ops:=ops) (S:=λL=>(if L<2 ^ m then SL L D (X.enc w) else S3 T K A q L (Ad ops.toList) (X.enc w)).st nt)
  (λi o hi=>(chk (i,o) (ZN (at_ i o hi))).2.1) (λL i o hbig hcl hoi hbit hdep=>?_)
 . simp only [hfull,QC (show 0<2 ^ m from Qby (by omega)),h0] at this
   exact this
 . have hmem:=ZN (at_ i o hoi);refine ⟨(chk (i,o) hmem).1,?_⟩
   have hAi:(OA.at A i).S P:=by
    unfold OA.at
    cases hl:A1 i A with
    | none=>exact ⟨(λE h=>by cases h),(λE h=>by cases h),(λE h=>by cases h)⟩
    | some a=>exact hE i a hl
   have hRV:RV.S P (A1 i q):=by
    unfold RV.S;split
    . rename_i E z hz;exact hAi.2.1 E (WT.bx hw hz)
    . trivial
   have anc0:∀ r ∈ Abi (Ad ops.toList) [],L.testBit r.1=true \/ r.1=i->∀ k,r.2.testBit k=true->L.testBit k=true:=Ahy (L:=L) (i0:=i) (l0:=Ad ops.toList) (λp hp hpi e he hbe=>by
    rcases hpi with h3 | h3
    . exact hcl p.1 p.2 h3 (opsAt p hp) e he hbe
    . have q3:=opsAt p hp;rw [h3,hoi] at q3;obtain rfl:=QA q3
      exact hdep e he hbe) (l:=Ad ops.toList) (acc:=[]) (λ_ h=>h) (λr h=>by simp at h)
   have inA:∀ j,j<ops.size->∃ mk,(j,mk) ∈ Abi (Ad ops.toList) []:=λj hj=>by
    have:∀ (l:List (Nat × Oper)) (acc:List (Nat × Nat)),((∃ p ∈ l,p.1=j) \/ ∃ mk,(j,mk) ∈ acc)->∃ mk,(j,mk) ∈ Abi l acc:=by
     intro l
     induction l with
     | nil=>intro acc h;rcases h with ⟨p,hp,_⟩ | h;simp at hp;exact h
     | cons p l ih =>
      intro acc h;obtain ⟨i1,o1⟩:=p;refine ih _ ?_;rcases h with ⟨p,hp,rfl⟩ | ⟨mk,h⟩
      . rcases QX.1 hp with rfl | hp
        . exact .inr ⟨_,YA⟩
        . exact .inl ⟨p,hp,rfl⟩
      . exact .inr ⟨mk,ZI _ h⟩
    exact this _ _ (.inl ⟨(j,ops[j]),ZN (at_ j _ (Qao hj)),rfl⟩)
   have all_:∀ j,m<=j->j<ops.size->(L.testBit j=true \/ j=i)->∀ k,k<j->L.testBit k=true:=λj hmj hj hji k hk=>by
    obtain ⟨mk,hmk⟩:=inA j hj;have:=QK.1 hsuf _ hmk;simp only [XA] at this;rcases this with h3 | h3
    . rw [XD] at h3;omega
    . exact anc0 _ hmk hji k (QK.1 h3 k (XP.2 hk))
   have hin:i<ops.size:=(ZU.1 hoi).1;rcases ZT i m with him | him
   rotate_left
   . -- one of those that wait for all
     have hLi:L=2 ^ i-1:=by
      refine KR λj=>?_;rw [ZS];rcases JZ j i with c | c | c
      . rw [all_ i him hin (.inr rfl) j c];simp [c]
      . subst c;rw [hbit];simp
      . have e : L.testBit j = false := by
         cases hb:L.testBit j with
         | false=>rfl
         | true =>
          exfalso
          have hjn:j<ops.size:=by
           rcases ZT j ops.size with h | h
           . exact h
           . rw [hbig j h] at hb;cases hb
          rw [all_ j (by omega) hjn (.inl hb) i c] at hbit;cases hbit
        rw [e];simp;omega
     have e1:L ||| 1 <<< i=2 ^ (i+1)-1:=by
      refine KR λj=>?_;rw [A46,hLi,ZS,ZS];by_cases c:j=i
      . subst c;simp
      . by_cases c2:j<i
        . have:j<i+1:=by omega
          simp [c2,this]
        . have:¬ j<i+1:=by omega
          simp [c,c2,this]
     have e2:(if L<2 ^ m then SL L D (X.enc w) else S3 T K A q L (Ad ops.toList) (X.enc w))=S3 T K A q (2 ^ i-1) (Ad ops.toList) (X.enc w):=by
      split
      . rename_i hlt
        have:i=m:=by
         rcases ZT m i with h | h
         . exfalso
           have h3:2 ^ (m+1)<=2 ^ i:=YG (by omega) h
           have h4:0<2 ^ m:=Qby (by omega)
           have:2 ^ (m+1)=2*2 ^ m:=by rw [YL];omega
           omega
         . omega
        rw [this,hpre3]
        exact hpre L λj hj=>by rw [hLi,ZS,this];simpa using hj
      . rw [hLi]
     have e3:¬ L ||| 1 <<< i<2 ^ m:=by
      rw [e1]
      have h3:2 ^ (m+1)<=2 ^ (i+1):=YG (by omega) (by omega)
      have h4:0<2 ^ m:=Qby (by omega)
      have:2 ^ (m+1)=2*2 ^ m:=by rw [YL];omega
      omega
     obtain ⟨av,b1,b2⟩:=I0.at2 (i0:=i) hrun (λk p hk=>Abz hk) (i:=i) (o:=o) (by omega) (at_ i o hoi)
     rw [e2,QB e3,e1];exact A82 hT b1 rfl b2 hAi hRV
   have hLm:L<2 ^ m:=Nat.lt_pow_two_of_testBit L λj hj=>by
    cases hb:L.testBit j with
    | false=>rfl
    | true =>
     exfalso
     have hjn:j<ops.size:=by
      rcases ZT j ops.size with h | h
      . exact h
      . rw [hbig j h] at hb;cases hb
     rw [all_ j hj hjn (.inl hb) i (by omega)] at hbit;cases hbit
   have hLm2:L ||| 1 <<< i<2 ^ m:=Nat.lt_pow_two_of_testBit _ λj hj=>by
    rw [A46,Nat.testBit_lt_two_pow (XB hLm (YG (by omega) hj))]
    have:j ≠ i:=by omega
    simp [this]
   rw [QC hLm,QC hLm2]
   have hmemt:(i,o) ∈ (Ad ops.toList).take m:=ZN (i:=i) (by rw [XM,QC him];exact at_ i o hoi)
   have hB:=QK.1 h1 (i,o) hmemt;unfold Bfl at hB;simp only [QH] at hB;obtain ⟨⟨hnm,hK⟩,hB⟩:=hB
   cases hDi:A4u i D with
   | none=>rw [hDi] at hB;cases hB
   | some Di =>
   rw [hDi] at hB;simp only [QH] at hB;obtain ⟨hsep,hnew⟩:=hB;obtain ⟨d0,hm⟩:=Aih hDi;obtain ⟨o',ho',hd0,_⟩:=ent _ hm;simp only at ho' hd0;rw [hoi] at ho';obtain rfl:=QA ho';subst hd0;obtain ⟨g1,g2,g3⟩:=a2 _ hm;simp only at g1 g2 g3
   have nodep:∀ p ∈ D,L.testBit p.1=true->∀ o',A1 p.1 ((Ad ops.toList).take m)=some o'->Zr o' i=false:=λp hp hb o' ho'=>by
    obtain ⟨o2,ho2,_,hlt⟩:=ent p hp;rw [lk _ _ hlt ho2] at ho';obtain rfl:=QA ho'
    cases hd:Zr o2 i with
    | false=>rfl
    | true =>
     obtain ⟨e,he,hbe,rfl⟩:=Ahq hd;rw [hcl p.1 o2 hb ho2 e he hbe] at hbit;cases hbit
   have depL:∀ j,Zr o j=true->L.testBit j=true:=λj hd=>by
    obtain ⟨e,he,hbe,rfl⟩:=Ahq hd;exact hdep e he hbe
   obtain ⟨mm,hm1,hm2⟩:=An5 L (A3z D)
   have inE:∀ x,(A3z D).any (Nat.beq x)=true ↔ x ∈ A3z D:=λx=>by
    constructor
    . intro h;obtain ⟨y,hy,e⟩:=ZL.1 h;exact QD e ▸ hy
    . intro h;exact ZL.2 ⟨x,h,YC x⟩
   have hmask:mm ∈ Azf ((Ad ops.toList).take m) D (i,o):=by
    refine Qan.2 ⟨hm1,?_⟩;simp only [QH];refine ⟨?_,?_⟩
    . rw [hm2,hbit];simp
    . refine QK.2 λr hr=>?_
      have anc:=Ahy (L:=L) (i0:=i) (l0:=(Ad ops.toList).take m) (λp hp hpi e he hbe=>by
       have q3:=opsAt p (Qbm hp);rcases hpi with h3 | h3
       . exact hcl p.1 p.2 h3 q3 e he hbe
       . rw [h3,hoi] at q3;obtain rfl:=QA q3
         exact hdep e he hbe) (l:=(Ad ops.toList).take m) (acc:=[]) (λ_ h=>h) (λr h=>by simp at h) r hr
      have mL:mm.testBit r.1=true->L.testBit r.1=true:=λh3=>by
       rw [hm2] at h3;simp only [QH] at h3;exact h3.2
      simp only [QH];refine ⟨?_,?_⟩
      . cases hmr:mm.testBit r.1 with
        | false=>rfl
        | true =>
         cases hd:r.2.testBit i with
         | false=>rfl
         | true=>rw [anc (.inl (mL hmr)) i hd] at hbit;cases hbit
      . cases hmr:(Nat.beq r.1 i || mm.testBit r.1) with
        | false=>rfl
        | true =>
         rw [ZJ,YJ];refine QK.2 λk hk=>?_
         cases hd:r.2.testBit k with
         | false=>rfl
         | true =>
          have hri:L.testBit r.1=true \/ r.1=i:=by
           simp only [XA] at hmr;rcases hmr with h3 | h3
           . exact .inr (QD h3)
           . exact .inl (mL h3)
          rw [hm2,anc hri k hd,(inE k).2 hk];rfl
   have e1:=Qbb.1 h2 (i,o) hmemt;have e2:=Qbb.1 e1 mm hmask;simp only [hDi,Bq3] at e2
   have hbx:(SL L D (X.enc w)).boxes=(SL mm D (X.enc w)).boxes:=At9 rfl λp hp he=>by
    rw [hm2,(inE p.1).2 (ZK.2 ⟨p,Qan.2 ⟨hp,he⟩,rfl⟩),ZZ]
   have heff:V6 T (OA.at A i) (A1 i q) o (SL L D (X.enc w))=some (Di.g,Di.av,Di.x,Di.e):=by
    unfold Av9 at hnm
    cases hq:Lg o with
    | none=>rw [hq] at hnm;cases hnm
    | some xs =>
     rw [hq] at hnm;simp only at hnm;rw [<- e2];refine B2n hq (λx hx=>Bal λt ht=>?_) hbx;refine Ayc rfl λp hp hpt=>?_;have:=QK.1 (QK.1 hnm x hx) p hp;rw [ht,hpt] at this;simp only [eqO,YC,ZJ,YJ,QH] at this;rw [depL p.1 this.1,ZS]
     have h3:p.1<i:=by simpa [XD] using this.2
     simp [h3]
   have hstep:=B3h (K:=K) heff (λt ht=>by rw [ht] at hK;exact hK) g3 (λb k hb hk=>by
    rw [hb,hk] at hnew;simp only [QH] at hnew;obtain ⟨⟨⟨n1,n2⟩,n3⟩,n4⟩:=hnew
    have key:∀ p ∈ D,L.testBit p.1=true->hdl p.2.1 p.2.2.e ≠ some k/\p.2.2.x.men k=false/\Ao2 k p.2.2.e=false:=λp hp hpb=>by
     have:=QK.1 n4 p hp;simp only [XA] at this;rcases this with (h3 | h3) | h3
     . rw [QD h3,hbit] at hpb;cases hpb
     . simp only [QH,XH] at h3;exact ⟨A3x h3.1.1 k rfl,h3.1.2,h3.2⟩
     . exfalso;split at h3
       . rename_i o2 ho2;rw [nodep p hp hpb o2 ho2] at h3;cases h3
       . cases h3
    refine ⟨?_,n2,At8 n3 λp hp hpb=>(key p hp hpb).2⟩
    rw [At6 (by simpa using n1) λp hp hpb=>(key p hp hpb).1];rfl)
   have hadd:SL (L ||| 1 <<< i) D (X.enc w)=Ih o.dst Di (SL L D (X.enc w)):=Bae hnd hm hbit λp hp hlt hpb=>by
    have:=QK.1 hsep p hp;simp only [XA] at this;rcases this with h3 | h3
    . have:=QD h3;omega
    . simp only [QH,XH,XA] at h3;refine ⟨A3x h3.1,?_⟩;rcases h3.2 with h4 | h4
      . exact A3x h4
      . exfalso;obtain ⟨o2,ho2,_,hlt2⟩:=ent p hp;rw [lk _ _ hlt2 ho2] at h4;simp only [XA] at h4;rcases h4 with h4 | h4
        . rw [nodep p hp hpb o2 (lk _ _ hlt2 ho2)] at h4;cases h4
        . obtain ⟨e,he,hbe,h5⟩:=Ahq h4;have:=(chk (i,o) hmem).2.1 e he hbe;simp only at this;omega
   have e5:(⟨Di.g,Di.av,Di.x,Di.e⟩:Dat)=Di:=rfl;rw [e5,<- hadd,g1] at hstep;exact A82 hT hstep rfl g2 hAi hRV
end Go.Ev

/- DERIVED. Regions that draw their order: both checks. -/
namespace Go.Ev
open Go
variable {P:Program} {T:Ty} {α:Type}
def Ah (T:Ty) (K:Aj) (A:List (Nat × OA)) (X:Tm) (ops:Array Oper):Prop :=
 B55 A (Ad ops.toList)=true /\ ∀ w q,WT A (Ad ops.toList) q->K7 T K A (Ad ops.toList) (X.enc w) q \/ Aye T K A (Ad ops.toList) (X.enc w) q
theorem Bmi (hT:B8 P T) (hfol:P.follows .mixedOrders=true) {K:Aj} {A:List (Nat × OA)} {X:Tm} {id:Nat} {ops:Array Oper} {nt:Nat} (hE:∀ i a,A1 i A=some a->a.S P) (hF:Ah T K A X ops) {w:X.den} {k:St3->Option α} {r:α}
  (h:Kc T K ops.toList A (Ad ops.toList) (X.enc w) k=some r):∃ s',Code.Den P K (.region id ops true) ((X.enc w).st nt) .normal (s'.st nt)/\k s'=some r:=by
 obtain ⟨hchk,hfam⟩:=hF
 have chk:∀ p ∈ Ad ops.toList,p.2.guard=none/\(∀ e ∈ p.2.after,Region.binds .any e=true->e.on<p.1)/\(OA.at A p.1).two=false:=λp hp=>by
  have:=QK.1 hchk p hp;simp only [QH] at this;obtain ⟨⟨h1,h2⟩,h3⟩:=this
  refine ⟨?_,λe he hb=>?_,by cases hx:(OA.at A p.1).two with | false=>rfl | true=>rw [hx] at h3;cases h3⟩
  . cases hg:p.2.guard with
    | none=>rfl
    | some _=>rw [hg] at h1;cases h1
  . have:=QK.1 h2 e (by simpa using he)
    rw [hb] at this;simpa [XD] using this
 have hnod:((Ad ops.toList).map (·.1)).Nodup:=by
  have:(Ad ops.toList).map (·.1)=List.range ops.toList.length:=by
   apply JY;intro j;simp only [Ad,XC,QQ,YY];by_cases hj:j<ops.toList.length
   . simp at hj;simp [hj]
   . simp at hj;simp [hj]
  rw [this];exact Qbf
 obtain ⟨q,s',hw,hk,hrun⟩:=Ac6 _ _ _ _ hnod (λp hp=>(chk p hp).1) (λp hp=>(chk p hp).2.2) h;refine ⟨s',?_,hk⟩;rcases hfam w q hw with hfam | hlite
 rotate_left
 . exact Bc2 hT hfol hE hchk hw hlite hrun
 have hsz:(Ad ops.toList).length=ops.size:=by simp [Ad]
 have at_:∀ (i:Nat) (o:Oper),ops[i]? = some o->(Ad ops.toList)[i]? = some (i,o):=λi o hi=>by
  obtain ⟨h1,h2⟩:=ZU.1 hi;simp [Ad,YY,h1,h2]
 have h0:S3 T K A q 0 (Ad ops.toList) (X.enc w)=X.enc w:=R5 λp _=>by simp
 have hfull:S3 T K A q (2 ^ ops.size-1) (Ad ops.toList) (X.enc w)=s':=Aex hrun λp hp=>by
  obtain ⟨j,hj⟩:=YZ hp;have:=(Dp hj).1;have hlt:=(ZD.1 hj).1;rw [ZS];simp only [QO];omega
 have:=Aiu (P:=P) hfol (K:=K) (id:=id) (ops:=ops) (S:=λL=>(S3 T K A q L (Ad ops.toList) (X.enc w)).st nt)
  (λi o hi=>(chk (i,o) (ZN (at_ i o hi))).2.1) (λL i o hbig hcl hoi hbit hdep=>?_)
 . simp only [h0,hfull] at this;exact this
 . have hmem:=ZN (at_ i o hoi);refine ⟨(chk (i,o) hmem).1,?_⟩
   have hLd:L ∈ Qc (Ad ops.toList) [0]:=by
    have:=Aif (L:=L) (Ad ops.toList) 0 [0] (λk p hk=>?_) (by simp [Nat.mod_one])
    . have e : L % 2 ^ (0 + (Ad ops.toList).length) = L := by
       refine KR λj=>?_;rw [KG,hsz,YI];by_cases hj:j<ops.size
       . simp [hj]
       . rw [hbig j (by omega)];simp
      rw [e] at this;exact this
    . obtain ⟨h1,h2⟩:=Dp hk
      refine ⟨by omega,(chk p (ZN hk)).2.1,λhb e he hbe=>hcl p.1 p.2 hb ?_ e he hbe⟩
      rw [h1];simpa using h2
   have hrd:(i,o) ∈ rdy (Ad ops.toList) L:=by
    refine Qan.2 ⟨hmem,?_⟩;simp only [hbit,ZW,ZZ];unfold Ael;refine QK.2 λe he=>?_
    cases hbe:Region.binds .any e with
    | false=>rfl
    | true=>simpa using hdep e (by simpa using he) hbe
   have e1:=Qbb.1 hfam L hLd;have e2:=Qbb.1 e1 (i,o) hrd
   obtain ⟨av,s1,b1,b2⟩:=I0.at (i0:=i) hrun (λk p hk=>Abz hk) (i:=i) (o:=o) (by omega) (at_ i o hoi)
   simp only [b1,QV] at e2
   have hAi:(OA.at A i).S P:=by
    unfold OA.at
    cases hl:A1 i A with
    | none=>exact ⟨(λE h=>by cases h),(λE h=>by cases h),(λE h=>by cases h)⟩
    | some a=>exact hE i a hl
   refine A82 hT e2 rfl b2 hAi ?_;unfold RV.S;split
   . rename_i E z hz;exact hAi.2.1 E (WT.bx hw hz)
   . trivial
end Go.Ev

/- DERIVED. Code, loops and functions over shapes. -/
namespace Go.Ev
open Go
variable {P:Program} {T:Ty} {α:Type}
def LO.Sound (P:Program) (K:Aj) (L:LO α) (c:Code):Prop :=
 ∀ (nt:Nat) (v:L.H.den) (k:Exit->St3->Option α) (r:α),L.run v (Ru k L.outs)=some r->∃ x s',(Code.Den P K c ((L.H.enc v).st nt) x (s'.st nt) /\ ∀ c',c = .loop c'->Hr P K c' ((L.H.enc v).st nt) x (s'.st nt))/\k x s'=some r
def Bls:Code->Array Oper
 | .region _ ops _=>ops
 | _=>#[]
structure D3.OK (P:Program) (T:Ty) (K:Aj) (D:D3 α) (c:Code):Prop where
 ent:∀ id A,A1 id D.reg=some A->∀ i a,A1 i A.ops=some a->a.S P
 loop:∀ p ∈ A9 c,∀ L,A1 p.1 D.loop=some L->L.Sound P K p.2
 any:∀ p ∈ Ax c,∀ X ∈ A07 p.1 D.any,Ah T K ((A1 p.1 D.reg).getD {}).ops X p.2
def Dm:List (Nat × OA)->List (Ent ⊕ Ent3)
 | []=>[]
 | (_,a)::r=>a.alt.map .inr++match a.ent with
  | some E=>.inl E::(match a.entB with
   | some F=>.inr F::Dm r
   | none=>Dm r)
  | none=>match a.entB with
   | some E=>.inr E::Dm r
   | none=>Dm r
def Ae:List (Nat × RA)->List (Ent ⊕ Ent3)
 | []=>[]
 | (_,A)::r=>Dm A.ops++Ae r
def Bsm (P:Program):Ent ⊕ Ent3->Prop
 | .inl E=>E.Sound P
 | .inr E=>E.Sound P
def Ap (P:Program):List (Ent ⊕ Ent3)->Prop
 | []=>True
 | .inl E::r=>E.Sound P/\Ap P r
 | .inr E::r=>E.Sound P/\Ap P r
def Ai2 (P:Program) (K:Aj) (D:D3 α):List (Nat × Code)->Prop
 | []=>True
 | p::r=>(∀ L,A1 p.1 D.loop=some L->L.Sound P K p.2)/\Ai2 P K D r
theorem Ap.mem:∀ {l:List (Ent ⊕ Ent3)},Ap P l->∀ E ∈ l,Bsm P E
 | [],_,E,h=>by cases h
 | .inl F::r,hs,E,h=>by
  rcases QX.1 h with rfl | h
  . exact hs.1
  . exact Ap.mem hs.2 E h
 | .inr F::r,hs,E,h=>by
  rcases QX.1 h with rfl | h
  . exact hs.1
  . exact Ap.mem hs.2 E h
theorem Ai2.mem {K:Aj} {D:D3 α}:∀ {l:List (Nat × Code)},Ai2 P K D l->∀ p ∈ l,∀ L,A1 p.1 D.loop=some L->L.Sound P K p.2
 | [],_,p,h=>by cases h
 | q::r,hs,p,h=>by
  rcases QX.1 h with rfl | h
  . exact hs.1
  . exact Ai2.mem hs.2 p h
theorem Fy:∀ {l:List (Nat × OA)} {i:Nat} {a:OA},A1 i l=some a->(∀ E,a.ent=some E->Sum.inl E ∈ Dm l)/\(∀ E,a.entB=some E->Sum.inr E ∈ Dm l) /\ ∀ E,E ∈ a.alt->Sum.inr E ∈ Dm l
 | [],_,_,h=>by cases h
 | (j,b)::r,i,a,h=>by
  simp only [A1] at h
  cases hb:Nat.beq j i with
  | true =>
   rw [hb] at h;obtain rfl:=QA h
   refine ⟨λE he=>?_,λE he=>?_,λE he=>by simp only [Dm];exact QG.2 (.inl (ZK.2 ⟨E,he,rfl⟩))⟩
   . simp only [Dm,he];exact QG.2 (.inr YA)
   . simp only [Dm];refine QG.2 (.inr ?_)
     cases b.ent with
     | some F=>simp only [he];exact ZI _ YA
     | none=>simp only [he];exact YA
  | false =>
   rw [hb] at h;have:=Fy h
   have up:∀ x,x ∈ Dm r->x ∈ Dm ((j,b)::r):=by
    intro x hx;simp only [Dm];refine QG.2 (.inr ?_);split
    . split
      . exact ZI _ (ZI _ hx)
      . exact ZI _ hx
    . split
      . exact ZI _ hx
      . exact hx
   exact ⟨λE he=>up _ (this.1 E he),λE he=>up _ (this.2.1 E he),λE he=>up _ (this.2.2 E he)⟩
theorem Gz:∀ {l:List (Nat × RA)} {id:Nat} {A:RA} {E:Ent ⊕ Ent3},A1 id l=some A->E ∈ Dm A.ops->E ∈ Ae l
 | [],_,_,_,h,_=>by cases h
 | (j,B)::r,id,A,E,h,he=>by
  simp only [A1] at h;simp only [Ae,QG]
  cases hb:Nat.beq j id with
  | true =>
   rw [hb] at h;obtain rfl:=QA h;exact .inl he
  | false =>
   rw [hb] at h;exact .inr (Gz h he)
def Ate (f:Tm->Prop):List Tm->Prop
 | []=>True
 | X::r=>f X/\Ate f r
theorem Ate.mem {f:Tm->Prop}:∀ {l:List Tm},Ate f l->∀ X ∈ l,f X
 | [],_,X,hX=>by cases hX
 | Y::r,h,X,hX=>by
  rcases QX.1 hX with rfl | hX
  . exact h.1
  . exact Ate.mem h.2 X hX
def Atf (T:Ty) (K:Aj) (D:D3 α):List (Nat × Array Oper)->Prop
 | []=>True
 | p::r=>Ate (λX=>Ah T K ((A1 p.1 D.reg).getD {}).ops X p.2) (A07 p.1 D.any)/\Atf T K D r
theorem Atf.mem {K:Aj} {D:D3 α}:∀ {l:List (Nat × Array Oper)},Atf T K D l->∀ p ∈ l,∀ X ∈ A07 p.1 D.any,Ah T K ((A1 p.1 D.reg).getD {}).ops X p.2
 | [],_,p,hp=>by cases hp
 | q::r,h,p,hp=>by
  rcases QX.1 hp with rfl | hp
  . exact h.1.mem
  . exact Atf.mem h.2 p hp
theorem D3.OK.mk3a {K:Aj} {D:D3 α} {c:Code} {ls:List (Nat × Code)} {as:List (Nat × Array Oper)} (he:Ap P (Ae D.reg)) (hl:A9 c=ls) (h:Ai2 P K D ls) (ha:Ax c=as) (h':Atf T K D as):D3.OK P T K D c :=
 ⟨λ_ _ hA _ _ ha'=>⟨λE hE=>he.mem (.inl E) (Gz hA ((Fy ha').1 E hE)),λE hE=>he.mem (.inr E) (Gz hA ((Fy ha').2.1 E hE)),λE hE=>he.mem (.inr E) (Gz hA ((Fy ha').2.2 E hE))⟩,λp hp=>h.mem p (by rw [<- hl];exact hp),λp hp=>h'.mem p (by rw [<- ha];exact hp)⟩
theorem D3.OK.mk3 {K:Aj} {D:D3 α} {c:Code} {ls:List (Nat × Code)} (he:Ap P (Ae D.reg)) (hl:A9 c=ls) (h:Ai2 P K D ls) (ha:D.any=[]:=by rfl):D3.OK P T K D c :=
 ⟨λ_ _ hA _ _ ha'=>⟨λE hE=>he.mem (.inl E) (Gz hA ((Fy ha').1 E hE)),λE hE=>he.mem (.inr E) (Gz hA ((Fy ha').2.1 E hE)),λE hE=>he.mem (.inr E) (Gz hA ((Fy ha').2.2 E hE))⟩,λp hp=>h.mem p (by rw [<- hl];exact hp),λp _ X hX=>by rw [ha] at hX;cases hX⟩
theorem Aa {K:Aj} {i:Nat} {l:List (Nat × LO α)} {L0:LO α} {c:Code} (h:A1 i l=some L0) (hs:L0.Sound P K c):∀ L,A1 i l=some L->L.Sound P K c:=λL hL=>by
 rw [h] at hL;obtain rfl:=QA hL;exact hs
theorem Den.weakT {K:Aj} {c:Code} {s:St} {s1:St3} {x:Exit} {X:Tm} {w:X.den} {nt:Nat} (h:Code.Den P K c s x (s1.st nt)) (hd:X.dec s1=some w):Code.Den P K c s x ((X.enc w).st nt) :=
 Den.weak h λ_ _ _ _ hs=>Tm.dec_ok hd hs
theorem Den.weakIn {K:Aj} {c:Code} {s:St3} {s':St} {x:Exit} {X:Tm} {w:X.den} {nt:Nat} (h:Code.Den P K c ((X.enc w).st nt) x s') (hd:X.dec s=some w):Code.Den P K c (s.st nt) x s':=by
 intro Γ wd E a ro n hK hdef hs;obtain ⟨E',hs'⟩:=Tm.dec_ok hd hs;exact h Γ wd E' a ro n hK hdef hs'
theorem D3.OK.left {K:Aj} {D:D3 α} {c d:Code} (h:D3.OK P T K D (.seq c d)):D3.OK P T K D c:=⟨h.ent,λp hp=>h.loop p (QG.2 (.inl hp)),λp hp=>h.any p (QG.2 (.inl hp))⟩
theorem D3.OK.right {K:Aj} {D:D3 α} {c d:Code} (h:D3.OK P T K D (.seq c d)):D3.OK P T K D d:=⟨h.ent,λp hp=>h.loop p (QG.2 (.inr hp)),λp hp=>h.any p (QG.2 (.inr hp))⟩
theorem Th (hT:B8 P T) (hfol:P.follows .mixedOrders=true) {K:Aj} {D:D3 α} {nt:Nat}:∀ (c:Code) (s:St3) (k:Exit->St3->Option α) (r:α),D3.OK P T K D c->C5 P T K D c s k=some r ->
  ∃ x s',Code.Den P K c (s.st nt) x (s'.st nt)/\k x s'=some r:=by
 intro c
 induction c with
 | skip=>intro s k r _ h;exact ⟨.normal,s,Den.skip,h⟩
 | region id ops draw =>
  intro s k r hD h;simp only [C5] at h
  have hEnt:∀ i a,A1 i ((A1 id D.reg).getD {}).ops=some a->a.S P:=λi a hi=>by
   cases hl:A1 id D.reg with
   | none=>rw [hl] at hi;cases hi
   | some A=>rw [hl] at hi;exact hD.ent id A hl i a hi
  cases hA:A07 id D.any with
  | nil =>
   rw [hA] at h;obtain ⟨s',h1,h2⟩:=Bgw (id:=id) (nt:=nt) hT hfol hEnt h;exact ⟨.normal,s',h1,h2⟩
  | cons X0 r0 =>
   rw [hA] at h
   cases draw with
   | false=>cases h
   | true =>
    simp only [cond] at h
    have key:∀ l:List Tm,(∀ X ∈ l,Ah T K ((A1 id D.reg).getD {}).ops X ops)->Aly s (λX w=>Kc T K ops.toList ((A1 id D.reg).getD {}).ops (Ad ops.toList) (X.enc w) (k .normal)) l=some r->∃ x s',Code.Den P K (.region id ops true) (s.st nt) x (s'.st nt)/\k x s'=some r:=by
     intro l
     induction l with
     | nil=>intro _ h;cases h
     | cons X l ih =>
      intro hl h;simp only [Aly] at h;split at h
      . rename_i w hw
        obtain ⟨s',h1,h2⟩:=Bmi (id:=id) (nt:=nt) hT hfol hEnt (hl X (by simp)) h
        exact ⟨.normal,s',Den.weakIn h1 hw,h2⟩
      . exact ih (λY hY=>hl Y (by simp [hY])) h
    exact key _ (λX hX=>hD.any (id,ops) (by simp [Ax]) X (by rw [hA];exact hX)) h
 | seq c d ihc ihd =>
  intro s k r hD h;simp only [C5] at h;split at h
  . obtain ⟨x,s1,h1,h2⟩:=ihc _ _ _ hD.left h
    cases x with
    | normal =>
     obtain ⟨y,s2,h3,h4⟩:=ihd _ _ _ hD.right h2;exact ⟨y,s2,Den.seq h1 h3,h4⟩
    | _=>exact ⟨_,s1,Den.seqX (by simp) h1,h2⟩
  . rename_i X hX;obtain ⟨x,s1,h1,h2⟩:=ihc _ _ _ hD.left h
    cases x with
    | normal =>
     simp only at h2;split at h2
     . rename_i w hw;obtain ⟨y,s2,h3,h4⟩:=ihd _ _ _ hD.right h2;exact ⟨y,s2,Den.seq (Den.weakT h1 hw) h3,h4⟩
     . cases h2
    | _=>exact ⟨_,s1,Den.seqX (by simp) h1,h2⟩
 | cond c a b iha ihb =>
  intro s k r hD h
  cases c with
  | tmp t =>
   simp only [C5] at h;split at h
   . rename_i y hl;have hl':=Aid (nt:=nt) hl
     cases y with
     | true =>
      simp only [cond] at h;obtain ⟨x,s',h1,h2⟩:=iha _ _ _ (D3.OK.left (d:=b) ⟨hD.ent,hD.loop,hD.any⟩) h;rw [Mm hl] at h1;exact ⟨x,s',Den.cond (b:=true) rfl hl' h1,h2⟩
     | false =>
      simp only [cond] at h;obtain ⟨x,s',h1,h2⟩:=ihb _ _ _ (D3.OK.right (c:=a) ⟨hD.ent,hD.loop,hD.any⟩) h;rw [Mm hl] at h1;exact ⟨x,s',Den.cond (b:=false) rfl hl' h1,h2⟩
   . cases h
  | const=>simp [C5] at h
  | global=>simp [C5] at h
  | func=>simp [C5] at h
 | block id c ih =>
  intro s k r hD h;simp only [C5] at h;obtain ⟨x,s',h1,h2⟩:=ih _ _ _ ⟨hD.ent,hD.loop,hD.any⟩ h
  cases x with
  | exit j =>
   simp only at h2
   cases hb:Nat.beq j id with
   | true =>
    rw [hb] at h2;obtain rfl:=QD hb;exact ⟨.normal,s',Den.blockX h1,h2⟩
   | false =>
    rw [hb] at h2
    exact ⟨.exit j,s',Den.block h1 (by intro e;injection e with e;subst e;simp at hb),h2⟩
  | _=>exact ⟨_,s',Den.block h1 (by simp),h2⟩
 | loop c ih =>
  intro s k r hD h;simp only [C5] at h;split at h
  . rename_i L hL;split at h
    . rename_i v hv;obtain ⟨x,s',⟨h1,_⟩,h2⟩:=hD.loop _ (QU.2 rfl) L hL nt v k r h;exact ⟨x,s',Den.weakIn h1 hv,h2⟩
    . cases hp:(A9 c).isEmpty with
      | false=>rw [hp] at h;cases h
      | true =>
        rw [hp] at h;simp only [cond] at h
        have hDc:D3.OK P T K D c:=⟨hD.ent,λp hm=>(by rw [YU.1 hp] at hm;cases hm),λp hm=>hD.any p hm⟩
        obtain ⟨x,s1,h1,h2⟩:=ih _ _ _ hDc h
        cases x with
        | normal =>
         simp only at h2;split at h2
         . rename_i v hv;obtain ⟨y,s',⟨_,h3⟩,h4⟩:=hD.loop _ (QU.2 rfl) L hL nt v k r h2;exact ⟨y,s',Den.loop (.round (Den.weakT h1 hv) (h3 c rfl)),h4⟩
         . cases h2
        | _=>exact ⟨_,s1,Den.loop (.last (by simp) h1),h2⟩
  . cases h
 | rangeFunc f ps a b _ _ =>
  intro s k r hD h;simp only [C5] at h;split at h
  . rename_i L hL;split at h
    . rename_i v hv;obtain ⟨x,s',⟨h1,_⟩,h2⟩:=hD.loop _ (QU.2 rfl) L hL nt v k r h;exact ⟨x,s',Den.weakIn h1 hv,h2⟩
    . cases h
  . cases h
 | exit id=>intro s k r _ h;exact ⟨.exit id,s,Den.exit,h⟩
 | ret=>intro s k r _ h;exact ⟨.ret,s,Den.ret,h⟩
 | scope c _=>intro s k r _ h;simp [C5] at h
 | label l=>intro s k r _ h;simp [C5] at h
 | goto l=>intro s k r _ h;simp [C5] at h
 | refuse w=>intro s k r _ h;simp [C5] at h
theorem Xv {k:Exit->St3->Option α} {y:Exit} {s:St3} {r:α}:∀ {l:List (Exit × Tm)},Q2 l (Ru k l) y s=some r->∃ (X:Tm) (w:X.den),X.dec s=some w/\k y (X.enc w)=some r
 | [],h=>by cases h
 | (x,X)::l,h=>by
  simp only [Q2] at h
  cases hb:Exit.eqb x y with
  | true =>
   rw [hb] at h;obtain rfl:=Exit.eqb_eq hb;simp only [cond] at h;split at h
   . rename_i w hw;exact ⟨X,w,hw,h⟩
   . cases h
  | false =>
   rw [hb] at h;exact Xv h
theorem Bh4 (hT:B8 P T) (hfol:P.follows .mixedOrders=true) {K:Aj} {D:D3 α} {c:Code} {H:Tm} {outs:List (Exit × Tm)} (B:H.den->(H.den->Option α)->KS α outs->Option α) (hD:D3.OK P T K D c)
  (hB:∀ v f ks,C5 P T K D c (H.enc v) (Aet H outs f ks)=B v f ks) (n:Nat):(⟨H,outs,A4 B n⟩:LO α).Sound P K (.loop c):=by
 intro nt v k r h
 have key:∀ (n:Nat) (v:H.den),A4 B n v (Ru k outs)=some r->∃ x s',Hr P K c ((H.enc v).st nt) x (s'.st nt)/\k x s'=some r:=by
  intro n
  induction n with
  | zero=>intro v h;cases h
  | succ n ih =>
   intro v h;simp only [A4] at h;rw [<- hB] at h;obtain ⟨x,s1,h1,h2⟩:=Th hT hfol (nt:=nt) _ _ _ _ hD h
   have out:∀ x,x ≠ .normal->Code.Den P K c ((H.enc v).st nt) x (s1.st nt)->Q2 outs (Ru k outs) x s1=some r->∃ x s',Hr P K c ((H.enc v).st nt) x (s'.st nt)/\k x s'=some r:=by
    intro x hx hd hp;obtain ⟨X,w,hw,hk⟩:=Xv hp;exact ⟨x,X.enc w,.last hx (Den.weakT hd hw),hk⟩
   cases x with
   | normal =>
    simp only [Aet] at h2;split at h2
    . rename_i v' hv;obtain ⟨y,s2,h3,h4⟩:=ih v' h2;exact ⟨y,s2,.round (Den.weakT h1 hv) h3,h4⟩
    . cases h2
   | _=>exact out _ (by simp) h1 h2
 obtain ⟨x,s',h1,h2⟩:=key n v h
 exact ⟨x,s',⟨Den.loop h1,λc' e=>by cases e;exact h1⟩,h2⟩
theorem A84 {s:St3} {nt:Nat} {rv:ResultVar} {v:SV} (h:Afj T s rv=some v) (hs:v.s (A5 s.boxes) = .v (v.v (A5 s.boxes))):∃ obs,Rk T (s.st nt) rv=some (v.v (A5 s.boxes),obs) /\ ∀ p ∈ obs,p:=by
 unfold Afj at h;split at h
 . rename_i t
   refine ⟨[],?_,by simp⟩
   simp only [Rk,St3.st,Au,h,QV,hs]
 . rename_i a ty;split at h
   . rename_i hh row col ha;split at h
     . rename_i e hf fz cs hl;split at h
       . rename_i r hr;obtain rfl:=QA h;have hv:(s.st nt).val (.tmp a) = .v (.one (.hp hh row col)):=Ci ha rfl;unfold A4w at hr;split at hr
         . cases hr
         . rename_i ti hti;simp only [hl] at hr
           cases hb:(Nat.beq row 0&&Nat.ble (col+ti.size) cs.length&&cs.all SV.cellB) with
           | false=>rw [hb] at hr;cases hr
           | true =>
            rw [hb] at hr;simp only [QH] at hb;obtain rfl:=QD hb.1.1;simp only [cond,QI] at hr;obtain ⟨z,hz,rfl⟩:=hr;obtain ⟨h1,h2⟩:=Jk (L:=A5 s.boxes) hz (A08 _ hb.2);rw [KM] at h1
            have hbx:(s.st nt).box hh=some ((B3.var e hf fz cs).box (A5 s.boxes)):=by
             show A1 hh (Am (B3.box (A5 s.boxes)) s.boxes)=_;rw [Ch,hl];rfl
            refine ⟨[],?_,by simp⟩
            simp only [Rk,hv,Jy,hti,hbx,B3.box,ZA,hb.1.2,ZW,XR,ZO,cond,h1,XY]
       . cases h
     . cases h
   . cases h
theorem Av2 {s:St3} {nt:Nat} {rv:ResultVar} {v:SV} {t:Sh} {q} (h:Afj T s rv=some v) (hc:A41 s.boxes t v=some (true,q)):∃ obs,Rk T (s.st nt) rv=some (v.v (A5 s.boxes),obs) /\ ∀ p ∈ obs,p:=by
 obtain ⟨x,ks⟩:=q;exact A84 h (Up hc rfl).1
theorem Bh0 {s:St3} {nt:Nat} {t:Sh} {rv:ResultVar} {g:Bool} {x:t.den} {ks:List Nat} (h:A1u T s rv t=some (g,x,ks)) (hg:g=true) :
  ∃ obs,Lf T (s.st nt) rv (some (t.v x))=some (t.v x,obs,ks)/\(∀ p ∈ obs,p) /\ ∀ k ∈ ks,k<1000/\(A1 k s.boxes).isSome=true:=by
 subst hg;unfold A1u at h;split at h
 . rename_i v hv;obtain ⟨obs,h1,h2⟩:=Av2 (nt:=nt) hv h;obtain ⟨_,⟨ob,h3,h4⟩,h5⟩:=Up h rfl;have h3':M3 (s.st nt).box (v.v (A5 s.boxes)) (t.v x)=some (ob,ks):=h3;refine ⟨obs++ob,?_,λp hp=>?_,h5⟩
   . simp only [Lf,h1,h3']
   . rcases QG.1 hp with hp | hp
     . exact h2 p hp
     . exact h4 p hp
 . cases h
theorem Bay {s:St3} {nt:Nat}:∀ {ts:List Sh} {rvs:List ResultVar} {x:HL ts} {g:Bool},Le T s ts rvs=some (g,x)->g=true ->
  ∃ obs ks,Fh T (s.st nt) rvs ((Bl ts x).map some)=some (Bl ts x,obs,ks)/\(∀ p ∈ obs,p) /\ ∀ k ∈ ks,k<1000/\(A1 k s.boxes).isSome=true:=by
 have one:∀ {t:Sh} {rv:ResultVar} {g:Bool} {x:t.den} {ks:List Nat},A1u T s rv t=some (g,x,ks)->g=true ->
   ∃ obs,Lf T (s.st nt) rv (some (t.v x))=some (t.v x,obs,ks)/\(∀ p ∈ obs,p) /\ ∀ k ∈ ks,k<1000/\(A1 k s.boxes).isSome=true:=by
  intro t rv g x ks h hg;subst hg;unfold A1u at h;split at h
  . rename_i v hv;obtain ⟨obs,h1,h2⟩:=Av2 (nt:=nt) hv h;obtain ⟨_,⟨ob,h3,h4⟩,h5⟩:=Up h rfl;have h3':M3 (s.st nt).box (v.v (A5 s.boxes)) (t.v x)=some (ob,ks):=h3;refine ⟨obs++ob,?_,λp hp=>?_,h5⟩
    . simp only [Lf,h1,h3']
    . rcases QG.1 hp with hp | hp
      . exact h2 p hp
      . exact h4 p hp
  . cases h
 intro ts
 induction ts with
 | nil =>
  intro rvs x g h hg
  cases rvs with
  | nil=>exact ⟨[],[],rfl,by simp,by simp⟩
  | cons=>simp [Le] at h
 | cons t ts ih =>
  intro rvs x g h hg
  cases ts with
  | nil =>
   cases rvs with
   | nil=>simp [Le] at h
   | cons rv rvs =>
    cases rvs with
    | nil =>
     simp only [Le] at h;split at h
     . rename_i g1 y ks h1;simp only [QF,QL] at h;obtain ⟨rfl,rfl⟩:=h;obtain ⟨obs,o1,o2,o3⟩:=one h1 hg
       refine ⟨obs++[],ks++[],?_,by simpa using o2,by simpa using o3⟩
       simp only [Bl,QT,XN,Fh,Qbn,o1]
     . cases h
    | cons=>simp [Le] at h
  | cons u r =>
   cases rvs with
   | nil=>simp [Le] at h
   | cons rv rvs =>
    simp only [Le] at h;split at h
    . rename_i g1 y ks g2 ys h1 h2;simp only [QF,QL] at h;obtain ⟨rfl,rfl⟩:=h;simp only [QH] at hg;obtain ⟨obs,o1,o2,o3⟩:=one h1 hg.1;obtain ⟨obs',ks',p1,p2,p3⟩:=ih h2 hg.2;refine ⟨obs++obs',ks++ks',?_,λp hp=>?_,λk hk=>?_⟩
      . simp only [Bl,QT,Fh,Qbn,List.tail_cons,o1];have:Fh T (s.st nt) rvs ((Bl (u::r) ys).map some)=_:=p1;rw [this]
      . rcases QG.1 hp with hp | hp
        . exact o2 p hp
        . exact p2 p hp
      . rcases QG.1 hk with hk | hk
        . exact o3 k hk
        . exact p3 k hk
    . cases h
theorem A1t:∀ (vs:List SV) (L:Nat->Nat) (i:Nat),(∀ v ∈ vs,v.s L = .v (v.v L))->Am (SV.s L) (Gp i vs)=params i (vs.map (SV.v L))
 | [],_,_,_=>rfl
 | v::r,L,i,h=>by
  have ih:=A1t r L (i+1) λx hx=>h x (by simp [hx])
  simp only [Gp,Am,QT,params] at ih ⊢
  rw [h v (by simp),ih]
theorem B36 {L:Nat->Nat}:∀ (ts:List Sh) (x:HL ts),∀ v ∈ G9 ts x,v.s L = .v (v.v L)
 | [],_,v,h=>by cases h
 | [t],x,v,h=>by
  simp only [G9,QU] at h;subst h;rw [(La t x).2,(La t x).1]
 | t::u::r,x,v,h=>by
  simp only [G9,QX] at h;rcases h with rfl | h
  . rw [(La t x.1).2,(La t x.1).1]
  . exact B36 (u::r) x.2 v (by simpa [G9] using h)
theorem B9j (ts:List Sh) (x:HL ts) (nt:Nat):(A3y ts x).st nt={ slots:=params 0 (Bl ts x),boxes:=[],nt:=nt }:=by
 simp only [A3y,St3.st];rw [A1t _ _ _ (B36 ts x),A7z];rfl
theorem Bqt (hT:B8 P T) (hfol:P.follows .mixedOrders=true) {f:Nat} {fn:Func} {c:Code} {K:Aj} {ts rs:List Sh} {m:HL ts->Option (HL rs)} (D:D3 (HL rs))
  (hf : P.funcs[f]? = some fn) (hname : (fn.name == "runtime.NumGoroutine") = false) (hb : fn.body = some c) (hN : fn.ntmps = K.N) (hmv : K.mv = []) (hargs : ts.length <= K.N) (hD : D3.OK P T K D c)
  (h:∀ x,C5 P T K D c (A3y ts x) (Bc0 T rs fn.results.toList)=m x):(⟨f,ts,rs,m⟩:Ent).Sound P:=by
 intro nt x r hm;have hm:m x=some r:=hm;rw [<- h] at hm;obtain ⟨e,s',h1,h2⟩:=Th hT hfol (nt:=nt) _ _ _ _ hD hm;rw [B9j] at h1
 have key:∀ e,e = .normal \/ e = .ret->Code.Den P K c { slots:=params 0 (Bl ts x),boxes:=[],nt:=nt } e (s'.st nt)->(match Le T s' rs fn.results.toList with | some (g,y)=>bif g then some y else none | none=>none)=some r->Me P f nt [] [] (Bl ts x) (Mo rs r) nt []:=by
  intro e he hd h2;split at h2
  . rename_i g y hy
    cases g with
    | false=>cases h2
    | true =>
     obtain rfl:=QA h2;obtain ⟨obs,ks,o1,o2,o3⟩:=Bay (nt:=nt) hy rfl
     exact B54 hT hf hname hb hN hmv (by rw [Ai4];exact hargs) he hd o1 o2 (A00 o3) (A7y rs y)
  . cases h2
 cases e with
 | normal=>exact key _ (.inl rfl) h1 h2
 | ret=>exact key _ (.inr rfl) h1 h2
 | _=>cases h2
end Go.Ev

/- DERIVED. Functions that are handed boxes or hand out boxes, over shapes. -/
namespace Go.Ev
open Go
variable {P:Program} {T:Ty} {α:Type}
def Mu (T:Ty) (s:St3):List PK->List ResultVar->Option (Bool × List Nat)
 | [],[]=>some (true,[])
 | .im t::r,rv::rvs=>match A1u T s rv t,Mu T s r rvs with
  | some (g,_,ks),some (g',ks')=>some (g&&g',ks++ks')
  | _,_=>none
 | _::r,_::rvs=>Mu T s r rvs
 | _,_=>none
def Wr (bs:List (Nat × B3)) (k:Nat):(c:CK)->SV->Option (c.den × List (Nat × Nat))
 | .im t,v=>bif t.one then (v.as false t).map λx=>(x,[]) else none
 | .own e t,.hw h=>match A1 h bs with
  | some (.arr e' sh false xs)=>bif Nat.beq e e' then ((Sh.sl sh).to (.sl t) xs).map λx=>(x,[(k,h)]) else none
  | _=>none
 | .ptr e t,.hp h 0 0=>match A1 h bs with
  | some (.var e' true false cs)=>bif Nat.beq e e'&&cs.all SV.isD then (t.all false cs).map λx=>(x,[(k,h)]) else none
  | _=>none
 | .back j,.hw h=>bif Nat.beq h j then some ((),[]) else none
 | .emp t,v=>match v.as false (.sl t) with
  | some []=>some ((),[])
  | _=>none
 | .tree e t,.hw h=>match A1 h bs with
  | some (.tree e' sh false xs)=>bif Nat.beq e e' then ((Sh.sl sh).to (.sl t) xs).map λx=>(x,[(k,h)]) else none
  | _=>none
 | _,_=>none
def If (bs:List (Nat × B3)) (k:Nat):(cs:List CK)->List SV->Option (DC cs × List (Nat × Nat))
 | [],[]=>some ((),[])
 | [c],[v]=>Wr bs k c v
 | c::d::r,v::vs=>match Wr bs k c v,If bs (k+1) (d::r) vs with
  | some (x,q),some (y,q')=>some ((x,y),q++q')
  | _,_=>none
 | _,_=>none
def A1o (T:Ty) (s:St3) (fbs:List (Nat × B3)) (k:Nat):(p:PK)->ResultVar->Option (p.den × List (Nat × Nat))
 | .im t,rv=>(A1u T s rv t).map λq=>(q.2.1,[])
 | .one c,rv=>match Afj T s rv with
  | some v=>Wr fbs k c v
  | none=>none
 | .mix cs,rv=>match Afj T s rv with
  | some (.agg vs)=>If fbs k cs vs
  | _=>none
 | .pst _ _,_=>none
def U0 (T:Ty) (s:St3) (fbs:List (Nat × B3)) (k:Nat):(ps:List PK)->List ResultVar->Option (HP ps × List (Nat × Nat))
 | [],[]=>some ((),[])
 | [p],[rv]=>A1o T s fbs k p rv
 | p::q::r,rv::rvs=>match A1o T s fbs k p rv,U0 T s fbs (k+p.n) (q::r) rvs with
  | some (x,l),some (y,l')=>some ((x,y),l++l')
  | _,_=>none
 | _,_=>none
def SV.isHw (j:Nat):SV->Bool
 | .hw h=>Nat.beq h j
 | _=>false
theorem Bhd {j:Nat} {v:SV} (h:v.isHw j=true):v = .hw j:=by
 cases v <;> first | cases h | skip;rw [QD h]
def Ir:(fs:List (Sh ⊕ Nat))->List SV->Option (DF fs)
 | [],[]=>some ()
 | .inl t::r,v::vs=>bif t.one then (match v.as false t,Ir r vs with
  | some x,some y=>some (x,y)
  | _,_=>none) else none
 | .inr j::r,v::vs=>bif v.isHw j then Ir r vs else none
 | _,_=>none
theorem Y0:∀ {fs:List (Sh ⊕ Nat)} {cs:List SV} {x:DF fs},Ir fs cs=some x->cs=svF fs x
 | [],[],_,_=>rfl
 | [],_::_,_,h=>by simp [Ir] at h
 | .inl t::r,[],_,h=>by simp [Ir] at h
 | .inl t::r,v::vs,x,h=>by
  simp only [Ir] at h
  cases ht:t.one with
  | false=>rw [ht] at h;cases h
  | true =>
   rw [ht] at h;simp only [cond] at h;split at h
   . rename_i a b h1 h2;obtain rfl:=QA h;rw [Tn h1,Y0 h2];rfl
   . cases h
 | .inr j::r,[],_,h=>by simp [Ir] at h
 | .inr j::r,v::vs,x,h=>by
  simp only [Ir] at h
  cases he:v.isHw j with
  | false=>rw [he] at h;cases h
  | true =>
   rw [he] at h;rw [Bhd he,Y0 h];rfl
def Aza (bs:List (Nat × B3)) (k:Nat):(c:CK)->Option c.den
 | .own e t=>match A1 k bs with
  | some (.arr e' sh false xs)=>bif Nat.beq e e' then (Sh.sl sh).to (.sl t) xs else none
  | _=>none
 | .ptr e t=>match A1 k bs with
  | some (.var e' true false cs)=>bif Nat.beq e e'&&cs.all SV.isD then t.all false cs else none
  | _=>none
 | .tree e t=>match A1 k bs with
  | some (.tree e' sh false xs)=>bif Nat.beq e e' then (Sh.sl sh).to (.sl t) xs else none
  | _=>none
 | .vst e fs=>match A1 k bs with
  | some (.var e' false false cs)=>bif Nat.beq e e' then Ir fs cs else none
  | _=>none
 | _=>none
def Anx (os:List (Nat × CK)):Bool:=os.all λp=>match p.2 with
 | .vst _ fs=>fs.all λf=>match f with
  | .inl t=>t.one
  | .inr j=>os.any λp=>Nat.beq p.1 j
 | _=>true
def Am0 (bs:List (Nat × B3)):(os:List (Nat × CK))->Option (DO os)
 | []=>some ()
 | [p]=>Aza bs p.1 p.2
 | p::q::r=>match Aza bs p.1 p.2,Am0 bs (q::r) with
  | some x,some y=>some (x,y)
  | _,_=>none
def Azd {rs:List PK}:(os:List (Nat × CK))->HP rs->DO os->HR rs os
 | [],y,_=>y
 | _::_,y,z=>(y,z)
theorem Bb8 {rs:List PK}:∀ (os:List (Nat × CK)) (y:HP rs) (z:DO os),Q1 (Azd os y z)=y/\Bfg (Azd os y z)=z
 | [],_,_=>⟨rfl,rfl⟩
 | _::_,_,_=>⟨rfl,rfl⟩
def V5 (os:List (Nat × CK)):List (Nat × Nat):=os.map λp=>(p.1,p.1)
def Azr (T:Ty) (ts rs:List PK) (rvs:List ResultVar) (s:St3):Option (Bool × HR rs (Ar 1000 ts)) :=
 match Mu T s rs rvs with
 | some (g,ks)=>match U0 T s (C9 s.boxes ks) 0 rs rvs,Am0 (C9 s.boxes ks) (Ar 1000 ts) with
  | some (y,q),some z=>bif Ge (q++V5 (Ar 1000 ts))&&C6 (E9 0 rs y++bxO (Ar 1000 ts) z) (q++V5 (Ar 1000 ts))&&(q.all (λp=>Nat.blt p.2 1000)&&(Ar 1000 ts).all (λp=>Nat.blt p.1 2000))&&(rs.flatMap PK.backs).all (λj=>(A1 j (E9 0 rs y)).isNone&&(Ar 1000 ts).any λp=>Nat.beq p.1 j)&&Anx (Ar 1000 ts) then
    some (g,Azd (Ar 1000 ts) y z) else none
  | _,_=>none
 | none=>none
def Afv (T:Ty) (ts:List PK) (rvs:List ResultVar) (s:St3):(fs:List (List PK))->Option (HF (Ar 1000 ts) fs)
 | []=>none
 | [rs]=>match Azr T ts rs rvs s with
  | some (g,y)=>bif g then some y else none
  | none=>none
 | rs::r::q=>match Azr T ts rs rvs s with
  | some (g,y)=>bif g then some (.inl y) else none
  | none=>match Afv T ts rvs s (r::q) with
   | some z=>some (.inr z)
   | none=>none
def Bbz (T:Ty) (ts:List PK) (fs:List (List PK)) (rvs:List ResultVar) (x:Exit) (s:St3):Option (HF (Ar 1000 ts) fs) :=
 match x with
 | .normal=>Afv T ts rvs s fs
 | .ret=>Afv T ts rvs s fs
 | _=>none
section
variable {bs:List (Nat × B3)} {ρ L0 L':Nat->Nat} {p:Nat->Bool}
theorem Zw {k:Nat} {c:CK} {v:SV} {x:c.den} {q:List (Nat × Nat)} (h:Wr bs k c v=some (x,q)) (hL0:A5 bs=L0)
  (hq:∀ r ∈ q,ρ r.2=r.1/\p r.2=true) (hbk:∀ j ∈ c.backs,ρ j=j/\p j=true/\L' j=L0 j) (hL:∀ k' b,(k',b) ∈ c.bx k x->L' k'=b.len) :
  v.cellB=true/\(v.c L0).ren ρ=(c.sv k x).c L'/\(v.c L0).okH p=true/\(c.sv k x).cellB=true/\Cr bs (c.bx k x) q:=by
 unfold Wr at h;split at h
 . rename_i t
   cases ht:t.one with
   | false=>rw [ht] at h;cases h
   | true =>
    rw [ht] at h;simp only [cond,QI,QL] at h;obtain ⟨y,hy,rfl,rfl⟩:=h;obtain rfl:=Tn hy
    exact ⟨ht,rfl,rfl,ht,λk b hb=>by cases hb⟩
 . rename_i e t hh;split at h
   . rename_i e' sh xs hl
     cases he:Nat.beq e e' with
     | false=>rw [he] at h;cases h
     | true =>
      rw [he] at h;simp only [cond,QI,QL] at h;obtain ⟨y,hy,rfl,rfl⟩:=h;obtain ⟨rfl,rfl⟩:=F0 hy;obtain rfl:=QD he
      have hle:L0 hh=xs.length:=by rw [<- hL0];simp [A5,hl,B3.len]
      have hk:L' k=xs.length:=hL k (.arr e sh false xs) (by simp [CK.bx])
      obtain ⟨r1,r2⟩:=hq (k,hh) (by simp)
      refine ⟨rfl,?_,r2,rfl,λk' b hb=>?_⟩
      . simp only [SV.c,C.ren,CK.sv,hle,hk];rw [show ρ hh=k from r1]
      . exact Cr.plain (k:=k) (h:=hh) (q:=[(k,hh)]) (by simp) hl rfl rfl (λ_ _=>rfl) (λ_=>rfl) k' b hb
   . cases h
 . rename_i e t hh;split at h
   . rename_i e' cs hl
     cases he:(Nat.beq e e'&&cs.all SV.isD) with
     | false=>rw [he] at h;cases h
     | true =>
      rw [he] at h;simp only [cond,QI,QL] at h;obtain ⟨y,hy,rfl,rfl⟩:=h;simp only [QH] at he;obtain rfl:=QD he.1;obtain ⟨a1,_,_,a4⟩:=Et hy
      obtain ⟨r1,r2⟩:=hq (k,hh) (by simp)
      refine ⟨rfl,?_,r2,rfl,λk' b hb=>?_⟩
      . simp only [SV.c,C.ren,CK.sv];rw [show ρ hh=k from r1]
      . refine Cr.plain (k:=k) (h:=hh) (q:=[(k,hh)]) (b:=.var e true false (t.exp y)) (by simp) hl rfl (by simp only [B3.plain,ZZ];exact (L4 t y).2) (λL1 L2=>?_) (λ_=>rfl) k' b hb
        simp only [B3.box,a1,Qb,Aho,a4]
   . cases h
 . rename_i j hh
   cases he:Nat.beq hh j with
   | false=>rw [he] at h;cases h
   | true =>
    rw [he] at h;simp only [cond,QF,QL] at h;obtain ⟨_,rfl⟩:=h;obtain rfl:=QD he
    obtain ⟨b1,b2,b3⟩:=hbk hh (by simp [CK.backs])
    refine ⟨rfl,?_,b2,rfl,λk b hb=>by cases hb⟩
    simp only [SV.c,C.ren,CK.sv,b1,b3]
 . rename_i t;split at h
   . rename_i ha
     cases h;obtain rfl:=Tn ha
     exact ⟨rfl,rfl,rfl,rfl,λk b hb=>by cases hb⟩
   . cases h
 . rename_i e t hh;split at h
   . rename_i e' sh xs hl
     cases he:Nat.beq e e' with
     | false=>rw [he] at h;cases h
     | true =>
      rw [he] at h;simp only [cond,QI,QL] at h;obtain ⟨y,hy,rfl,rfl⟩:=h;obtain ⟨rfl,rfl⟩:=F0 hy;obtain rfl:=QD he
      have hle:L0 hh=xs.length:=by rw [<- hL0];simp [A5,hl,B3.len]
      have hk:L' k=xs.length:=hL k (.tree e sh false xs) (by simp [CK.bx])
      obtain ⟨r1,r2⟩:=hq (k,hh) (by simp)
      refine ⟨rfl,?_,r2,rfl,λk' b hb=>?_⟩
      . simp only [SV.c,C.ren,CK.sv,hle,hk];rw [show ρ hh=k from r1]
      . exact Cr.plain (k:=k) (h:=hh) (q:=[(k,hh)]) (by simp) hl rfl rfl (λ_ _=>rfl) (λ_=>rfl) k' b hb
   . cases h
 . cases h
theorem A7f:∀ {cs:List CK} {k:Nat} {vs:List SV} {x:DC cs} {q:List (Nat × Nat)},If bs k cs vs=some (x,q)->A5 bs=L0 ->
  (∀ r ∈ q,ρ r.2=r.1/\p r.2=true)->(∀ j ∈ cs.flatMap CK.backs,ρ j=j/\p j=true/\L' j=L0 j)->(∀ k' b,(k',b) ∈ Jf k cs x->L' k'=b.len) ->
  (vs.map (SV.c L0)).map (C.ren ρ)=(I4 k cs x).map (SV.c L')/\(vs.map (SV.c L0)).all (C.okH p)=true/\Cr bs (Jf k cs x) q
 | [],k,[],x,q,h,_,_,_,_=>⟨rfl,rfl,λk b hb=>by cases hb⟩
 | [],k,_::_,_,_,h,_,_,_,_=>by simp [If] at h
 | [c],k,[],_,_,h,_,_,_,_=>by simp [If] at h
 | [c],k,[v],x,q,h,h0,hq,hbk,hL=>by
  obtain ⟨_,h1,h2,_,h3⟩:=Zw (x:=x) h h0 hq (by simpa using hbk) hL
  exact ⟨by simp only [QT,XN,I4,h1],by simp only [QT,XN,XJ,KT,h2,ZO],h3⟩
 | [c],k,v::w::r,_,_,h,_,_,_,_=>by simp [If] at h
 | c::d::r,k,[],_,_,h,_,_,_,_=>by simp [If] at h
 | c::d::r,k,v::vs,x,q,h,h0,hq,hbk,hL=>by
  simp only [If] at h;split at h
  . rename_i x1 q1 y1 q2 h1 h2;simp only [QF,QL] at h;obtain ⟨rfl,rfl⟩:=h
    obtain ⟨_,a1,a2,_,a3⟩:=Zw h1 h0 (λr hr=>hq r (QG.2 (.inl hr))) (λj hj=>hbk j (by simp only [Qbc,QG];exact .inl hj)) (λk' b hb=>hL k' b (by simp only [Jf];exact QG.2 (.inl hb)))
    obtain ⟨b1,b2,b3⟩:=A7f h2 h0 (λr hr=>hq r (QG.2 (.inr hr))) (λj hj=>hbk j (by rw [Qbc];exact QG.2 (.inr hj))) (λk' b hb=>hL k' b (by simp only [Jf];exact QG.2 (.inr hb)))
    refine ⟨?_,?_,a3.app b3⟩
    . simp only [QT,I4,a1];rw [b1]
    . simp only [QT,XJ,a2,b2,ZO]
  . cases h
theorem Av1 {s:St3} {nt:Nat} {k:Nat} {pk:PK} {rv:ResultVar} {x:pk.den} {q:List (Nat × Nat)} (h:A1o T s bs k pk rv=some (x,q)) (hL0:A5 bs=A5 s.boxes)
  (hq:∀ r ∈ q,ρ r.2=r.1/\p r.2=true) (hbk:∀ j ∈ pk.backs,ρ j=j/\p j=true/\L' j=A5 s.boxes j) (hL:∀ k' b,(k',b) ∈ pk.bx k x->L' k'=b.len)
  {g:Bool} {ks:List Nat} (hk:Mu T s [pk] [rv]=some (g,ks)) (hg:g=true) :
  ∃ d xv obs,Lf T (s.st nt) rv d=some (xv,obs,ks)/\(∀ p ∈ obs,p)/\xv.ren ρ=(pk.sv k x).v L'/\xv.okH p=true/\Cr bs (pk.bx k x) q/\(pk.sv k x).s L' = .v ((pk.sv k x).v L') /\ ∀ j ∈ ks,j<1000/\(A1 j s.boxes).isSome=true:=by
 cases pk with
 | im t =>
  simp only [A1o,QI,QL] at h;obtain ⟨⟨g1,y,ks1⟩,h1,rfl,rfl⟩:=h;simp only [Mu,h1,QF,QL,XR,XT] at hk;obtain ⟨rfl,rfl⟩:=hk;obtain ⟨obs,a1,a2,a3⟩:=Bh0 (nt:=nt) h1 hg
  refine ⟨_,_,obs,a1,a2,?_,?_,(λk b hb=>by cases hb),?_,a3⟩
  . rw [show (PK.im t).sv k y=t.sv y from rfl,(La t y).1];unfold Sh.v
    cases t.one with
    | true=>rfl
    | false =>
     simp only [cond,V.ren,XC];rfl
  . unfold Sh.v
    cases t.one with
    | true=>rfl
    | false=>simp [V.okH,C.okH]
  . exact (La t y).2.trans (by rw [show (PK.im t).sv k y=t.sv y from rfl,(La t y).1])
 | one c =>
  simp only [Mu,QF,QL] at hk;obtain ⟨rfl,rfl⟩:=hk;simp only [A1o] at h;split at h
  . rename_i v hv;obtain ⟨a1,a2,a3,a4,a5⟩:=Zw h hL0 hq hbk hL
    obtain ⟨obs,b1,b2⟩:=A84 (nt:=nt) hv (by rw [(Hq a1).1,(Hq a1).2])
    refine ⟨none,v.v (A5 s.boxes),obs,by simp only [Lf,b1],b2,?_,?_,a5,?_,by simp⟩
    . rw [(Hq a1).2];show V.one _=(c.sv k x).v L';rw [(Hq a4).2,a2]
    . rw [(Hq a1).2];exact a3
    . show (c.sv k x).s L' = .v ((c.sv k x).v L');rw [(Hq a4).1,(Hq a4).2]
  . cases h
 | mix cs =>
  simp only [Mu,QF,QL] at hk;obtain ⟨rfl,rfl⟩:=hk;simp only [A1o] at h;split at h
  . rename_i vs hv;obtain ⟨a1,a2,a3⟩:=A7f h hL0 hq hbk hL;obtain ⟨obs,b1,b2⟩:=A84 (nt:=nt) hv rfl
    refine ⟨none,(SV.agg vs).v (A5 s.boxes),obs,by simp only [Lf,b1],b2,?_,a2,a3,rfl,by simp⟩
    show V.agg _=V.agg _;rw [a1]
  . cases h
 | pst e gs=>simp [A1o] at h
theorem Ank {s:St3} {nt:Nat}:∀ {ps:List PK} {k:Nat} {rvs:List ResultVar} {x:HP ps} {q:List (Nat × Nat)},U0 T s bs k ps rvs=some (x,q)->A5 bs=A5 s.boxes ->
  (∀ r ∈ q,ρ r.2=r.1/\p r.2=true)->(∀ j ∈ ps.flatMap PK.backs,ρ j=j/\p j=true/\L' j=A5 s.boxes j)->(∀ k' b,(k',b) ∈ E9 k ps x->L' k'=b.len) ->
  ∀ {g:Bool} {ks:List Nat},Mu T s ps rvs=some (g,ks)->g=true ->
  ∃ ds xs obs,Fh T (s.st nt) rvs ds=some (xs,obs,ks)/\(∀ p ∈ obs,p)/\xs.map (V.ren ρ)=(Cm k ps x).map (SV.v L')/\xs.all (V.okH p)=true/\Cr bs (E9 k ps x) q/\(∀ v ∈ Cm k ps x,v.s L' = .v (v.v L')) /\ ∀ j ∈ ks,j<1000/\(A1 j s.boxes).isSome=true
 | [],k,[],x,q,h,_,_,_,_,g,ks,hk,_=>by
  simp only [Mu,QF,QL] at hk;obtain ⟨_,rfl⟩:=hk
  exact ⟨[],[],[],rfl,by simp,rfl,rfl,(λk b hb=>by cases hb),by simp [Cm],by simp⟩
 | [],k,_::_,_,_,h,_,_,_,_,_,_,_,_=>by simp [U0] at h
 | [pk],k,[],_,_,h,_,_,_,_,_,_,_,_=>by simp [U0] at h
 | [pk],k,[rv],x,q,h,h0,hq,hbk,hL,g,ks,hk,hg=>by
  obtain ⟨d,xv,obs,a1,a2,a3,a4,a5,a6,a7⟩:=Av1 (nt:=nt) (x:=x) h h0 hq (by simpa using hbk) hL hk hg
  refine ⟨[d],[xv],obs++[],?_,by simpa using a2,?_,?_,a5,?_,a7⟩
  . simp only [Fh,Qbn,a1,XT]
  . simp only [QT,XN,Cm,a3]
  . simp [a4]
  . simpa [Cm] using a6
 | [pk],k,rv::w::r,_,_,h,_,_,_,_,_,_,_,_=>by simp [U0] at h
 | pk::p2::r,k,[],_,_,h,_,_,_,_,_,_,_,_=>by simp [U0] at h
 | pk::p2::r,k,rv::rvs,x,q,h,h0,hq,hbk,hL,g,ks,hk,hg=>by
  simp only [U0] at h;split at h
  . rename_i x1 q1 y1 q2 h1 h2;simp only [QF,QL] at h;obtain ⟨rfl,rfl⟩:=h
    obtain ⟨g1,ks1,g2,ks2,e1,e2,rfl,rfl⟩:∃ g1 ks1 g2 ks2,Mu T s [pk] [rv]=some (g1,ks1)/\Mu T s (p2::r) rvs=some (g2,ks2)/\g=(g1&&g2)/\ks=ks1++ks2:=by
     cases pk with
     | im t =>
      simp only [Mu] at hk;split at hk
      . rename_i g1 a ks1 g2 ks2 i1 i2;simp only [QF,QL] at hk
        exact ⟨g1,ks1,g2,ks2,by simp [Mu,i1],i2,hk.1.symm,hk.2.symm⟩
      . cases hk
     | one c=>exact ⟨true,[],g,ks,rfl,hk,by simp,rfl⟩
     | mix cs=>exact ⟨true,[],g,ks,rfl,hk,by simp,rfl⟩
     | pst e gs=>simp [A1o] at h1
    simp only [QH] at hg
    obtain ⟨d,xv,obs,a1,a2,a3,a4,a5,a6,a7⟩:=Av1 (nt:=nt) h1 h0 (λr hr=>hq r (QG.2 (.inl hr))) (λj hj=>hbk j (by rw [Qbc];exact QG.2 (.inl hj))) (λk' b hb=>hL k' b (by simp only [E9];exact QG.2 (.inl hb))) e1 hg.1
    obtain ⟨ds,xs,obs',b1,b2,b3,b4,b5,b6,b7⟩:=Ank (nt:=nt) h2 h0 (λr hr=>hq r (QG.2 (.inr hr))) (λj hj=>hbk j (by rw [Qbc];exact QG.2 (.inr hj))) (λk' b hb=>hL k' b (by simp only [E9];exact QG.2 (.inr hb))) e2 hg.2
    refine ⟨d::ds,xv::xs,obs++obs',?_,λp hp=>(QG.1 hp).elim (a2 p) (b2 p),?_,?_,a5.app b5,?_,λj hj=>(QG.1 hj).elim (a7 j) (b7 j)⟩
    . simp only [Fh,Qbn,List.tail_cons,a1,b1]
    . simp only [QT,Cm,a3,b3]
    . simp only [XJ,a4,b4,ZO]
    . simpa [Cm] using ⟨a6,b6⟩
  . cases h
end
end Go.Ev

/- DERIVED. THE USE for a function that is handed boxes or hands out boxes. -/
namespace Go.Ev
open Go
variable {P:Program} {T:Ty} {α:Type}
theorem Afb {L L' σ:Nat->Nat}:∀ (fs:List (Sh ⊕ Nat)) (x:DF fs),(∀ j,.inr j ∈ fs->σ j=j/\L j=L' j)->(svF fs x).map (SV.c L)=((svF fs x).map (SV.c L')).map (C.ren σ)
 | [],_,_=>rfl
 | .inl t::r,x,h=>by
  simp only [svF,QT];rw [Afb r x.2 λj hj=>h j (ZI _ hj)];rfl
 | .inr j::r,x,h=>by
  obtain ⟨h1,h2⟩:=h j (by simp)
  simp only [svF,QT];rw [Afb r x λj hj=>h j (ZI _ hj)];simp only [SV.c,C.ren,h1,h2]
theorem Afc {L:Nat->Nat} {p:Nat->Bool}:∀ (fs:List (Sh ⊕ Nat)) (x:DF fs),(∀ j,.inr j ∈ fs->p j=true)->((svF fs x).map (SV.c L)).all (C.okH p)=true
 | [],_,_=>rfl
 | .inl t::r,x,h=>by
  simp only [svF,QT,XJ,QH];exact ⟨rfl,Afc r x.2 λj hj=>h j (ZI _ hj)⟩
 | .inr j::r,x,h=>by
  simp only [svF,QT,XJ,QH]
  exact ⟨h j (by simp),Afc r x λj hj=>h j (ZI _ hj)⟩
theorem Av7 {bs:List (Nat × B3)} {k:Nat} {c:CK} {x:c.den} {Q:List (Nat × Nat)} (h:Aza bs k c=some x) (hk:(k,k) ∈ Q) (hv:∀ e fs,c = .vst e fs->∀ j,.inr j ∈ fs->(j,j) ∈ Q):Cr bs (c.bx k x) Q:=by
 unfold Aza at h;split at h
 . rename_i e t;split at h
   . rename_i e' sh xs hl
     cases he:Nat.beq e e' with
     | false=>rw [he] at h;cases h
     | true =>
      rw [he] at h;obtain ⟨rfl,rfl⟩:=F0 h;obtain rfl:=QD he;exact Cr.plain hk hl rfl rfl (λ_ _=>rfl) (λ_=>rfl)
   . cases h
 . rename_i e t;split at h
   . rename_i e' cs hl
     cases he:(Nat.beq e e'&&cs.all SV.isD) with
     | false=>rw [he] at h;cases h
     | true =>
      rw [he] at h;simp only [cond] at h;simp only [QH] at he;obtain rfl:=QD he.1;obtain ⟨a1,_,_,a4⟩:=Et h
      refine Cr.plain hk hl rfl (by simp only [B3.plain,ZZ];exact (L4 t x).2) (λL1 L2=>?_) (λ_=>rfl)
      simp only [B3.box,a1,Qb,Aho,a4]
   . cases h
 . rename_i e t;split at h
   . rename_i e' sh xs hl
     cases he:Nat.beq e e' with
     | false=>rw [he] at h;cases h
     | true =>
      rw [he] at h;obtain ⟨rfl,rfl⟩:=F0 h;obtain rfl:=QD he;exact Cr.plain hk hl rfl rfl (λ_ _=>rfl) (λ_=>rfl)
   . cases h
 . rename_i e fs;split at h
   . rename_i e' cs hl
     cases he:Nat.beq e e' with
     | false=>rw [he] at h;cases h
     | true =>
      rw [he] at h;simp only [cond] at h;obtain rfl:=Y0 h;obtain rfl:=QD he;intro k' b hb;simp only [CK.bx,QU,QL] at hb;obtain ⟨rfl,rfl⟩:=hb;refine ⟨k',_,hk,hl,rfl,λL L' σ hp=>?_,λL=>⟨rfl,?_⟩⟩
      . simp only [B3.box,Box.ren,QT,XN];rw [Afb fs x λj hj=>hp _ (hv _ _ rfl j hj)]
      . simp only [B3.box,Box.okH,XJ,KT,XR]
        exact Afc fs x λj hj=>ZL.2 ⟨_,hv _ _ rfl j hj,by simp⟩
   . cases h
 . cases h
theorem Anv {bs:List (Nat × B3)} {Q:List (Nat × Nat)}:∀ {os:List (Nat × CK)} {z:DO os},Am0 bs os=some z->(∀ p ∈ os,(p.1,p.1) ∈ Q /\ ∀ e fs,p.2 = .vst e fs->∀ j,.inr j ∈ fs->(j,j) ∈ Q)->Cr bs (bxO os z) Q
 | [],z,_,_=>λk b hb=>by cases hb
 | [p],z,h,hq=>Av7 (c:=p.2) h (hq p (by simp)).1 (hq p (by simp)).2
 | p::q::r,z,h,hq=>by
  simp only [Am0] at h;split at h
  . rename_i x y h1 h2;obtain rfl:=QA h
    have a:=Av7 (c:=p.2) h1 (hq p (by simp)).1 (hq p (by simp)).2
    have b:=Anv (Q:=Q) h2 λp hp=>hq p (ZI _ hp);intro k b' hb;rcases QG.1 (show (k,b') ∈ p.2.bx p.1 x++bxO (q::r) y from hb) with hb | hb
    . exact a k b' hb
    . exact b k b' hb
  . cases h
theorem Bb6 {os:List (Nat × CK)} (h:Anx os=true):∀ p ∈ os,(p.1,p.1) ∈ V5 os /\ ∀ e fs,p.2 = .vst e fs->∀ j,.inr j ∈ fs->(j,j) ∈ V5 os:=by
 intro p hp;refine ⟨ZK.2 ⟨p,hp,rfl⟩,λe fs he j hj=>?_⟩;have:=QK.1 h p hp;rw [he] at this;have:=QK.1 this _ hj;obtain ⟨p',hp',e'⟩:=ZL.1 this;obtain rfl:=QD e';exact ZK.2 ⟨p',hp',rfl⟩
theorem Asr:∀ {cs:List CK} {k:Nat} {x:DC cs} {k':Nat} {b:B3},(k',b) ∈ Jf k cs x->∃ c,(k',c) ∈ Alz k cs:=by
 have one:∀ {c:CK} {k:Nat} {x:c.den} {k':Nat} {b:B3},(k',b) ∈ c.bx k x->∃ d,(k',d) ∈ c.owns k:=by
  intro c k x k' b h
  cases c <;> simp [CK.bx,CK.owns] at h ⊢ <;> exact h.1
 intro cs
 induction cs with
 | nil=>intro k x k' b h;cases h
 | cons c r ih =>
  intro k x k' b h
  cases r with
  | nil =>
   obtain ⟨d,hd⟩:=one (c:=c) h;exact ⟨d,QG.2 (.inl hd)⟩
  | cons d r =>
   simp only [Jf] at h;rcases QG.1 h with h | h
   . obtain ⟨d,hd⟩:=one h;exact ⟨d,QG.2 (.inl hd)⟩
   . obtain ⟨d,hd⟩:=ih h;exact ⟨d,QG.2 (.inr hd)⟩
theorem Bek:∀ {ps:List PK} {k:Nat} {x:HP ps} {k':Nat} {b:B3},(k',b) ∈ E9 k ps x->∃ c,(k',c) ∈ Ar k ps:=by
 have one:∀ {p:PK} {k:Nat} {x:p.den} {k':Nat} {b:B3},(k',b) ∈ p.bx k x->∃ d,(k',d) ∈ p.owns k:=by
  intro p k x k' b h
  cases p with
  | im t=>cases h
  | one c=>cases c <;> simp [PK.bx,PK.owns,CK.bx,CK.owns] at h ⊢ <;> exact h.1
  | mix cs=>exact Asr (cs:=cs) h
  | pst e gs =>
   rcases QX.1 (show (k',b) ∈ (k,B3.var e false false (I4 (k+1) gs x))::Jf (k+1) gs x from h) with h | h
   . obtain ⟨rfl,rfl⟩:=KF h;exact ⟨_,YA ..⟩
   . obtain ⟨d,hd⟩:=Asr (cs:=gs) h;exact ⟨d,ZI _ hd⟩
 intro ps
 induction ps with
 | nil=>intro k x k' b h;cases h
 | cons p r ih =>
  intro k x k' b h
  cases r with
  | nil =>
   obtain ⟨d,hd⟩:=one (p:=p) h;exact ⟨d,QG.2 (.inl hd)⟩
  | cons d r =>
   simp only [E9] at h;rcases QG.1 h with h | h
   . obtain ⟨d,hd⟩:=one h;exact ⟨d,QG.2 (.inl hd)⟩
   . obtain ⟨d,hd⟩:=ih h;exact ⟨d,QG.2 (.inr hd)⟩
theorem Blf (L:Nat->Nat):∀ (ps:List PK) (k:Nat) (x:HP ps),∀ v ∈ Cm k ps x,v.s L = .v (v.v L):=by
 have one:∀ (p:PK) (k:Nat) (x:p.den),(p.sv k x).s L = .v ((p.sv k x).v L):=by
  intro p k x
  cases p with
  | im t=>exact (La t x).2.trans (by rw [show (PK.im t).sv k x=t.sv x from rfl,(La t x).1])
  | one c=>cases c <;> rfl
  | mix cs=>rfl
  | pst e gs=>rfl
 intro ps
 induction ps with
 | nil=>intro k x v h;cases h
 | cons p r ih =>
  intro k x v h
  cases r with
  | nil =>
   simp only [Cm,QU] at h;subst h;exact one p k x
  | cons d r =>
   simp only [Cm,QX] at h;rcases h with rfl | h
   . exact one p k x.1
   . exact ih _ x.2 v (by simpa [Cm] using h)
theorem Bm2 {L:Nat->Nat} {vs:List SV} (h:∀ v ∈ vs,v.s L = .v (v.v L)):(Jo vs).s L=F1 (vs.map (SV.v L)):=by
 match vs,h with
 | [],_=>rfl
 | [x],h=>exact h x (by simp)
 | x::y::r,_=>rfl
theorem Bbk {ρ:Nat->Nat} (xs:List V):(F1 xs).ren ρ=F1 (xs.map (V.ren ρ)):=by
 match xs with
 | []=>rfl
 | [x]=>rfl
 | x::y::r=>rfl
theorem Bbl {p:Nat->Bool} {xs:List V} (h:xs.all (V.okH p)=true):(F1 xs).okH p=true:=by
 match xs,h with
 | [],_=>rfl
 | [x],h=>simpa [F1,S.okH] using h
 | x::y::r,h=>simpa [F1,S.okH] using h
def rho (rn:List (Nat × Nat)) (h:Nat):Nat:=match M9 rn h with
 | some k=>k
 | none=>0
theorem A77 {β:Type}:∀ {l:List (Nat × β)} {k:Nat} {b:β},(k,b) ∈ l->(A1 k l).isSome=true
 | [],_,_,h=>by cases h
 | (k1,b1)::r,k,b,h=>by
  simp only [A1]
  cases hb:Nat.beq k1 k with
  | true=>rfl
  | false =>
   rcases QX.1 h with h | h
   . obtain ⟨rfl,rfl⟩:=KF h;simp at hb
   . exact A77 h
theorem Aot (hT:B8 P T) {f:Nat} {fn:Func} {c:Code} {K:Aj} {nt:Nat} {ts rs:List PK} {x:HP ts} {e:Exit} {s:St3} {Y:HR rs (Ar 1000 ts)}
  (hf : P.funcs[f]? = some fn) (hname : (fn.name == "runtime.NumGoroutine") = false) (hb : fn.body = some c) (hN : fn.ntmps = K.N) (hargs : (Cm 1000 ts x).length <= K.N)
  (he:e = .normal \/ e = .ret) (hd:Code.Den P K c ((⟨Gp 0 (Cm 1000 ts x),E9 1000 ts x⟩:St3).st nt) e (s.st nt)) (h:Azr T ts rs fn.results.toList s=some (true,Y)) :
  Ji.Den P ⟨f,ts,rs,K.mv⟩ nt x Y:=by
 unfold Azr at h;split at h
 case h_2=>cases h
 rename_i g ks hks;split at h
 case h_2=>cases h
 rename_i y q z hy hz
 cases hc:(Ge (q++V5 (Ar 1000 ts))&&C6 (E9 0 rs y++bxO (Ar 1000 ts) z) (q++V5 (Ar 1000 ts))&&(q.all (λp=>Nat.blt p.2 1000)&&(Ar 1000 ts).all (λp=>Nat.blt p.1 2000))&&(rs.flatMap PK.backs).all (λj=>(A1 j (E9 0 rs y)).isNone&&(Ar 1000 ts).any λp=>Nat.beq p.1 j)&&Anx (Ar 1000 ts)) with
 | false=>rw [hc] at h;cases h
 | true =>
 rw [hc] at h;simp only [cond,QF,QL] at h;obtain ⟨rfl,rfl⟩:=h;simp only [QH] at hc;obtain ⟨⟨⟨⟨c1,c2⟩,c3,c5⟩,c4⟩,c6⟩:=hc;generalize hrn:q++V5 (Ar 1000 ts)=rn at *;obtain ⟨m1,m2⟩:=Bb8 (rs:=rs) (Ar 1000 ts) y z
 have hB:Bd ⟨f,ts,rs,K.mv⟩ (Azd (Ar 1000 ts) y z)=E9 0 rs y++bxO (Ar 1000 ts) z:=by
  unfold Bd;rw [m1,m2]
 generalize hBd:E9 0 rs y++bxO (Ar 1000 ts) z=B at *
 have qrn:∀ p ∈ q,p ∈ rn:=λp hp=>by rw [<- hrn];exact QG.2 (.inl hp)
 have irn:∀ p ∈ V5 (Ar 1000 ts),p ∈ rn:=λp hp=>by rw [<- hrn];exact QG.2 (.inr hp)
 have fwdm:∀ k h,(k,h) ∈ rn->Es rn k=h/\rho rn h=k/\A1 k rn=some h:=λk h hm=>by
  obtain ⟨e1,e2⟩:=Gq c1 hm
  exact ⟨by unfold Es;rw [e1],by unfold rho;rw [e2],e1⟩
 have outS:∀ k,(A1 k (Ca B)).isSome=(A1 k rn).isSome:=λk=>by
  unfold Ca;rw [Au,KB,Dq c2 k]
 have okP:∀ k h,(k,h) ∈ rn->((A1 (rho rn h) (Ca B)).isSome&&Nat.beq (Es rn (rho rn h)) h)=true:=λk h hm=>by
  obtain ⟨e1,e2,e3⟩:=fwdm k h hm;rw [e2,outS k,e3,e1];simp
 have hL':∀ k b,(k,b) ∈ B->A5 B k=b.len:=λk b hb=>by
  have:=A1w c2 c1 hb;unfold A5;rw [this]
 have hlf:A5 (C9 s.boxes ks)=A5 s.boxes:=E6 ks s.boxes;have hout:=Anv hz (Bb6 c6)
 have hIdm:∀ j,j ∈ rs.flatMap PK.backs->(j,j) ∈ V5 (Ar 1000 ts):=λj hj=>by
  have h4:=QK.1 c4 j hj;simp only [QH] at h4;obtain ⟨p,hp,hpj⟩:=ZL.1 h4.2;obtain rfl:=QD hpj;exact ZK.2 ⟨p,hp,rfl⟩
 have lenB:∀ k h b,(k,b) ∈ B->(k,h) ∈ rn->∀ b',A1 h (C9 s.boxes ks)=some b'->b'.len=b.len->A5 B k=A5 s.boxes h:=λk h b hb _ b' hb' hl=>by
  rw [hL' k b hb,<- hl,<- hlf];unfold A5;rw [hb']
 have hInB:Cr (C9 s.boxes ks) (bxO (Ar 1000 ts) z) (V5 (Ar 1000 ts)):=hout
 have hbk:∀ j ∈ rs.flatMap PK.backs,rho rn j=j/\((A1 (rho rn j) (Ca B)).isSome&&Nat.beq (Es rn (rho rn j)) j)=true/\A5 B j=A5 s.boxes j:=λj hj=>by
  have hm:=irn _ (hIdm j hj);refine ⟨(fwdm j j hm).2.1,okP j j hm,?_⟩
  have hS:(A1 j B).isSome=true:=by rw [Dq c2 j,(fwdm j j hm).2.2];rfl
  obtain ⟨b,hb⟩:=QZ.1 hS;have hmem:=Co hb;have hmem':=hmem;rw [<- hBd] at hmem';rcases QG.1 hmem' with hm1 | hm1
  . have h4:=QK.1 c4 j hj;simp only [QH,Option.isNone_iff_eq_none] at h4;have:=A77 hm1;rw [h4.1] at this;cases this
  . obtain ⟨h',b',i1,i2,i3,_,_⟩:=hInB j b hm1;obtain ⟨p,hp,hpe⟩:=ZK.1 i1;obtain ⟨rfl,rfl⟩:=KF hpe;exact lenB _ _ b hmem hm b' i2 i3
 obtain ⟨ds,xs,obs,a1,a2,a3,a4,a5,a6,a7⟩:=Ank (nt:=nt) (ρ:=rho rn) (L':=A5 B) (p:=λh=>(A1 (rho rn h) (Ca B)).isSome&&Nat.beq (Es rn (rho rn h)) h) hy hlf
  (λr hr=>⟨(fwdm r.1 r.2 (qrn _ hr)).2.1,okP r.1 r.2 (qrn _ hr)⟩) hbk (λk' b hb=>hL' k' b (by rw [<- hBd];exact QG.2 (.inl hb))) hks rfl
 have hIn:Cr (C9 s.boxes ks) B rn:=by rw [<- hBd,<- hrn];exact a5.app hout
 have hr:(Jo (Cm 0 rs y)).s (A5 B)=(F1 xs).ren (rho rn):=by
  rw [Bm2 a6,Bbk,a3]
 have hst:(⟨Gp 0 (Cm 1000 ts x),E9 1000 ts x⟩:St3).st nt={ slots:=params 0 ((Cm 1000 ts x).map (SV.v (A5 (E9 1000 ts x)))),boxes:=Ca (E9 1000 ts x),nt:=nt }:=by
  simp only [St3.st];rw [A1t _ _ _ (Blf _ ts 1000 x)];rfl
 rw [hst] at hd
 have hfin:=Bc1 hT (bs':=Ca B) hf hname hb hN (by rw [ZA];exact hargs) he hd a1 a2 (A00 a7) (Es rn) (rho rn)
  (λk b hb=>?_) (λk k' hk hk' e=>?_) (Bbl a4) (λk b hb=>?_)
 . unfold Ji.Den;rw [m1,hB,hr];exact hfin
 . unfold Ca at hb;rw [Au] at hb;obtain ⟨b3,hb3,rfl⟩:=QI.1 hb;obtain ⟨h',b',i1,i2,i3,i4,i5⟩:=hIn k b3 (Co hb3);obtain ⟨e1,_,_⟩:=fwdm k h' i1
   have hren:b'.box (A5 s.boxes)=(b3.box (A5 B)).ren (Es rn):=i4 _ _ _ λp hp=>by
    refine ⟨(fwdm p.1 p.2 hp).1,?_⟩
    have hS:(A1 p.1 B).isSome=true:=by rw [Dq c2 p.1,(fwdm p.1 p.2 hp).2.2];rfl
    obtain ⟨b2,hb2⟩:=QZ.1 hS;obtain ⟨h2,b4,j1,j2,j3,_⟩:=hIn p.1 b2 (Co hb2);have e2:=(fwdm p.1 h2 j1).2.2;rw [(fwdm p.1 p.2 hp).2.2] at e2;obtain rfl:=QA e2;exact (lenB _ _ b2 (Co hb2) hp b4 j2 j3).symm
   have keyP:∀ k,(rn.any λp=>Nat.beq p.1 k)=true->∃ h,(k,h) ∈ rn:=λk hk=>by
    obtain ⟨p,hp,hp2⟩:=ZL.1 hk;obtain rfl:=QD hp2;exact ⟨p.2,hp⟩
   refine ⟨⟨b'.box (A5 s.boxes),?_,?_,?_⟩,(i5 _).1,?_⟩
   . show A1 (Es rn k) (Bk (Am (B3.box (A5 s.boxes)) s.boxes) ks)=_;rw [Iq,Au,e1,i2];rfl
   . rw [hren]
     exact (Box.ren_ren (λk hk=>by
      obtain ⟨h,hm⟩:=keyP k hk
      rw [(fwdm k h hm).1,(fwdm k h hm).2.1]) (i5 _).2).symm
   . rw [hren]
     exact Box.okH_ren (λk hk=>by
      obtain ⟨h,hm⟩:=keyP k hk;rw [(fwdm k h hm).1]
      exact okP k h hm) (i5 _).2
   . rw [e1];rw [<- hrn] at i1;rcases QG.1 i1 with i1 | i1
     . exact .inl (by simpa [XD] using QK.1 c3 _ i1)
     . obtain ⟨p,hp5,hpe⟩:=ZK.1 i1;obtain ⟨rfl,rfl⟩:=KF hpe
       exact .inr ⟨rfl,by simpa [XD] using QK.1 c5 _ hp5⟩
 . rw [outS k] at hk;rw [outS k'] at hk';obtain ⟨h1,e1⟩:=QZ.1 hk;obtain ⟨h2,e2⟩:=QZ.1 hk';obtain ⟨f1,f2,_⟩:=fwdm k h1 (Dx e1);obtain ⟨f3,f4,_⟩:=fwdm k' h2 (Dx e2);rw [f1,f3] at e;rw [<- f2,<- f4,e]
 . unfold Ca at hb;rw [Au] at hb;obtain ⟨b3,hb3,_⟩:=QI.1 hb;obtain ⟨d,hd'⟩:=Bek (Co hb3);have hm:=irn (k,k) (ZK.2 ⟨_,hd',rfl⟩);obtain ⟨e1,_,e3⟩:=fwdm k k hm
   exact ⟨e1,by rw [outS k,e3];rfl,by simpa [XD] using QK.1 c5 _ hd'⟩
theorem Bmg (hT:B8 P T) (hfol:P.follows .mixedOrders=true) {f:Nat} {fn:Func} {c:Code} {K:Aj} {ts:List PK} {forms:List (List PK)} {m:HP ts->Option (HF (Ar 1000 ts) forms)} (D:D3 (HF (Ar 1000 ts) forms))
  (hf : P.funcs[f]? = some fn) (hname : (fn.name == "runtime.NumGoroutine") = false) (hb : fn.body = some c) (hN : fn.ntmps = K.N) (hargs : ts.length <= K.N) (hD : D3.OK P T K D c)
  (h:∀ x,C5 P T K D c ⟨Gp 0 (Cm 1000 ts x),E9 1000 ts x⟩ (Bbz T ts forms fn.results.toList)=m x):(⟨f,ts,forms,m,K.mv⟩:Ent3).Sound P:=by
 intro nt x z hm;have hm:m x=some z:=hm;rw [<- h] at hm;obtain ⟨e,s',h1,h2⟩:=Th hT hfol (nt:=nt) _ _ _ _ hD hm
 have hlen:(Cm 1000 ts x).length<=K.N:=by
  have:∀ (ps:List PK) (k:Nat) (x:HP ps),(Cm k ps x).length=ps.length:=by
   intro ps
   induction ps with
   | nil=>intro k x;rfl
   | cons p r ih =>
    intro k x
    cases r with
    | nil=>rfl
    | cons d r=>simp only [Cm,QY];rw [ih];rfl
  rw [this];exact hargs
 have key:∀ (fs:List (List PK)) (z:HF (Ar 1000 ts) fs),e = .normal \/ e = .ret->Afv T ts fn.results.toList s' fs=some z->Ai3 (Ar 1000 ts) fs z λrs y=>Ji.Den P ⟨f,ts,rs,K.mv⟩ nt x y:=by
  intro fs
  induction fs with
  | nil=>intro z _ _;trivial
  | cons rs r ih =>
   intro z he hz
   cases r with
   | nil =>
    simp only [Afv] at hz;split at hz
    . rename_i g y hy
      cases g with
      | false=>cases hz
      | true =>
       obtain rfl:=QA hz;exact Aot hT hf hname hb hN hlen he h1 hy
    . cases hz
   | cons r q =>
    simp only [Afv] at hz;split at hz
    . rename_i g y hy
      cases g with
      | false=>cases hz
      | true =>
       obtain rfl:=QA hz;exact Aot hT hf hname hb hN hlen he h1 hy
    . split at hz
      . rename_i w hw;obtain rfl:=QA hz;exact ih w he hw
      . cases hz
 cases e with
 | normal=>exact key forms z (.inl rfl) h2
 | ret=>exact key forms z (.inr rfl) h2
 | _=>cases h2
end Go.Ev

/- DERIVED. A range over what slices.Backward hands back, over shapes. -/
namespace Go.Ev
open Go
variable {P:Program} {T:Ty} {α:Type}
def Ams (p0 p1 i:Nat) (z:Int) (s:St3):St3:={ s with slots:=B2 p1 (.d (.int .i64) z) (B2 p0 (.d (.int .i64) (i:Int)) s.slots) }
def A6j (wr:Nat->Bool) (p0 p1:Nat) (s:St3):St3:={ s with slots:=s.slots.filter λp=>!(wr p.1 || (Nat.beq p.1 p0 || Nat.beq p.1 p1)) }
theorem B32 {p0 p1 i:Nat} {z:Int} {s:St3} {nt:Nat}:(Ams p0 p1 i z s).st nt=Tv p0 p1 i z (s.st nt):=by
 simp only [Ams,St3.st,Tv,<- Gs];rfl
theorem A7b {β γ:Type} (f:β->γ) (q:Nat->Bool):∀ l:List (Nat × β),Am f (l.filter λp=>q p.1)=(Am f l).filter λp=>q p.1
 | []=>rfl
 | (j,y)::r=>by
  have ih:=A7b f q r;simp only [Am] at ih;simp only [Am,QT,YT]
  cases q j with
  | true=>simp [ih]
  | false=>simp [ih]
theorem Asx {wr:Nat->Bool} {p0 p1:Nat} {s:St3} {nt:Nat}:(A6j wr p0 p1 s).st nt=Ut wr p0 p1 (s.st nt):=by
 simp only [A6j,St3.st,Ut]
 rw [A7b (q:=λk=>!(wr k || (Nat.beq k p0 || Nat.beq k p1)))]
def Ay7 (H:Tm) (outs:List (Exit × Tm)) (wr:Nat->Bool) (p0 p1:Nat) (f:H.den->Option α) (ks:KS α outs) (x:Exit) (s:St3):Option α :=
 match x with
 | .normal=>match H.dec (A6j wr p0 p1 s) with
  | some v=>f v
  | none=>none
 | .ret=>Q2 outs ks .ret (A6j wr p0 p1 s)
 | .exit id=>Q2 outs ks (.exit id) (A6j wr p0 p1 s)
 | _=>none
def B3r (P:Program) (T:Ty) (K:Aj) (D:D3 α) (H:Tm) (outs:List (Exit × Tm)) (p0 p1:Nat) (asg body:Code) (i:Nat) (z:Int) (v:H.den) (f:H.den->Option α) (ks:KS α outs):Option α :=
 C5 P T K D asg (Ams p0 p1 i z (H.enc v)) λx sA=>match x with
  | .normal=>C5 P T K D body sA (Ay7 H outs (λt=>asg.wr t || body.wr t) p0 p1 f ks)
  | _=>none
def Rn {V Ks:Type} (zsOf:V->List Int) (B:Nat->Int->V->(V->Option α)->Ks->Option α) (zs:List Int):Nat->V->(V->Option α)->Ks->Option α
 | 0,v,d,_=>d v
 | i+1,v,d,ks=>B i (zs.getD i 0) v (λv'=>gd (decide (zsOf v'=zs)) (Rn zsOf B zs i v' d ks)) ks
def Rm {V Ks:Type} (zsOf:V->List Int) (B:Nat->Int->V->(V->Option α)->Ks->Option α) (Dn:V->Ks->Option α) (v:V) (ks:Ks):Option α :=
 gd (decide ((zsOf v).length<=4611686018427387904)) (Rn zsOf B (zsOf v) (zsOf v).length v (λv'=>Dn v' ks) ks)
theorem Avs {g:Bool} {x:Option α} {r:α} (h:gd g x=some r):g=true/\x=some r:=by cases g with | true=>exact ⟨rfl,h⟩ | false=>cases h
theorem Tm.dec_weak {X:Tm} {s:St3} {w:X.den} {nt:Nat} (h:X.dec s=some w):Km (s.st nt) ((X.enc w).st nt):=λ_ _ _ _ hs=>Tm.dec_ok h hs
theorem Anp (hT:B8 P T) (hfol:P.follows .mixedOrders=true) {K:Aj} {D:D3 α} {g p0 p1 fB:Nat} {asg body:Code} {H:Tm} {outs:List (Exit × Tm)} (zsOf:H.den->List Int)
  (B:Nat->Int->H.den->(H.den->Option α)->KS α outs->Option α) (Dn:H.den->KS α outs->Option α) (hBk:Atd P fB) (hrA:asg.rf=false) (hrB:body.rf=false) (hp0:Nat.blt p0 K.N=true) (hp1:Nat.blt p1 K.N=true)
  (hDa:D3.OK P T K D asg) (hDb:D3.OK P T K D body) (hz:∀ v,A1 g (H.enc v).slots=some (.d (.clo fB (.ref (.sl (.int .i64)))) (zsOf v)))
  (hB:∀ i z v f ks,B3r P T K D H outs p0 p1 asg body i z v f ks=B i z v f ks) (hDn:∀ v ks,Q2 outs ks .normal (H.enc v)=Dn v ks) :
  (⟨H,outs,Rm zsOf B Dn⟩:LO α).Sound P K (.rangeFunc (.tmp g) #[p0,p1] asg body):=by
 intro nt v k r h;obtain ⟨hlen,h⟩:=Avs h;simp only [QO] at hlen;obtain ⟨Z,hZ⟩:∃ Z,Z=zsOf v:=⟨_,rfl⟩;rw [<- hZ] at h hlen
 have clo:∀ v',zsOf v'=Z->A1 g ((H.enc v').st nt).slots=some (Ahu fB Z):=λv' e=>by
  simp only [St3.st,Au,hz v',QV,e];rfl
 have key:∀ (i:Nat) (v:H.den),zsOf v=Z->Rn zsOf B Z i v (λv'=>Dn v' (Ru k outs)) (Ru k outs)=some r ->
   ∃ x s1 X w,H6 P K g p0 p1 fB Z asg body i ((H.enc v).st nt) x (St3.st s1 nt)/\Tm.dec X s1=some w/\k x (X.enc w)=some r:=by
  intro i
  induction i with
  | zero =>
   intro v hv h;simp only [Rn] at h;rw [<- hDn] at h;obtain ⟨X,w,h1,h2⟩:=Xv h;exact ⟨.normal,H.enc v,X,w,.done (clo v hv),h1,h2⟩
  | succ i ih =>
   intro v hv h;simp only [Rn] at h;rw [<- hB] at h;unfold B3r at h;obtain ⟨x,sA,a1,a2⟩:=Th hT hfol (nt:=nt) _ _ _ _ hDa h;rw [B32] at a1
   cases x with
   | normal =>
    simp only at a2;obtain ⟨y,s1,b1,b2⟩:=Th hT hfol (nt:=nt) _ _ _ _ hDb a2
    have out:(y = .ret \/ ∃ id,y = .exit id)->Q2 outs (Ru k outs) y (A6j (λt=>asg.wr t || body.wr t) p0 p1 s1)=some r ->
      ∃ x s1 X w,H6 P K g p0 p1 fB Z asg body (i+1) ((H.enc v).st nt) x (St3.st s1 nt)/\Tm.dec X s1=some w/\k x (X.enc w)=some r:=by
     intro hy hp;obtain ⟨X,w,h1,h2⟩:=Xv hp;refine ⟨y,_,X,w,?_,h1,h2⟩;rw [Asx];exact .stop (clo v hv) hy a1 b1
    cases y with
    | normal =>
     simp only [Ay7] at b2;split at b2
     . rename_i v' hv';obtain ⟨e1,e2⟩:=Avs b2
       obtain ⟨x,s2,X,w,c1,c2,c3⟩:=ih v' (by simpa using e1) e2
       exact ⟨x,s2,X,w,.round (clo v hv) a1 b1 (by rw [<- Asx];exact Tm.dec_weak hv') c1,c2,c3⟩
     . cases b2
    | ret=>exact out (.inl rfl) b2
    | exit id=>exact out (.inr ⟨id,rfl⟩) b2
    | goto l=>cases b2
    | panic c=>cases b2
    | outgrown=>cases b2
   | _=>cases a2
 obtain ⟨x,s1,X,w,c1,c2,c3⟩:=key Z.length v hZ.symm h
 have:=Den.range hBk hlen hrA hrB (by simpa [XD] using hp0) (by simpa [XD] using hp1) c1
 exact ⟨x,X.enc w,⟨Den.weak this (Tm.dec_weak c2),λc' e=>by cases e⟩,c3⟩
end Go.Ev

/- DERIVED. Shorter spellings for walks (squeeze3.py). -/
namespace Go.Ev
open Go
def WX:List (Nat × Ent)->List (Nat × RV)->Prop
 | [],q=>q=[]
 | (i,E)::l,q=>∃ (y:HL E.rs) (q':List (Nat × RV)),q=(i,.sv (Nu E.rs y))::q'/\WX l q'
theorem Be {A:List (Nat × OA)} {l:List (Nat × Oper)} {q:List (Nat × RV)} (m:List (Nat × Ent)) (h:WT A l q) (e:WT A l q=WX m q):WX m q:=e ▸ h
def Ba2:Nat->Nat->List Nat
 | 0,_=>[]
 | k+1,m=>bif Nat.ble m 1 then [] else (m % 2)::Ba2 k (m / 2)
def Ai (f:Func) (k:Nat):Code:=(Af f).at (Ba2 64 k)
def Ag (f:Func) (k:Nat):Array Oper:=Bls (Ai f k)
abbrev A3 (E:Ent):OA:={ ent:=some E }
abbrev B4 (s:Sh):OA:={ sh:=some s }
abbrev Ce (E:Ent3) (h:Nat):OA:={ entB:=some E,hb:=h }
end Go.Ev
