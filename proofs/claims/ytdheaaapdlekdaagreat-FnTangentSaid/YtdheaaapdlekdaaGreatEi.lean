/- DERIVED. The evaluator over shapes of data: all paths of a function. -/
import Derived.Test.YtdheaaapdlekdaaGreatEd

set_option linter.all false
set_option linter.unusedVariables false
set_option linter.unusedSimpArgs false

/- DERIVED. Regions that draw their order, over shapes: each order gives the same. -/
namespace Go.Ev
open Go
variable {P:Program} {T:Ty} {α:Type}
inductive RV where
 | sv (x:SV)
 | bx (E:Ent3) (z:HF (Am 1000 E.ts) E.forms)
inductive AV where
 | none
 | im (E:Ent) (x:HL E.ts) (y:SV)
 | bx (E:Ent3) (x:HP E.ts) (z:HF (Am 1000 E.ts) E.forms)
def AV.ok:AV->Prop
 | .none=>True
 | .im E x y=>∃ r,E.m x=some r/\y=Ae E.rs r
 | .bx E x z=>E.m x=some z
def Eu:List (Nat × Sh)->St3->Option (Bool × St3)
 | [],s=>some (true,s)
 | (t,sh)::r,s=>match Nj s t sh with
  | some (g,s1)=>match Eu r s1 with
   | some (g',s2)=>some (g&&g',s2)
   | none=>none
  | none=>none
def Eg (T:Ty) (K:Ah) (A:OA) (rv:Option RV) (o:Oper) (s:St3):Option (Bool × AV × St3) :=
 match Eu A.fz s with
 | none=>none
 | some (g0,s0)=>match A.ent with
  | some E=>match rv with
   | some (.sv y)=>match Qt E o s0 with
    | some (g,x)=>match s0.put3 K o.dst y with
     | some s'=>some (g0&&g,.im E x y,s')
     | none=>none
    | none=>none
   | _=>none
  | none=>match A.entB with
   | some _=>match rv with
    | some (.bx E z)=>match K0 E.f E.ts o s0 with
     | some (g,x,bor,q)=>Jz (Am 1000 E.ts) E.forms z λrs y =>
      bif Jy K ⟨E.f,E.ts,rs,E.mv⟩ A.hb s0 x bor q y then (match (Bg ⟨E.f,E.ts,rs,E.mv⟩ A.hb s0 q y).2.put3 K o.dst (Bg ⟨E.f,E.ts,rs,E.mv⟩ A.hb s0 q y).1 with
       | some s'=>some (g0&&(g&&G8 (B1 ⟨E.f,E.ts,rs,E.mv⟩ y) s0.boxes (Dk ⟨E.f,E.ts,rs,E.mv⟩ (Iq ⟨E.f,E.ts,rs,E.mv⟩ A.hb q)) q),.bx E x z,s')
       | none=>none) else none
     | none=>none
    | _=>none
   | none=>match A0r T K A o s0 with
    | some (g,s')=>some (g0&&g,.none,s')
    | none=>none
theorem A18 {nt:Nat}:∀ {l:List (Nat × Sh)} {s s':St3} {g:Bool},Eu l s=some (g,s')->g=true->Ip (s.st nt) (s'.st nt)
 | [],s,s',g,h,_=>by
  simp only [Eu,QC,QL] at h;obtain ⟨_,rfl⟩:=h;exact λ_ _ E _ hs=>⟨E,hs⟩
 | (t,sh)::r,s,s',g,h,hg=>by
  simp only [Eu] at h;split at h
  . rename_i g1 s1 h1;split at h
    . rename_i g2 s2 h2;simp only [QC,QL] at h;obtain ⟨rfl,rfl⟩:=h;simp only [QF] at hg;intro Γ w E tmps hs;obtain ⟨x',ob,q1,q2⟩:=T3 (nt:=nt) h1 hg.1
      obtain ⟨E1,hs1⟩:=Ee [(t,x')] (s':=s1.st nt) (obs:=ob++[]) hs (by simp only [F7,q1]) (λp hp=>by simp only [XU] at hp;exact q2 p hp)
      exact A18 h2 hg.2 Γ w E1 tmps hs1
    . cases h
  . cases h
def RV.S (P:Program):Option RV->Prop
 | some (.bx E _)=>E.Sound P
 | _=>True
theorem A21 (hT:Ay P T) {K:Ah} {A:OA} {rv:Option RV} {o:Oper} {s s':St3} {g:Bool} {av:AV} {nt:Nat} (h:Eg T K A rv o s=some (g,av,s')) (hg:g=true) (hav:av.ok) (hE:A.S P) (hrv:RV.S P rv):A0u P K o (s.st nt) (s'.st nt):=by
 unfold Eg at h;split at h
 . cases h
 rename_i g0 s0 h0;have fin:∀ {D:Fw} {obs:List Prop},g0=true->Eh P T K o D (s0.st nt)=some (s'.st nt,obs)->(∀ p ∈ obs,p)->A0u P K o (s.st nt) (s'.st nt):=λhg0 hs ho=>⟨_,A18 h0 hg0,Fy hT hs ho⟩;split at h
 . rename_i E hent;split at h
   . rename_i y;split at h
     . rename_i g1 x hc;split at h
       . rename_i s2 hp;simp only [QC,QL] at h;obtain ⟨rfl,rfl,rfl⟩:=h;simp only [QF] at hg;obtain ⟨rfl,rfl⟩:=hg;obtain ⟨r,hm,rfl⟩:=hav;obtain ⟨obs,h1,h2⟩:=A5d (T:=T) (nt:=nt) hc hm (hE.1 E hent);have:=Rj (nt:=nt) hp;rw [A8o] at this;obtain ⟨D',obs',h3,h4⟩:=T5 h2 this;exact fin rfl h3 (h4 h1)
       . cases h
     . cases h
   . cases h
 . rename_i hent;split at h
   . rename_i F hF;split at h
     . rename_i E z;split at h
       . rename_i g1 x bor q hc;have hS:E.Sound P:=hrv
         have hm:∀ {r:Bool × AV × St3} ,Jz (Am 1000 E.ts) E.forms z (λrs y =>
          bif Jy K ⟨E.f,E.ts,rs,E.mv⟩ A.hb s0 x bor q y then (match (Bg ⟨E.f,E.ts,rs,E.mv⟩ A.hb s0 q y).2.put3 K o.dst (Bg ⟨E.f,E.ts,rs,E.mv⟩ A.hb s0 q y).1 with
           | some s'=>some (g0&&(g1&&G8 (B1 ⟨E.f,E.ts,rs,E.mv⟩ y) s0.boxes (Dk ⟨E.f,E.ts,rs,E.mv⟩ (Iq ⟨E.f,E.ts,rs,E.mv⟩ A.hb q)) q),AV.bx E x z,s')
           | none=>none) else none)=some r->r.2.1 = .bx E x z:=λ{r} hr=>by
          have key:∀ (fs:List (List PK)) (zz:HF (Am 1000 E.ts) fs),Jz (Am 1000 E.ts) fs zz (λrs y =>
           bif Jy K ⟨E.f,E.ts,rs,E.mv⟩ A.hb s0 x bor q y then (match (Bg ⟨E.f,E.ts,rs,E.mv⟩ A.hb s0 q y).2.put3 K o.dst (Bg ⟨E.f,E.ts,rs,E.mv⟩ A.hb s0 q y).1 with
            | some s'=>some (g0&&(g1&&G8 (B1 ⟨E.f,E.ts,rs,E.mv⟩ y) s0.boxes (Dk ⟨E.f,E.ts,rs,E.mv⟩ (Iq ⟨E.f,E.ts,rs,E.mv⟩ A.hb q)) q),AV.bx E x z,s')
            | none=>none) else none)=some r->r.2.1 = .bx E x z:=by
           intro fs zz hz
           have hall:Ab5 (Am 1000 E.ts) fs zz (λ_ _=>True):=by
            clear hz
            induction fs with
            | nil=>trivial
            | cons f fs ih =>
             cases fs with
             | nil=>trivial
             | cons f2 fs=>cases zz with
              | inl a=>trivial
              | inr b=>exact ih b
           obtain ⟨rs,y,h1,_⟩:=Nc hz hall
           cases hck:Jy K ⟨E.f,E.ts,rs,E.mv⟩ A.hb s0 x bor q y with
           | false=>rw [hck] at h1;cases h1
           | true =>
            rw [hck] at h1;simp only [cond] at h1;split at h1
            . obtain rfl:=QA h1;rfl
            . cases h1
          exact key E.forms z hr
         have e1:av = .bx E x z:=hm h;subst e1;have hav:E.m x=some z:=hav;obtain ⟨rs,y,h1,h2⟩:=Nc h (hS nt x z hav)
         cases hck:Jy K ⟨E.f,E.ts,rs,E.mv⟩ A.hb s0 x bor q y with
         | false=>rw [hck] at h1;cases h1
         | true =>
          rw [hck] at h1;simp only [cond] at h1;split at h1
          . rename_i s2 hp;simp only [QC,QL] at h1;obtain ⟨e,_,rfl⟩:=h1;rw [<- e] at hg;simp only [QF] at hg;obtain ⟨rfl,rfl,hl⟩:=hg;obtain ⟨D,obs,q1,q2⟩:=Adj (T:=T) (E:=⟨E.f,E.ts,rs,E.mv⟩) hc hck hl h2 hp;exact fin rfl q1 q2
          . cases h1
       . cases h
     . cases h
   . split at h
     . rename_i g1 s2 hr;simp only [QC,QL] at h;obtain ⟨rfl,rfl,rfl⟩:=h;simp only [QF] at hg;obtain ⟨D,obs,h1,h2⟩:=Akc (nt:=nt) hT hr hg.2;exact fin hg.1 h1 h2
     . cases h
abbrev OA.at (A:List (Nat × OA)) (i:Nat):OA:=(A2 i A).getD {}
def S3 (T:Ty) (K:Ah) (A:List (Nat × OA)) (q:List (Nat × RV)) (L:Nat):List (Nat × Oper)->St3->St3
 | [],s=>s
 | (i,o)::l,s=>S3 T K A q L l (bif L.testBit i then (match Eg T K (OA.at A i) (A2 i q) o s with
  | some r=>r.2.2
  | none=>s) else s)
def WT (A:List (Nat × OA)):List (Nat × Oper)->List (Nat × RV)->Prop
 | [],q=>q=[]
 | (i,_)::l,q=>match (OA.at A i).ent with
  | some E=>∃ y q',q=(i,.sv (Ae E.rs y))::q'/\WT A l q'
  | none=>match (OA.at A i).entB with
   | some F=>∃ z q',q=(i,.bx F z)::q'/\WT A l q'
   | none=>WT A l q
def Ga (T:Ty) (K:Ah) (A:List (Nat × OA)) (q:List (Nat × RV)):List (Nat × Oper)->St3->St3->Prop
 | [],s,s'=>s=s'
 | (i,o)::l,s,s'=>∃ av s1,Eg T K (OA.at A i) (A2 i q) o s=some (true,av,s1)/\av.ok/\Ga T K A q l s1 s'
theorem WT.keys {A:List (Nat × OA)}:∀ {l:List (Nat × Oper)} {q:List (Nat × RV)},WT A l q->∀ i,(∀ p ∈ l,p.1 ≠ i)->A2 i q=none
 | [],q,h,i,_=>by unfold WT at h;subst h;rfl
 | (j,o)::l,q,h,i,hi=>by
  have ih:=λq' (h':WT A l q')=>WT.keys h' i λp hp=>hi p (by simp [hp])
  unfold WT at h;split at h
  . obtain ⟨y,q',rfl,h'⟩:=h
    rw [Bb (hi (j,o) (by simp))]
    exact ih q' h'
  . split at h
    . obtain ⟨y,q',rfl,h'⟩:=h
      rw [Bb (hi (j,o) (by simp))]
      exact ih q' h'
    . exact ih q h
theorem Ga.congr {K:Ah} {A:List (Nat × OA)} {q q':List (Nat × RV)}:∀ {l:List (Nat × Oper)} {s s':St3},(∀ p ∈ l,A2 p.1 q=A2 p.1 q')->Ga T K A q l s s'->Ga T K A q' l s s'
 | [],_,_,_,h=>h
 | (i,o)::l,s,s',hq,h=>by
  obtain ⟨av,s1,h1,h2,h3⟩:=h
  exact ⟨av,s1,by rw [<- hq (i,o) (by simp)];exact h1,h2,Ga.congr (λp hp=>hq p (by simp [hp])) h3⟩
theorem Al3 {l:List (Nat × Sh)} {s:St3} {k:St3->Option α} {r:α} (h:Ib l s k=some r):∃ s',Eu l s=some (true,s')/\k s'=some r:=by
 induction l generalizing s with
 | nil=>exact ⟨s,rfl,h⟩
 | cons p l ih =>
  obtain ⟨t,sh⟩:=p;simp only [Ib] at h;split at h
  . rename_i g s1 h1
    cases g with
    | false=>cases h
    | true =>
     obtain ⟨s2,h2,h3⟩:=ih h
     exact ⟨s2,by simp only [Eu,h1,h2,ZN],h3⟩
  . cases h
theorem A5x {K:Ah} {ops:List Oper} {A:List (Nat × OA)}:∀ (l:List (Nat × Oper)) (s:St3) (k:St3->Option α) (r:α),(l.map (·.1)).Nodup->(∀ p ∈ l,p.2.guard=none)->(∀ p ∈ l,(OA.at A p.1).two=false) ->
  Id T K ops A l s k=some r->∃ q s',WT A l q/\k s'=some r/\Ga T K A q l s s'
 | [],s,k,r,_,_,_,h=>⟨[],s,rfl,h,rfl⟩
 | (i,o)::l,s,k,r,hn,hg,hx,h=>by
  simp only [QT,KZ] at hn
  have hni:∀ p ∈ l,p.1 ≠ i:=λp hp e=>hn.1 (by rw [<- e];exact ZK.2 ⟨p,hp,rfl⟩)
  simp only [Id] at h;obtain ⟨s0,h0,h⟩:=Al3 h
  have hgo:o.guard=none:=hg (i,o) (by simp)
  unfold Xf at h;rw [hgo] at h;simp only at h
  have ih:=λs1 h'=>A5x (K:=K) (ops:=ops) (A:=A) l s1 k r hn.2 (λp hp=>hg p (by simp [hp])) (λp hp=>hx p (by simp [hp])) h'
  obtain ⟨hxi,hal,hbo,hsh⟩:=OA.two_false (hx (i,o) (by simp))
  unfold T1 Re at h;simp only [OA.at] at hal hbo hsh;simp only [hal,hbo,hsh,Akj] at h
  cases hent:(OA.at A i).ent with
  | some E =>
   have hB:(OA.at A i).entB=none:=by
    cases e:(OA.at A i).entB with
    | none=>rfl
    | some F=>rw [hent,e] at hxi;cases hxi
   simp only [OA.at] at hent hB;simp only [hent,hB] at h;split at h
   . rename_i g x hc
     cases g with
     | false=>cases h
     | true =>
      simp only [cond,ob] at h;split at h
      . rename_i y hm;split at h
        . rename_i s1 hp;obtain ⟨q,s',w1,w2,w3⟩:=ih s1 h;refine ⟨(i,.sv (Ae E.rs y))::q,s',?_,w2,?_⟩
          . unfold WT;simp only [OA.at,hent];exact ⟨y,q,rfl,w1⟩
          . refine ⟨.im E x (Ae E.rs y),s1,?_,⟨y,hm,rfl⟩,Ga.congr (λp hp=>(Bb (hni p hp).symm).symm) w3⟩;rw [Bs];simp only [Eg,OA.at,h0,hent,hc,hp,ZN]
        . cases h
      . cases h
   . cases h
  | none =>
   cases hB:(OA.at A i).entB with
   | some F =>
    simp only [OA.at] at hent hB;simp only [hent,hB] at h;unfold Rd at h;split at h
    . rename_i g x bor qn hc
      cases g with
      | false=>cases h
      | true =>
       simp only [cond] at h;split at h
       . rename_i z hm
         have hall:∀ (fs:List (List PK)) (zz:HF (Am 1000 F.ts) fs),Ab5 (Am 1000 F.ts) fs zz (λ_ _=>True):=by
          intro fs
          induction fs with
          | nil=>intro _;trivial
          | cons f fs ih2 =>
           intro zz
           cases fs with
           | nil=>trivial
           | cons f2 fs=>cases zz with
            | inl a=>trivial
            | inr b=>exact ih2 b
         have key:∀ (fs:List (List PK)) (zz:HF (Am 1000 F.ts) fs),(Jz (Am 1000 F.ts) fs zz λrs y=>onB K ⟨F.f,F.ts,rs,F.mv⟩ ((A2 i A).getD {}).hb o s0 x bor qn y λs2=>Id T K ops A l s2 k)=some r ->
           ∃ s1,(Jz (Am 1000 F.ts) fs zz λrs y =>
            bif Jy K ⟨F.f,F.ts,rs,F.mv⟩ ((A2 i A).getD {}).hb s0 x bor qn y then (match (Bg ⟨F.f,F.ts,rs,F.mv⟩ ((A2 i A).getD {}).hb s0 qn y).2.put3 K o.dst (Bg ⟨F.f,F.ts,rs,F.mv⟩ ((A2 i A).getD {}).hb s0 qn y).1 with
             | some s'=>some (true&&(true&&G8 (B1 ⟨F.f,F.ts,rs,F.mv⟩ y) s0.boxes (Dk ⟨F.f,F.ts,rs,F.mv⟩ (Iq ⟨F.f,F.ts,rs,F.mv⟩ ((A2 i A).getD {}).hb qn)) qn),AV.bx F x z,s')
             | none=>none) else none)=some (true,.bx F x z,s1)/\Id T K ops A l s1 k=some r:=by
          intro fs
          induction fs with
          | nil=>intro _ h;cases h
          | cons f fs ih2 =>
           have one:∀ (y:HR f (Am 1000 F.ts)),(onB K ⟨F.f,F.ts,f,F.mv⟩ ((A2 i A).getD {}).hb o s0 x bor qn y λs2=>Id T K ops A l s2 k)=some r ->
             ∃ s1,(bif Jy K ⟨F.f,F.ts,f,F.mv⟩ ((A2 i A).getD {}).hb s0 x bor qn y then (match (Bg ⟨F.f,F.ts,f,F.mv⟩ ((A2 i A).getD {}).hb s0 qn y).2.put3 K o.dst (Bg ⟨F.f,F.ts,f,F.mv⟩ ((A2 i A).getD {}).hb s0 qn y).1 with
             | some s'=>some (true&&(true&&G8 (B1 ⟨F.f,F.ts,f,F.mv⟩ y) s0.boxes (Dk ⟨F.f,F.ts,f,F.mv⟩ (Iq ⟨F.f,F.ts,f,F.mv⟩ ((A2 i A).getD {}).hb qn)) qn),AV.bx F x z,s')
             | none=>none) else none)=some (true,.bx F x z,s1)/\Id T K ops A l s1 k=some r:=by
            intro y h;unfold onB at h
            cases hck:Jy K ⟨F.f,F.ts,f,F.mv⟩ ((A2 i A).getD {}).hb s0 x bor qn y with
            | false=>rw [hck] at h;cases h
            | true =>
             rw [hck] at h;simp only [cond] at h
             cases hl:G8 (B1 ⟨F.f,F.ts,f,F.mv⟩ y) s0.boxes (Dk ⟨F.f,F.ts,f,F.mv⟩ (Iq ⟨F.f,F.ts,f,F.mv⟩ ((A2 i A).getD {}).hb qn)) qn with
             | false=>rw [hl] at h;cases h
             | true =>
              rw [hl] at h;simp only at h;split at h
              . rename_i s1 hp;refine ⟨s1,?_,h⟩;simp only [cond,hp,ZN]
              . cases h
           cases fs with
           | nil=>exact one
           | cons f2 fs =>
            intro zz h
            cases zz with
            | inl a=>exact one a h
            | inr b=>exact ih2 b h
         obtain ⟨s1,k1,k2⟩:=key F.forms z h;obtain ⟨q,s',w1,w2,w3⟩:=ih s1 k2;refine ⟨(i,.bx F z)::q,s',?_,w2,?_⟩
         . unfold WT;simp only [OA.at,hent,hB];exact ⟨z,q,rfl,w1⟩
         . refine ⟨.bx F x z,s1,?_,hm,Ga.congr (λp hp=>(Bb (hni p hp).symm).symm) w3⟩;rw [Bs];simp only [Eg,OA.at,h0,hent,hB,hc];exact k1
       . cases h
    . cases h
   | none =>
    simp only [OA.at] at hent hB;simp only [hent,hB] at h;split at h
    . rename_i gr s2 hr
      cases gr with
      | false=>cases h
      | true =>
       simp only [cond] at h;obtain ⟨q,s',w1,w2,w3⟩:=ih s2 h;refine ⟨q,s',?_,w2,?_⟩
       . unfold WT;simp only [OA.at,hent,hB];exact w1
       . refine ⟨.none,s2,?_,trivial,w3⟩;have hnone:A2 i q=none:=WT.keys w1 i hni;rw [hnone];simp only [Eg,OA.at,h0,hent,hB,hr,ZN]
    . cases h
def A7z (o:Oper) (L:Nat):Bool:=o.after.toList.all λe=>!Region.binds .any e || L.testBit e.on
def Na:List (Nat × Oper)->List Nat->List Nat
 | [],D=>D
 | (i,o)::l,D=>Na l (D++(D.filter (A7z o)).map λL=>L ||| 1 <<< i)
def rdy (l:List (Nat × Oper)) (L:Nat):List (Nat × Oper):=l.filter λp=>!L.testBit p.1&&A7z p.2 L
def Ia (T:Ty) (K:Ah) (A:List (Nat × OA)) (l:List (Nat × Oper)) (s:St3) (q:List (Nat × RV)):Prop :=
 (Na l [0]).map (λL=>(rdy l L).map λp=>Eg T K (OA.at A p.1) (A2 p.1 q) p.2 (S3 T K A q L l s)) =
 (Na l [0]).map (λL=>(rdy l L).map λp=>(Eg T K (OA.at A p.1) (A2 p.1 q) p.2 (S3 T K A q (2 ^ p.1-1) l s)).map λr=>(r.1,r.2.1,S3 T K A q (L ||| 1 <<< p.1) l s))
theorem Ia.mk {K:Ah} {A:List (Nat × OA)} {l:List (Nat × Oper)} {s:St3} {q:List (Nat × RV)}
  (h:(Na l [0]).map (λL=>(rdy l L).map λp=>Eg T K (OA.at A p.1) (A2 p.1 q) p.2 (S3 T K A q L l s)) =
   (Na l [0]).map (λL=>(rdy l L).map λp=>(Eg T K (OA.at A p.1) (A2 p.1 q) p.2 (S3 T K A q (2 ^ p.1-1) l s)).map λr=>(r.1,r.2.1,S3 T K A q (L ||| 1 <<< p.1) l s))):Ia T K A l s q:=h
def Av1 (A:List (Nat × OA)) (l:List (Nat × Oper)):Bool :=
 l.all λp=>(match p.2.guard with | none=>true | some _=>false)&&p.2.after.toList.all (λe=>!Region.binds .any e || Nat.blt e.on p.1) && !(OA.at A p.1).two
theorem A61 (L i:Nat):(L.testBit i=true->L % 2 ^ (i+1)=L % 2 ^ i ||| 1 <<< i)/\(L.testBit i=false->L % 2 ^ (i+1)=L % 2 ^ i):=by
 constructor
 . intro h;refine KQ λj=>?_;rw [KG,Qas,KG,JB];by_cases e:j=i
   . subst e;simp [h]
   . by_cases h1:j<i
     . have h2:j<i+1:=by omega
       have h3:¬ i<=j:=by omega
       simp [h1,h2,h3]
     . have h2:¬ j<i+1:=by omega
       obtain ⟨d,hd⟩:∃ d,j-i=d+1:=⟨j-i-1,by omega⟩
       simp [h1,h2,hd,JW]
 . intro h;refine KQ λj=>?_;rw [KG,KG];by_cases e:j=i
   . subst e;simp [h]
   . by_cases h1:j<i
     . have h2:j<i+1:=by omega
       simp [h1,h2]
     . have h2:¬ j<i+1:=by omega
       simp [h1,h2]
theorem Abh {L:Nat}:∀ (l:List (Nat × Oper)) (i:Nat) (D:List Nat),(∀ k p,l[k]? = some p->p.1=i+k/\(∀ e ∈ p.2.after,Region.binds .any e=true->e.on<p.1)/\(L.testBit p.1=true->∀ e ∈ p.2.after,Region.binds .any e=true->L.testBit e.on=true)) ->
  L % 2 ^ i ∈ D->L % 2 ^ (i+l.length) ∈ Na l D
 | [],i,D,_,h=>by simpa [Na] using h
 | (j,o)::l,i,D,hl,h=>by
  obtain ⟨h1,h2,h3⟩:=hl 0 (j,o) rfl;simp only [KE] at h1;subst h1;simp only [Na,ZD]
  rw [show j+(l.length+1)=j+1+l.length by omega]
  refine Abh l (j+1) _ (λk p hk=>?_) ?_
  . obtain ⟨a,b⟩:=hl (k+1) p (by simpa using hk)
    exact ⟨by omega,b⟩
  . cases hb:L.testBit j with
    | false =>
     rw [(A61 L j).2 hb];exact QE.2 (.inl h)
    | true =>
     rw [(A61 L j).1 hb];refine QE.2 (.inr (ZK.2 ⟨_,Qad.2 ⟨h,?_⟩,rfl⟩));unfold A7z;refine QJ.2 λe he=>?_
     cases hbe:Region.binds .any e with
     | false=>rfl
     | true =>
      have he':e ∈ o.after:=by simpa using he
      have:=h2 e he' hbe;simp only [KG,this,decide_true,ZV,ZT,YI];exact h3 hb e he' hbe
theorem A8d {K:Ah} {A:List (Nat × OA)} {q:List (Nat × RV)} {L:Nat}:∀ {l:List (Nat × Oper)} {s s':St3},Ga T K A q l s s'->(∀ p ∈ l,L.testBit p.1=true)->S3 T K A q L l s=s'
 | [],s,s',h,_=>h
 | (i,o)::l,s,s',h,hL=>by
  obtain ⟨av,s1,h1,_,h3⟩:=h
  simp only [S3,hL (i,o) (by simp),cond,h1]
  exact A8d h3 λp hp=>hL p (by simp [hp])
theorem O3 {K:Ah} {A:List (Nat × OA)} {q:List (Nat × RV)} {L:Nat}:∀ {l:List (Nat × Oper)} {s:St3},(∀ p ∈ l,L.testBit p.1=false)->S3 T K A q L l s=s
 | [],s,_=>rfl
 | (i,o)::l,s,hL=>by
  simp only [S3,hL (i,o) (by simp),cond]
  exact O3 λp hp=>hL p (by simp [hp])
theorem Ga.at {K:Ah} {A:List (Nat × OA)} {q:List (Nat × RV)} {i0:Nat}:∀ {l:List (Nat × Oper)} {s s':St3} {b:Nat},Ga T K A q l s s'->(∀ k p,l[k]? = some p->p.1=b+k)->∀ {i:Nat} {o:Oper},i=b+i0->l[i0]? = some (i,o) ->
  ∃ av s1,Eg T K (OA.at A i) (A2 i q) o (S3 T K A q (2 ^ i-1) l s)=some (true,av,s1)/\av.ok:=by
 induction i0 with
 | zero =>
  intro l s s' b h hl i o hi ho
  match l,h with
  | [],_=>simp at ho
  | (j,o')::l,h =>
   simp only [JJ,QC,QL] at ho;obtain ⟨rfl,rfl⟩:=ho;obtain ⟨av,s1,h1,h2,_⟩:=h;refine ⟨av,s1,?_,h2⟩;rw [O3 (λp hp=>?_)]
   . exact h1
   . obtain ⟨k,hk⟩:=YX hp;have:=hl k p hk;rw [ZP];simp only [ZS];omega
 | succ i0 ih =>
  intro l s s' b h hl i o hi ho
  match l,h with
  | [],_=>simp at ho
  | (j,o')::l,h =>
   obtain ⟨av,s1,h1,_,h3⟩:=h;have hj:=hl 0 (j,o') rfl;simp only [KE] at hj
   obtain ⟨av2,s2,q1,q2⟩:=ih (b:=b+1) h3 (λk p hk=>by have:=hl (k+1) p (by simpa using hk);omega) (i:=i) (o:=o) (by omega) (by simpa using ho)
   refine ⟨av2,s2,?_,q2⟩
   have hb:(2 ^ i-1).testBit j=true:=by
    rw [ZP];simp only [QN];omega
   simp only [S3,hb,cond,h1];exact q1
theorem WT.bx {A:List (Nat × OA)}:∀ {l:List (Nat × Oper)} {q:List (Nat × RV)},WT A l q->∀ {i:Nat} {E:Ent3} {z:HF (Am 1000 E.ts) E.forms},A2 i q=some (.bx E z)->(OA.at A i).entB=some E
 | [],q,h,i,E,z,hi=>by unfold WT at h;subst h;cases hi
 | (j,o)::l,q,h,i,E,z,hi=>by
  unfold WT at h;split at h
  . obtain ⟨y,q',rfl,h'⟩:=h;simp only [A2] at hi
    cases hb:Nat.beq j i with
    | true=>rw [hb] at hi;cases hi
    | false=>rw [hb] at hi;exact WT.bx h' hi
  . split at h
    . rename_i F hF;obtain ⟨y,q',rfl,h'⟩:=h;simp only [A2] at hi
      cases hb:Nat.beq j i with
      | true =>
       rw [hb] at hi;have:=QB hb;subst this;simp only [cond,QC,RV.bx.injEq] at hi;obtain ⟨rfl,_⟩:=hi;exact hF
      | false=>rw [hb] at hi;exact WT.bx h' hi
    . exact WT.bx h hi
theorem A5o {l:List Oper} {k:Nat} {p:Nat × Oper} (h:(A7 l)[k]? = some p):p.1=0+k:=by
 rw [YZ];exact (Cv h).1
end Go.Ev

/- DERIVED. Regions that draw their order: what an operation does hangs on what it names, and on the boxes. -/
namespace Go.Ev
open Go
variable {P:Program} {T:Ty} {α:Type}
def Jd (o:Oper):Option (List Operand):=match o.op with
 | .move x=>some [x]
 | .assign x=>some [x]
 | .pick c a b=>some [c,a,b]
 | .load _ a=>some [a]
 | .nilCheck x=>some [x]
 | .binOp _ _ x y _=>some [x,y]
 | .unOp _ _ x=>some [x]
 | .convert _ _ x=>some [x]
 | .fieldAddr _ x _=>some [x]
 | .indexAddr _ x i=>some [x,i]
 | .extract x _=>some [x]
 | .store _ a x=>some [a,x]
 | .alloc _=>some []
 | .box _ x=>some [x]
 | .call c=>match c.callee with
  | .value f=>some (f::c.args.toList)
  | .builtin .len=>some c.args.toList
  | .builtin .max=>some c.args.toList
  | .builtin .min=>some c.args.toList
  | _=>none
 | .slice _ x lo hi none=>some (x::(lo.toList++hi.toList))
 | .build _ ps=>some (ps.toList.map (·.2))
 | .buildSlice _ _ ps=>some (ps.toList.map (·.2))
 | _=>none
theorem Me {s s2:St3}:∀ {l:List Operand},(∀ x ∈ l,s.val x=s2.val x)->l.map s.val=l.map s2.val
 | [],_=>rfl
 | x::l,h=>by rw [QT,QT,h x (by simp),Me λy hy=>h y (by simp [hy])]
theorem Vp {s s2:St3}:∀ {o:Option Operand},(∀ x ∈ o.toList,s.val x=s2.val x)->o.map s.val=o.map s2.val
 | none,_=>rfl
 | some x,h=>by rw [QV,QV,h x (by simp)]
theorem Wx {s s2:St3} {ps:Array (Nat × Operand)} (h:∀ x ∈ ps.toList.map (·.2),s.val x=s2.val x):Dd s ps=Dd s2 ps:=by
 unfold Dd
 exact ZF λp hp=>by rw [h p.2 (ZK.2 ⟨p,hp,rfl⟩)]
theorem Aly {hint:Option Sh} {o:Oper} {xs:List Operand} {s s2:St3} (hq:Jd o=some xs) (hx:∀ x ∈ xs,s.val x=s2.val x) (hb:s.boxes=s2.boxes):Ln T hint o s=Ln T hint o s2:=by
 unfold Jd at hq;unfold Ln;split at hq
 case h_15 c e =>
  rw [e];dsimp only;split at hq
  . rename_i f hc;rw [hc]
  . rename_i hc;rw [hc];obtain rfl:=QA hq;dsimp only;split
    . rename_i x t h1 h2
      rw [hx x (by rw [h1];simp),hb]
    . rfl
  . rename_i hc;rw [hc];obtain rfl:=QA hq;dsimp only;split
    . rename_i x y h1
      rw [hx x (by rw [h1];simp),hx y (by rw [h1];simp)]
    . rfl
  . rename_i hc;rw [hc];obtain rfl:=QA hq;dsimp only;split
    . rename_i x y h1
      rw [hx x (by rw [h1];simp),hx y (by rw [h1];simp)]
    . rfl
  . cases hq
 case h_2 x e =>
  obtain rfl:=QA hq;rw [e]
  cases x with
  | tmp t =>
   show I5 (s.val (.tmp t))=I5 (s2.val (.tmp t))
   rw [hx _ (by simp)]
  | const v=>cases v <;> first | rfl | (rename_i a;cases a <;> rfl)
  | func f=>rfl
  | global g=>rfl
 case h_16 t x lo hi e =>
  obtain rfl:=QA hq;rw [e];dsimp only
  rw [hx x (by simp),Vp (o:=lo) λy hy=>hx y (by simp [hy]),Vp (o:=hi) λy hy=>hx y (by simp [hy]),hb]
 case h_17 t ps e =>
  obtain rfl:=QA hq;rw [e];dsimp only;rw [Wx hx]
 case h_18 t n ps e =>
  obtain rfl:=QA hq;rw [e];dsimp only;rw [Wx hx]
 all_goals first
  | (cases hq;done)
  | (rename_i e
     obtain rfl:=QA hq;simp only [QW,YJ,or_false,forall_eq_or_imp,forall_eq] at hx
     first
      | (rw [e];done)
      | (rw [e];simp only [hx,hb]))
theorem Am0 {E:Ent} {o:Oper} {xs:List Operand} {s s2:St3} (hq:Jd o=some xs) (hx:∀ x ∈ xs,s.val x=s2.val x) (hb:s.boxes=s2.boxes):Qt E o s=Qt E o s2:=by
 unfold Jd at hq;unfold Qt;split at hq
 case h_15 c e =>
  rw [e];dsimp only;split at hq
  . rename_i f hc;rw [hc];obtain rfl:=QA hq;dsimp only
    rw [hx f (by simp),Me (s:=s) (s2:=s2) (l:=c.args.toList) (λy hy=>hx y (by simp [hy])),hb]
  . rename_i hc;rw [hc]
  . rename_i hc;rw [hc]
  . rename_i hc;rw [hc]
  . cases hq
 all_goals first
  | (cases hq;done)
  | (rename_i e;rw [e])
theorem Ak6 {f0:Nat} {ts:List PK} {o:Oper} {xs:List Operand} {s s2:St3} (hq:Jd o=some xs) (hx:∀ x ∈ xs,s.val x=s2.val x) (hb:s.boxes=s2.boxes):K0 f0 ts o s=K0 f0 ts o s2:=by
 unfold Jd at hq;unfold K0;split at hq
 case h_15 c e =>
  rw [e];dsimp only;split at hq
  . rename_i f hc;rw [hc];obtain rfl:=QA hq;dsimp only
    rw [hx f (by simp),Me (s:=s) (s2:=s2) (l:=c.args.toList) (λy hy=>hx y (by simp [hy])),hb]
  . rename_i hc;rw [hc]
  . rename_i hc;rw [hc]
  . rename_i hc;rw [hc]
  . cases hq
 all_goals first
  | (cases hq;done)
  | (rename_i e;rw [e])
def B6h (A:OA) (E:Ent3) (bs:List (Nat × B3)) (g:Bool) (x:HP E.ts) (bor:List Nat) (q:List (Nat × Nat)) (z:HF (Am 1000 E.ts) E.forms):Option (Bool × AV × SV × E3) :=
 Jz (Am 1000 E.ts) E.forms z λrs y =>
  bif E.mv.isEmpty&&((rs.flatMap PK.backs).isEmpty&&(Zf rs).isEmpty)&&Aax ⟨E.f,E.ts,rs,E.mv⟩ A.hb ⟨[],bs⟩ x bor q y then (match B1 ⟨E.f,E.ts,rs,E.mv⟩ y,q with
   | [(_,b)],[(_,h)]=>some (true&&(g&&G8 (B1 ⟨E.f,E.ts,rs,E.mv⟩ y) bs [] q),.bx E x z,(Bg ⟨E.f,E.ts,rs,E.mv⟩ A.hb ⟨[],bs⟩ q y).1,.set h (b.ren3 (Dp q)))
   | _,_=>none) else none
theorem A1q {α:Type} {os:List (Nat × CK)}:∀ {fs:List (List PK)} {z:HF os fs} {k:(rs:List PK)->HR rs os->Option α} {r:α},Jz os fs z k=some r->∃ rs y,k rs y=some r /\ ∀ {β:Type} (k':(rs:List PK)->HR rs os->Option β),Jz os fs z k'=k' rs y
 | [],_,_,_,h=>by cases h
 | [rs],y,k,r,h=>⟨rs,y,h,λ_=>rfl⟩
 | rs::r0::q,.inl y,k,r,h=>⟨rs,y,h,λ_=>rfl⟩
 | rs::r0::q,.inr z,k,r,h=>by
  obtain ⟨rs',y,h1,h2⟩:=A1q (fs:=r0::q) (z:=z) (k:=k) h;exact ⟨rs',y,h1,λk'=>h2 k'⟩
theorem Amp {f:SV->SV} (h:∀ x,f x=x):∀ l:List (Nat × SV),Ai f l=l
 | []=>rfl
 | (i,x)::r=>by
  have ih:=Amp h r;simp only [Ai,QT,h] at ih ⊢;rw [ih]
def R5 (T:Ty) (A:OA) (rv:Option RV) (o:Oper) (s:St3):Option (Bool × AV × SV × E3) :=
 match A.fz,A.entB,A.ent,A.tr with
 | [],none,some E,_=>match rv with
  | some (.sv y)=>match Qt E o s with
   | some (g,x)=>some (true&&g,.im E x y,y,.none)
   | none=>none
  | _=>none
 | [],none,none,none=>match Ln T A.sh o s with
  | some r=>some (true&&r.g,.none,r.val,r.eff)
  | none=>none
 | [],some _,none,_=>match rv with
  | some (.bx E z)=>match K0 E.f E.ts o s with
   | some (g,x,bor,q)=>B6h A E s.boxes g x bor q z
   | none=>none
  | _=>none
 | _,_,_,_=>none
theorem Ast {A:OA} {rv:Option RV} {o:Oper} {xs:List Operand} {s s2:St3} (hq:Jd o=some xs) (hx:∀ x ∈ xs,s.val x=s2.val x) (hb:s.boxes=s2.boxes):R5 T A rv o s=R5 T A rv o s2:=by
 unfold R5;rw [Aly hq hx hb];split
 . rw [Am0 hq hx hb]
 . rfl
 . split
   . rw [Ak6 hq hx hb,hb]
   . rfl
 . rfl
theorem Abb {K:Ah} {A:OA} {rv:Option RV} {o:Oper} {s:St3} {g:Bool} {av:AV} {x:SV} {e:E3} (h:R5 T A rv o s=some (g,av,x,e)) :
  Eg T K A rv o s=(s.eff3 K o.dst e).bind λs1=>(s1.put3 K o.dst x).map λs'=>(g,av,s'):=by
 unfold R5 at h;unfold Eg;split at h
 . rename_i h1 h2 h3;rw [h1,h3];simp only [Eu];split at h
   . rename_i y;split at h
     . rename_i g' x' hc;simp only [QC,QL] at h;obtain ⟨rfl,rfl,rfl,rfl⟩:=h;try rw [hc]
       simp only [St3.eff3,XX]
       cases s.put3 K o.dst y <;> rfl
     . cases h
   . cases h
 . rename_i h0 h1 h2 h3;rw [h0,h1,h2];simp only [Eu];unfold A0r;rw [h3];split at h
   . rename_i r hc;try rw [hc]
     simp only [QC,QL] at h;obtain ⟨rfl,rfl,rfl,rfl⟩:=h;dsimp only
     cases s.eff3 K o.dst r.eff with
     | none=>rfl
     | some s1 =>
      simp only [XX]
      cases s1.put3 K o.dst r.val <;> rfl
   . cases h
 . rename_i EB h0 h1 h2;rw [h0,h1,h2];simp only [Eu];split at h
   . rename_i E z;split at h
     . rename_i g' x' bor q hc;unfold B6h at h;obtain ⟨rs,y,e1,e2⟩:=A1q h;simp only [hc,e2]
       cases hk0:E.mv.isEmpty with
       | false=>rw [hk0] at e1;cases e1
       | true =>
       have b0:E.mv=[]:=YR.1 hk0;rw [hk0,ZV] at e1
       cases hk:(rs.flatMap PK.backs).isEmpty with
       | false=>rw [hk] at e1;cases e1
       | true =>
        cases hk2:(Zf rs).isEmpty with
        | false=>rw [hk,hk2] at e1;cases e1
        | true =>
         have b1:rs.flatMap PK.backs=[]:=YR.1 hk;have b2:Zf rs=[]:=YR.1 hk2
         have b3:Iq ⟨E.f,E.ts,rs,E.mv⟩ A.hb q=q:=by simp only [Iq,b2];rfl
         have b4:∀ rn,Dk ⟨E.f,E.ts,rs,E.mv⟩ rn=[]:=λrn=>by simp only [Dk,b1,b0];rfl
         have b5:Jy K ⟨E.f,E.ts,rs,E.mv⟩ A.hb s x' bor q y=Aax ⟨E.f,E.ts,rs,E.mv⟩ A.hb ⟨[],s.boxes⟩ x' bor q y:=by
          simp only [Jy,Aec,b0,List.isEmpty_nil,Qak,XO,Aax,b2,KR]
         rw [hk,hk2,ZV,ZV] at e1;rw [b5]
         cases hck:Aax ⟨E.f,E.ts,rs,E.mv⟩ A.hb ⟨[],s.boxes⟩ x' bor q y with
         | false=>rw [hck] at e1;cases e1
         | true =>
          rw [hck] at e1;simp only [cond] at e1 ⊢;split at e1
          . rename_i k1 b k2 hh he;simp only [QC,QL] at e1;obtain ⟨rfl,rfl,rfl,rfl⟩:=e1
            have b6:(Bg ⟨E.f,E.ts,rs,E.mv⟩ A.hb s [(k2,hh)] y)=((Bg ⟨E.f,E.ts,rs,E.mv⟩ A.hb ⟨[],s.boxes⟩ [(k2,hh)] y).1,⟨s.slots,Aw hh (b.ren3 (Dp [(k2,hh)])) s.boxes⟩):=by
             unfold Bg;rw [b4,b3,he];have m1:∀ g:B3->B3,Ai g [(k1,b)]=[(k1,g b)]:=λ_=>rfl;simp only [List.any_nil,cond,m1,Xc];rw [Amp λ_=>rfl]
            rw [b6,b3,b4];simp only [St3.eff3,XX]
            cases St3.put3 K _ o.dst _ <;> rfl
          . cases e1
     . cases h
   . cases h
 . cases h
theorem Kh {β:Type} (k i:Nat) (x z:β) (l:List (Nat × β)):Aw k x ((i,z)::l)=if k<i then (k,x)::(i,z)::l else if i=k then (k,x)::l else (i,z)::Aw k x l:=by
 have bl:Nat.blt k i=decide (k<i):=by
  cases e:Nat.blt k i with
  | true=>rw [ZY] at e;simp [e]
  | false =>
   have:¬ k<i:=λhh=>by rw [<- ZY] at hh;rw [hh] at e;cases e
   simp [this]
 have be:Nat.beq i k=decide (i=k):=by
  cases e:Nat.beq i k with
  | true=>simp [QB e]
  | false =>
   have:i ≠ k:=λhh=>by subst hh;simp at e
   simp [this]
 simp only [Aw,bl,be,QK]
theorem A26 {β:Type} {k j:Nat} (x y:β) (h:k ≠ j):∀ l:List (Nat × β),Aw k x (Aw j y l)=Aw j y (Aw k x l)
 | []=>by
  have e:∀ (a:Nat) (b:β),Aw a b []=[(a,b)]:=λ_ _=>rfl;rw [e,e,Kh,Kh,e,e];grind
 | (i,z)::l=>by
  have ih:=A26 x y h l;rw [Kh,Kh];by_cases h2:j<i <;> by_cases h4:i=j <;> by_cases h1:k<i <;> by_cases h3:i=k <;> simp only [h1,h2,h3,h4,if_true,if_false,Kh] <;> grind [Kh]
end Go.Ev

/- DERIVED. Regions that draw their order: a light check, one A2 at each operation for each set of operations with effects. -/
namespace Go.Ev
open Go
variable {P:Program} {T:Ty} {α:Type}
structure Dat where
 g:Bool
 av:AV
 x:SV
 e:E3
def V3 (k:Option Tmp) (e:E3) (bs:List (Nat × B3)):List (Nat × B3):=match e with
 | .new b=>match k with
  | some k=>Aw k b bs
  | none=>bs
 | .set h b=>Aw h b bs
 | _=>bs
def T7 (k:Option Tmp) (x:SV) (sl:List (Nat × SV)):List (Nat × SV):=match k with
 | some t=>Aw t x sl
 | none=>sl
def Gp (d:Option Tmp) (D:Dat) (s:St3):St3:=⟨T7 d D.x s.slots,V3 d D.e s.boxes⟩
def okE (d:Option Tmp):E3->Bool
 | .none=>true
 | .new _=>d.isSome
 | .set _ _=>true
 | _=>false
def isE:E3->Bool
 | .none=>false
 | _=>true
def hdl (d:Option Tmp):E3->Option Nat
 | .new _=>d
 | .set h _=>some h
 | _=>none
def Afx (k:Nat):E3->Bool
 | .new b=>b.men k
 | .set _ b=>b.men k
 | _=>false
def eqO:Option Nat->Option Nat->Bool
 | some a,some b=>Nat.beq a b
 | _,_=>false
theorem Yt {a b:Option Nat} (h:eqO a b=false):∀ t,a=some t->b ≠ some t:=by
 rintro t rfl rfl
 simp [eqO] at h
abbrev Fo:=List (Nat × Option Tmp × Dat)
def SL (L:Nat):Fo->St3->St3
 | [],s=>s
 | (i,d,D)::r,s=>SL L r (bif L.testBit i then Gp d D s else s)
def Wp (T:Ty) (A:List (Nat × OA)) (q:List (Nat × RV)):List (Nat × Oper)->St3->Option Fo
 | [],_=>some []
 | (i,o)::l,s=>match R5 T (OA.at A i) (A2 i q) o s with
  | some (g,av,x,e)=>bif okE o.dst e then (match Wp T A q l (Gp o.dst ⟨g,av,x,e⟩ s) with
   | some r=>some ((i,o.dst,⟨g,av,x,e⟩)::r)
   | none=>none) else none
  | none=>none
def V5 (o:Oper) (j:Nat):Bool:=o.after.toList.any λe=>Region.binds .any e&&Nat.beq e.on j
def opT:Operand->Option Nat
 | .tmp t=>some t
 | _=>none
def Amj (D:Fo) (i:Nat) (o:Oper):Bool:=match Jd o with
 | none=>false
 | some xs=>xs.all λx=>D.all λp=>!eqO (opT x) p.2.1 || (V5 o p.1&&Nat.blt p.1 i)
def Zb (i:Nat):Fo->Option Dat
 | []=>none
 | (j,_,D)::r=>bif Nat.beq j i then some D else Zb i r
def B5p (K:Ah) (l:List (Nat × Oper)) (D:Fo) (s:St3) (p:Nat × Oper):Bool :=
 Amj D p.1 p.2&&(match p.2.dst with
  | some t=>Nat.blt t K.N
  | none=>true)&&(match Zb p.1 D with
  | some Di=>D.all (λr=>Nat.beq r.1 p.1 || (!eqO p.2.dst r.2.1&&(!eqO (hdl p.2.dst Di.e) (hdl r.2.1 r.2.2.e) || (match A2 r.1 l with
    | some o=>V5 o p.1 || V5 p.2 r.1
    | none=>false))))&&(match Di.e with
   | .new _=>match p.2.dst with
    | some k=>(A2 k s.boxes).isNone&&Nat.blt k 1000&&s.clean k&&D.all (λr=>Nat.beq r.1 p.1 || (!eqO (some k) (hdl r.2.1 r.2.2.e) && !r.2.2.x.men k && !Afx k r.2.2.e) || (match A2 r.1 l with
     | some o=>V5 o p.1
     | none=>false))
    | none=>false
   | _=>true)
  | none=>false)
def Bim (K:Ah) (l:List (Nat × Oper)) (D:Fo) (s:St3):Bool:=l.all (B5p K l D s)
def A5r:List Nat->List Nat
 | []=>[0]
 | e::r=>A5r r++(A5r r).map (· ||| 1 <<< e)
theorem Af2 (L:Nat):∀ E:List Nat,∃ m ∈ A5r E,∀ x,m.testBit x=(E.any (Nat.beq x)&&L.testBit x)
 | []=>⟨0,by simp [A5r],λx=>by simp⟩
 | e::r=>by
  obtain ⟨m,hm,h⟩:=Af2 L r
  cases hb:L.testBit e with
  | true =>
   refine ⟨m ||| 1 <<< e,QE.2 (.inr (ZK.2 ⟨m,hm,rfl⟩)),λx=>?_⟩;rw [Qas,h];by_cases c:x=e
   . subst c;simp [hb]
   . have e1 : (1 <<< e).testBit x = false := by
      rw [JB];by_cases c2:e<=x
      . obtain ⟨d,hd⟩:∃ d,x-e=d+1:=⟨x-e-1,by omega⟩
        rw [hd];simp [JW]
      . simp [c2]
     have e2:Nat.beq x e=false:=by cases e3:Nat.beq x e with | false=>rfl | true=>exact absurd (QB e3) c
     rw [e1,JF,e2,Qbv,YI]
  | false =>
   refine ⟨m,QE.2 (.inl hm),λx=>?_⟩;rw [h,JF];by_cases c:x=e
   . subst c;simp [hb]
   . have e2:Nat.beq x e=false:=by cases e3:Nat.beq x e with | false=>rfl | true=>exact absurd (QB e3) c
     rw [e2,YI]
def Yv (D:Fo):List Nat:=(D.filter λp=>isE p.2.2.e).map (·.1)
def Ab0 (acc:List (Nat × Nat)):List Go.Edge->Nat
 | []=>0
 | e::r=>bif Region.binds .any e then Ab0 acc r ||| 1 <<< e.on ||| (A2 e.on acc).getD 0 else Ab0 acc r
def A5i:List (Nat × Oper)->List (Nat × Nat)->List (Nat × Nat)
 | [],acc=>acc
 | (i,o)::l,acc=>A5i l ((i,Ab0 acc o.after.toList)::acc)
def Apv (l:List (Nat × Oper)) (D:Fo) (p:Nat × Oper):List Nat :=
 (A5r (Yv D)).filter λm=>!m.testBit p.1&&((A5i l []).all λr=>!(m.testBit r.1&&r.2.testBit p.1)&&(!(Nat.beq r.1 p.1 || m.testBit r.1) || (Yv D).all (λk=>!r.2.testBit k || m.testBit k)))
theorem Ap6 {L:Nat} {acc:List (Nat × Nat)} (ha:∀ j m,A2 j acc=some m->L.testBit j=true->∀ k,m.testBit k=true->L.testBit k=true):∀ {es:List Go.Edge},(∀ e ∈ es,Region.binds .any e=true->L.testBit e.on=true)->∀ k,(Ab0 acc es).testBit k=true->L.testBit k=true
 | [],_,k,h=>by simp [Ab0] at h
 | e::r,he,k,h=>by
  simp only [Ab0] at h
  have ih:=Ap6 ha (es:=r) (λe h=>he e (by simp [h])) k
  cases hb:Region.binds .any e with
  | false=>rw [hb] at h;exact ih h
  | true =>
   rw [hb] at h
   have hL:=he e (by simp) hb
   simp only [cond,Qas,XH] at h;rcases h with (h | h) | h
   . exact ih h
   . rw [JB] at h
     have:k=e.on:=by
      rcases JT k e.on with c | c | c
      . have:¬ k>=e.on:=by omega
        simp [this] at h
      . exact c
      . obtain ⟨d,hd⟩:∃ d,k-e.on=d+1:=⟨k-e.on-1,by omega⟩
        rw [hd] at h;simp [JW] at h
     rw [this];exact hL
   . cases hl:A2 e.on acc with
     | none=>rw [hl] at h;simp at h
     | some m=>rw [hl] at h;exact ha _ m hl hL k h
theorem Aaz {L i0:Nat} {l0:List (Nat × Oper)} (hr:∀ p ∈ l0,L.testBit p.1=true \/ p.1=i0->∀ e ∈ p.2.after,Region.binds .any e=true->L.testBit e.on=true):∀ {l:List (Nat × Oper)} {acc:List (Nat × Nat)},(∀ p ∈ l,p ∈ l0) ->
  (∀ r ∈ acc,L.testBit r.1=true \/ r.1=i0->∀ k,r.2.testBit k=true->L.testBit k=true)->∀ r ∈ A5i l acc,L.testBit r.1=true \/ r.1=i0->∀ k,r.2.testBit k=true->L.testBit k=true
 | [],acc,_,ha,r,h=>ha r h
 | (i,o)::l,acc,hl,ha,r,h=>by
  refine Aaz hr (l:=l) (λp hp=>hl p (by simp [hp])) (λr hr'=>?_) r h
  rcases QW.1 hr' with rfl | hr'
  . intro hi k hk
    refine Ap6 (λj m hj hL k hk=>ha (j,m) (C7 hj) (.inl hL) k hk) (λe he hb=>hr (i,o) (hl _ (by simp)) hi e (by simpa using he) hb) k hk
  . exact ha r hr'
abbrev B5a:=Option (Bool × AV × SV × E3)
def Bga:Option Dat->B5a
 | some D=>some (D.g,D.av,D.x,D.e)
 | none=>none
def Bil (T:Ty) (A:List (Nat × OA)) (q:List (Nat × RV)) (l:List (Nat × Oper)) (D:Fo) (s:St3):List (List B5a) :=
 l.map λp=>(Apv l D p).map λm=>R5 T (OA.at A p.1) (A2 p.1 q) p.2 ⟨(SL (2 ^ p.1-1) D s).slots,(SL m D s).boxes⟩
def Bik (l:List (Nat × Oper)) (D:Fo):List (List B5a) :=
 l.map λp=>(Apv l D p).map λ_=>Bga (Zb p.1 D)
def Bcc (m:Nat) (l:List (Nat × Oper)):Bool:=(A5i l []).all λr=>Nat.blt r.1 m || (List.range r.1).all λk=>r.2.testBit k
def Ap9 (T:Ty) (K:Ah) (A:List (Nat × OA)) (l:List (Nat × Oper)) (s:St3) (q:List (Nat × RV)):Prop :=
 ∃ m,Bcc m l=true/\(match Wp T A q (l.take m) s with
  | some D=>Bim K (l.take m) D s
  | none=>false)=true/\Bil T A q (l.take m) ((Wp T A q (l.take m) s).getD []) s=Bik (l.take m) ((Wp T A q (l.take m) s).getD [])
theorem B04 {d d':Option Tmp} {e e':E3} (h:∀ t,hdl d e=some t->hdl d' e' ≠ some t) (bs:List (Nat × B3)):V3 d e (V3 d' e' bs)=V3 d' e' (V3 d e bs):=by
 cases e <;> cases e' <;> first | rfl | skip;all_goals cases d <;> cases d' <;> first | rfl | skip
 all_goals (simp only [V3];first | rfl | (refine A26 _ _ (λc=>?_) _;subst c;exact h _ rfl rfl))
theorem Atx {d d':Option Tmp} {x x':SV} (h:∀ t,d=some t->d' ≠ some t) (sl:List (Nat × SV)):T7 d x (T7 d' x' sl)=T7 d' x' (T7 d x sl):=by
 cases d <;> cases d' <;> first | rfl | skip;simp only [T7];refine A26 _ _ (λc=>?_) _;subst c;exact h _ rfl rfl
theorem B0m {d d':Option Tmp} {D D':Dat} (h1:∀ t,d=some t->d' ≠ some t) (h2:∀ t,hdl d D.e=some t->hdl d' D'.e ≠ some t) (s:St3):Gp d D (Gp d' D' s)=Gp d' D' (Gp d D s):=by
 simp only [Gp,Atx h1,B04 h2]
theorem Akn {L L':Nat}:∀ {D:Fo} {s:St3},(∀ p ∈ D,L.testBit p.1=L'.testBit p.1)->SL L D s=SL L' D s
 | [],_,_=>rfl
 | (i,d,D)::r,s,h=>by
  simp only [SL,h (i,d,D) (by simp)]
  exact Akn λp hp=>h p (by simp [hp])
theorem Z1 (L i j:Nat):(L ||| 1 <<< i).testBit j=(L.testBit j || decide (j=i)):=by
 rw [Qas];congr 1;rw [JB];by_cases c:j=i
 . subst c;simp
 . by_cases c2:i<=j
   . obtain ⟨d,hd⟩:∃ d,j-i=d+1:=⟨j-i-1,by omega⟩
     rw [hd];simp [JW,c]
   . simp [c2,c]
theorem B0s {L:Nat} {d:Option Tmp} {D0:Dat}:∀ {D:Fo} {s:St3},(∀ p ∈ D,L.testBit p.1=true->(∀ t,d=some t->p.2.1 ≠ some t)/\(∀ t,hdl d D0.e=some t->hdl p.2.1 p.2.2.e ≠ some t)) ->
  SL L D (Gp d D0 s)=Gp d D0 (SL L D s)
 | [],_,_=>rfl
 | (j,d',D')::r,s,h=>by
  simp only [SL]
  have ih:=λs=>B0s (L:=L) (d:=d) (D0:=D0) (D:=r) (s:=s) λp hp=>h p (by simp [hp])
  cases hb:L.testBit j with
  | false=>simp only [cond];exact ih s
  | true =>
   simp only [cond]
   obtain ⟨h1,h2⟩:=h (j,d',D') (by simp) hb
   rw [<- B0m h1 h2,ih]
theorem B0t {L i:Nat} {d:Option Tmp} {D0:Dat}:∀ {D:Fo} {s:St3},(D.map (·.1)).Pairwise (· < ·)->(i,d,D0) ∈ D->L.testBit i=false->(∀ p ∈ D,i<p.1->L.testBit p.1=true->(∀ t,d=some t->p.2.1 ≠ some t)/\(∀ t,hdl d D0.e=some t->hdl p.2.1 p.2.2.e ≠ some t)) ->
  SL (L ||| 1 <<< i) D s=Gp d D0 (SL L D s)
 | [],_,_,h,_,_=>by simp at h
 | (j,d',D')::r,s,hn,hm,hb,h=>by
  simp only [QT,List.pairwise_cons] at hn;have hlt:∀ p ∈ r,j<p.1:=λp hp=>hn.1 p.1 (ZK.2 ⟨p,hp,rfl⟩);rcases QW.1 hm with e | hm
  . simp only [QL] at e;obtain ⟨rfl,rfl,rfl⟩:=e;simp only [SL,hb,Z1,decide_true,Bool.or_true,cond]
    rw [Akn (L':=L) λp hp=>by rw [Z1];have:=hlt p hp;simp [show p.1 ≠ i by omega]]
    exact B0s λp hp=>h p (by simp [hp]) (hlt p hp)
  . have hne:j ≠ i:=λc=>by have:=hlt _ hm;simp only at this;omega
    simp only [SL,Z1,hne,decide_false,Qbv]
    exact B0t hn.2 hm hb λp hp=>h p (by simp [hp])
theorem Ap7 {L L' t:Nat}:∀ {D:Fo} {s s':St3},A2 t s.slots=A2 t s'.slots->(∀ p ∈ D,p.2.1=some t->L.testBit p.1=L'.testBit p.1)->A2 t (SL L D s).slots=A2 t (SL L' D s').slots
 | [],_,_,h,_=>h
 | (i,d,D)::r,s,s',h,hp=>by
  simp only [SL]
  refine Ap7 ?_ λp hq=>hp p (by simp [hq])
  have key:∀ s,d ≠ some t->A2 t (Gp d D s).slots=A2 t s.slots:=λs hd=>by
   cases d with
   | none=>rfl
   | some u=>exact Ao _ _ λc=>hd (by rw [c])
  by_cases hd:d=some t
  . rw [hp (i,d,D) (by simp) hd]
    cases L'.testBit i with
    | false=>exact h
    | true=>subst hd;simp only [cond,Gp,T7,Ap]
  . cases L.testBit i <;> cases L'.testBit i <;> simp only [cond,key _ hd,h]
theorem B03 {d:Option Tmp} {e:E3} (h:isE e=false) (bs:List (Nat × B3)):V3 d e bs=bs:=by cases e <;> first | rfl | cases h
theorem Akp {L L':Nat}:∀ {D:Fo} {s s':St3},s.boxes=s'.boxes->(∀ p ∈ D,isE p.2.2.e=true->L.testBit p.1=L'.testBit p.1)->(SL L D s).boxes=(SL L' D s').boxes
 | [],_,_,h,_=>h
 | (i,d,D)::r,s,s',h,hp=>by
  simp only [SL]
  refine Akp ?_ λp hq=>hp p (by simp [hq])
  cases he:isE D.e with
  | true =>
   rw [hp (i,d,D) (by simp) he]
   cases L'.testBit i <;> simp only [cond,Gp,h]
  | false=>cases L.testBit i <;> cases L'.testBit i <;> simp only [cond,Gp,B03 he,h]
theorem Ab1 {β:Type} {f:Nat × β->Bool} {k:Nat} {x:β} {l:List (Nat × β)} (h:l.all f=true) (hx:f (k,x)=true):(Aw k x l).all f=true:=by
 refine QJ.2 λp hp=>?_;rcases Si hp with rfl | hp
 . exact hx
 . exact QJ.1 h p hp
theorem Ako {L k:Nat}:∀ {D:Fo} {s:St3},s.clean k=true->(∀ p ∈ D,L.testBit p.1=true->p.2.2.x.men k=false/\Afx k p.2.2.e=false)->(SL L D s).clean k=true
 | [],_,h,_=>h
 | (i,d,D)::r,s,h,hp=>by
  simp only [SL]
  refine Ako ?_ λp hq=>hp p (by simp [hq])
  cases hb:L.testBit i with
  | false=>exact h
  | true =>
   obtain ⟨h1,h2⟩:=hp (i,d,D) (by simp) hb
   simp only [cond];unfold St3.clean at h ⊢;simp only [QF] at h ⊢;refine ⟨?_,?_⟩
   . cases d with
     | none=>exact h.1
     | some t=>exact Ab1 h.1 (by simp only at h1;simp [h1])
   . show List.all (V3 d D.e s.boxes) _=true;simp only at h2
     cases he:D.e with
     | new b =>
      rw [he] at h2
      cases d with
      | none=>exact h.2
      | some t=>exact Ab1 h.2 (by simp only [Afx] at h2;simp [h2])
     | set hh b =>
      rw [he] at h2
      exact Ab1 h.2 (by simp only [Afx] at h2;simp [h2])
     | none=>exact h.2
     | app hh b=>exact h.2
     | frz ks=>exact h.2
theorem Akm {L k:Nat}:∀ {D:Fo} {s:St3},A2 k s.boxes=none->(∀ p ∈ D,L.testBit p.1=true->hdl p.2.1 p.2.2.e ≠ some k)->A2 k (SL L D s).boxes=none
 | [],_,h,_=>h
 | (i,d,D)::r,s,h,hp=>by
  simp only [SL]
  refine Akm ?_ λp hq=>hp p (by simp [hq])
  cases hb:L.testBit i with
  | false=>exact h
  | true =>
   have h1:=hp (i,d,D) (by simp) hb
   simp only at h1;simp only [cond];show A2 k (V3 d D.e s.boxes)=none
   cases he:D.e with
   | new b =>
    rw [he] at h1
    cases d with
    | none=>exact h
    | some t=>exact (Ao _ _ λc=>h1 (by simp only [hdl];rw [c])).trans h
   | set hh b =>
    rw [he] at h1
    exact (Ao _ _ λc=>h1 (by simp only [hdl];rw [c])).trans h
   | none=>exact h
   | app hh b=>exact h
   | frz ks=>exact h
theorem Atl {K:Ah} {A:OA} {rv:Option RV} {o:Oper} {s:St3} {g:Bool} {av:AV} {x:SV} {e:E3} (h:R5 T A rv o s=some (g,av,x,e)) (hK:∀ t,o.dst=some t->Nat.blt t K.N=true) (he:okE o.dst e=true)
  (hnew:∀ b k,e = .new b->o.dst=some k->(A2 k s.boxes).isNone=true/\Nat.blt k 1000=true/\s.clean k=true):Eg T K A rv o s=some (g,av,Gp o.dst ⟨g,av,x,e⟩ s):=by
 rw [Abb h]
 have put:∀ s1:St3,s1.put3 K o.dst x=some ⟨T7 o.dst x s1.slots,s1.boxes⟩:=λs1=>by
  unfold St3.put3
  cases hd:o.dst with
  | none=>rfl
  | some t=>simp only [hK t hd,cond];rfl
 cases e with
 | none=>simp only [St3.eff3,XX,put,QV];rfl
 | set hh b=>simp only [St3.eff3,XX,put,QV];rfl
 | new b =>
  cases hd:o.dst with
  | none=>rw [hd] at he;cases he
  | some k =>
   obtain ⟨q1,q2,q3⟩:=hnew b k rfl hd;rw [hd] at put;simp only [St3.eff3,q1,q2,q3,ZN,cond,XX,put,QV];rfl
 | app hh b=>cases he
 | frz ks=>cases he
theorem Atk {K:Ah} {A:OA} {rv:Option RV} {o:Oper} {s s1:St3} {g g1:Bool} {av av1:AV} {x:SV} {e:E3} (h:R5 T A rv o s=some (g,av,x,e)) (he:okE o.dst e=true) (hs:Eg T K A rv o s=some (g1,av1,s1)) :
  g1=g/\av1=av/\s1=Gp o.dst ⟨g,av,x,e⟩ s:=by
 rw [Abb h] at hs
 have put:∀ {s0:St3},(s0.put3 K o.dst x).map (λs'=>(g,av,s'))=some (g1,av1,s1)->g1=g/\av1=av/\s1=⟨T7 o.dst x s0.slots,s0.boxes⟩:=λ{s0} hp=>by
  unfold St3.put3 at hp
  cases hd:o.dst with
  | none =>
   rw [hd] at hp;simp only [QV,QC,QL] at hp;obtain ⟨rfl,rfl,rfl⟩:=hp;exact ⟨rfl,rfl,rfl⟩
  | some t =>
   rw [hd] at hp;simp only at hp
   cases hb:Nat.blt t K.N with
   | false=>rw [hb] at hp;cases hp
   | true =>
    rw [hb] at hp;simp only [cond,QV,QC,QL] at hp;obtain ⟨rfl,rfl,rfl⟩:=hp;exact ⟨rfl,rfl,rfl⟩
 cases e with
 | none=>exact put hs
 | set hh b=>exact put hs
 | new b =>
  cases hd:o.dst with
  | none=>rw [hd] at he;cases he
  | some k =>
   rw [hd] at hs put;simp only [St3.eff3] at hs
   cases hb:((A2 k s.boxes).isNone&&Nat.blt k 1000&&s.clean k) with
   | false=>rw [hb] at hs;cases hs
   | true=>rw [hb] at hs;exact put hs
 | app hh b=>cases he
 | frz ks=>cases he
theorem Afe {K:Ah} {A:List (Nat × OA)} {q:List (Nat × RV)}:∀ {l:List (Nat × Oper)} {s s':St3} {D:Fo},Ga T K A q l s s'->Wp T A q l s=some D ->
  D.map (λp=>(p.1,p.2.1))=l.map (λp=>(p.1,p.2.dst))/\(∀ p ∈ D,p.2.2.g=true/\p.2.2.av.ok/\okE p.2.1 p.2.2.e=true) /\ ∀ L:Nat,(∀ p ∈ D,L.testBit p.1=true)->SL L D s=s'
 | [],s,s',D,h,hd=>by
  simp only [Wp,QC] at hd;subst hd
  exact ⟨rfl,λp hp=>by simp at hp,λ_ _=>h⟩
 | (i,o)::l,s,s',D,h,hd=>by
  obtain ⟨av,s1,h1,h2,h3⟩:=h;simp only [Wp] at hd;split at hd
  . rename_i g av' x e he
    cases hok:okE o.dst e with
    | false=>rw [hok] at hd;cases hd
    | true =>
     rw [hok] at hd;simp only [cond] at hd;split at hd
     . rename_i r hr;obtain rfl:=QA hd;obtain ⟨rfl,rfl,rfl⟩:=Atk he hok h1;obtain ⟨a1,a2,a3⟩:=Afe h3 hr
       refine ⟨by simp only [QT,a1],λp hp=>?_,λL hL=>?_⟩
       . rcases QW.1 hp with rfl | hp
         . exact ⟨rfl,h2,hok⟩
         . exact a2 p hp
       . have hi:=hL (i,o.dst,⟨true,av,x,e⟩) (by simp)
         simp only at hi;simp only [SL,hi,cond]
         exact a3 L λp hp=>hL p (by simp [hp])
     . cases hd
  . cases hd
theorem Abj {i:Nat} {D0:Dat}:∀ {D:Fo},Zb i D=some D0->∃ d,(i,d,D0) ∈ D
 | [],h=>by cases h
 | (j,d,D1)::r,h=>by
  simp only [Zb] at h
  cases hb:Nat.beq j i with
  | true =>
   rw [hb] at h;obtain rfl:=QA h;obtain rfl:=QB hb
   exact ⟨d,by simp⟩
  | false =>
   rw [hb] at h;obtain ⟨d',h'⟩:=Abj h
   exact ⟨d',by simp [h']⟩
theorem B0w {s s2:St3} {x:Operand} (h:∀ t,opT x=some t->A2 t s.slots=A2 t s2.slots):s.val x=s2.val x:=by
 cases x with
 | tmp t=>simp only [St3.val,h t rfl]
 | _=>rfl
theorem Aar {o:Oper} {j:Nat} (h:V5 o j=true):∃ e ∈ o.after,Region.binds .any e=true/\e.on=j:=by
 unfold V5 at h;obtain ⟨e,he,h2⟩:=ZI.1 h;simp only [QF] at h2
 exact ⟨e,by simpa using he,h2.1,QB h2.2⟩
theorem Ga.split {K:Ah} {A:List (Nat × OA)} {q:List (Nat × RV)}:∀ (m:Nat) {l:List (Nat × Oper)} {s s':St3},Ga T K A q l s s'->∃ s1,Ga T K A q (l.take m) s s1/\Ga T K A q (l.drop m) s1 s'
 | 0,l,s,s',h=>⟨s,by simp [Ga],by simpa using h⟩
 | m+1,[],s,s',h=>⟨s',by simpa using h,by simp [Ga]⟩
 | m+1,(i,o)::l,s,s',h=>by
  obtain ⟨av,s1,h1,h2,h3⟩:=h;obtain ⟨s2,k1,k2⟩:=Ga.split m h3;exact ⟨s2,⟨av,s1,h1,h2,k1⟩,k2⟩
theorem Adn {K:Ah} {A:List (Nat × OA)} {q:List (Nat × RV)} {L:Nat}:∀ {a b:List (Nat × Oper)} {s:St3},S3 T K A q L (a++b) s=S3 T K A q L b (S3 T K A q L a s)
 | [],_,_=>rfl
 | (i,o)::a,b,s=>by simp only [YA,S3];exact Adn
theorem Ga.at2 {K:Ah} {A:List (Nat × OA)} {q:List (Nat × RV)} {i0:Nat}:∀ {l:List (Nat × Oper)} {s s':St3} {b:Nat},Ga T K A q l s s'->(∀ k p,l[k]? = some p->p.1=b+k)->∀ {i:Nat} {o:Oper},i=b+i0->l[i0]? = some (i,o) ->
  ∃ av,Eg T K (OA.at A i) (A2 i q) o (S3 T K A q (2 ^ i-1) l s)=some (true,av,S3 T K A q (2 ^ (i+1)-1) l s)/\av.ok:=by
 induction i0 with
 | zero =>
  intro l s s' b h hl i o hi ho
  match l,h with
  | [],_=>simp at ho
  | (j,o')::l,h =>
   simp only [JJ,QC,QL] at ho;obtain ⟨rfl,rfl⟩:=ho;obtain ⟨av,s1,h1,h2,_⟩:=h
   have hgt:∀ p ∈ l,j<p.1:=λp hp=>by
    obtain ⟨k,hk⟩:=YX hp
    have:=hl (k+1) p (by simpa using hk)
    omega
   refine ⟨av,?_,h2⟩;rw [O3 (λp hp=>?_)]
   . have hb:(2 ^ (j+1)-1).testBit j=true:=by rw [ZP];simp
     simp only [S3,hb,cond,h1]
     rw [O3 λp hp=>by have:=hgt p hp;rw [ZP];simp only [ZS];omega]
   . obtain ⟨k,hk⟩:=YX hp;have:=hl k p hk;rw [ZP];simp only [ZS];omega
 | succ i0 ih =>
  intro l s s' b h hl i o hi ho
  match l,h with
  | [],_=>simp at ho
  | (j,o')::l,h =>
   obtain ⟨av,s1,h1,_,h3⟩:=h;have hj:=hl 0 (j,o') rfl;simp only [KE] at hj
   obtain ⟨av2,q1,q2⟩:=ih (b:=b+1) h3 (λk p hk=>by have:=hl (k+1) p (by simpa using hk);omega) (i:=i) (o:=o) (by omega) (by simpa using ho)
   refine ⟨av2,?_,q2⟩
   have hb:(2 ^ i-1).testBit j=true:=by
    rw [ZP];simp only [QN];omega
   have hb2:(2 ^ (i+1)-1).testBit j=true:=by
    rw [ZP];simp only [QN];omega
   simp only [S3,hb,hb2,cond,h1];exact q1
theorem B28 (hT:Ay P T) (hfol:P.follows .mixedOrders=true) {K:Ah} {A:List (Nat × OA)} {X:Tm} {id:Nat} {ops:Array Oper} {nt:Nat} (hE:∀ i a,A2 i A=some a->a.S P) (hchk:Av1 A (A7 ops.toList)=true)
  {w:X.den} {q:List (Nat × RV)} {s':St3} (hw:WT A (A7 ops.toList) q) (hF:Ap9 T K A (A7 ops.toList) (X.enc w) q) (hrun:Ga T K A q (A7 ops.toList) (X.enc w) s') :
  Code.Den P K (.region id ops true) ((X.enc w).st nt) .normal (s'.st nt):=by
 obtain ⟨m,hsuf,h1,h2⟩:=hF;obtain ⟨sm,hrun1,hrun2⟩:=hrun.split m
 cases hD:Wp T A q ((A7 ops.toList).take m) (X.enc w) with
 | none=>rw [hD] at h1;cases h1
 | some D =>
 rw [hD] at h1 h2;simp only [YL] at h1 h2;obtain ⟨a1,a2,a3⟩:=Afe hrun1 hD
 have chk:∀ p ∈ A7 ops.toList,p.2.guard=none/\(∀ e ∈ p.2.after,Region.binds .any e=true->e.on<p.1)/\(OA.at A p.1).two=false:=λp hp=>by
  have:=QJ.1 hchk p hp;simp only [QF] at this;obtain ⟨⟨h1,h2⟩,h3⟩:=this
  refine ⟨?_,λe he hb=>?_,by cases hx:(OA.at A p.1).two with | false=>rfl | true=>rw [hx] at h3;cases h3⟩
  . cases hg:p.2.guard with
    | none=>rfl
    | some _=>rw [hg] at h1;cases h1
  . have:=QJ.1 h2 e (by simpa using he)
    rw [hb] at this;simpa [ZY] using this
 have hsz:(A7 ops.toList).length=ops.size:=by simp [A7]
 have at_:∀ (i:Nat) (o:Oper),ops[i]? = some o->(A7 ops.toList)[i]? = some (i,o):=λi o hi=>by
  obtain ⟨h1,h2⟩:=ZR.1 hi;simp [A7,YW,h1,h2]
 have opsAt:∀ p ∈ A7 ops.toList,ops[p.1]? = some p.2:=λp hp=>by
  obtain ⟨k,hk⟩:=YX hp;obtain ⟨q1,q2⟩:=Cv hk;rw [q1];simpa using q2
 have key:((A7 ops.toList).map (·.1))=List.range ops.toList.length:=by
  apply JS;intro j;simp only [A7,ZX,QP,YW];by_cases hj:j<ops.toList.length
  . simp at hj;simp [hj]
  . simp at hj;simp [hj]
 have kD:D.map (·.1)=((A7 ops.toList).take m).map (·.1):=by
  have:=XT (List.map (·.1)) a1;simpa [ZX,Qav] using this
 have hnd:(D.map (·.1)).Pairwise (· < ·):=by
  rw [kD,JL,key];exact List.pairwise_lt_range.sublist (List.take_sublist _ _)
 have tk:∀ p ∈ (A7 ops.toList).take m,p.1<m:=λp hp=>by
  obtain ⟨k,hk⟩:=YX hp;rw [XJ] at hk;split at hk
  . rename_i hlt;have:=(Cv hk).1;omega
  . cases hk
 have ent:∀ p ∈ D,∃ o,ops[p.1]? = some o/\p.2.1=o.dst/\p.1<m:=λp hp=>by
  have:(p.1,p.2.1) ∈ ((A7 ops.toList).take m).map (λp=>(p.1,p.2.dst)):=by rw [<- a1];exact ZK.2 ⟨p,hp,rfl⟩
  obtain ⟨r,hr,e⟩:=ZK.1 this;simp only [QL] at e
  exact ⟨r.2,by rw [<- e.1];exact opsAt r (Qbh hr),e.2.symm,by rw [<- e.1];exact tk r hr⟩
 have lk:∀ (i:Nat) (o:Oper),i<m->ops[i]? = some o->A2 i ((A7 ops.toList).take m)=some o:=λi o him hi=>by
  have hm:(i,o) ∈ (A7 ops.toList).take m:=ZM (i:=i) (by rw [XJ,QG him];exact at_ i o hi)
  have nd:(((A7 ops.toList).take m).map (·.1)).Nodup:=(Fq ops.toList).sublist ((List.take_sublist _ _).map _);generalize (A7 ops.toList).take m=l at hm nd
  induction l with
  | nil=>simp at hm
  | cons r l ih =>
   obtain ⟨j,o'⟩:=r;simp only [QT,KZ] at nd;rcases QW.1 hm with e | hm
   . simp only [QL] at e;obtain ⟨rfl,rfl⟩:=e;exact Bs
   . rw [Bb λc=>nd.1 (by rw [c];exact ZK.2 ⟨_,hm,rfl⟩)]
     exact ih hm nd.2
 have h0:SL 0 D (X.enc w)=X.enc w:=by
  clear a3 hD h1 h2 a1 a2 kD hnd ent hrun1;generalize X.enc w=s
  induction D generalizing s with
  | nil=>rfl
  | cons p r ih=>obtain ⟨i,d,D⟩:=p;simp only [SL,Nat.zero_testBit,cond];exact ih s
 have hpre:∀ L:Nat,(∀ j,j<m->L.testBit j=true)->SL L D (X.enc w)=sm:=λL hL=>a3 _ λp hp=>hL p.1 (ent p hp).choose_spec.2.2
 have hpre3:S3 T K A q (2 ^ m-1) (A7 ops.toList) (X.enc w)=sm:=by
  conv=>lhs;rw [<- JC m (A7 ops.toList)]
  rw [Adn,A8d hrun1 λp hp=>by have:=tk p hp;rw [ZP];simpa using this]
  refine O3 λp hp=>?_;obtain ⟨k,hk⟩:=YX hp;rw [YD] at hk;have:=(Cv hk).1;rw [ZP];simp only [ZS];omega
 have hfull:(if 2 ^ ops.size-1<2 ^ m then SL (2 ^ ops.size-1) D (X.enc w) else S3 T K A q (2 ^ ops.size-1) (A7 ops.toList) (X.enc w))=s':=by
  have hS3:S3 T K A q (2 ^ ops.size-1) (A7 ops.toList) (X.enc w)=s':=A8d hrun λp hp=>by
   obtain ⟨j,hj⟩:=YX hp;have:=(Cv hj).1;have hlt:=(ZA.1 hj).1;rw [ZP];simp only [QN];omega
  split
  . rename_i hlt
    have hnm:ops.size<=m:=by
     rcases ZW m ops.size with h | h
     . exfalso
       have h3:2 ^ (m+1)<=2 ^ ops.size:=XY (by omega) h
       have h4:0<2 ^ m:=Qbu (by omega)
       have:2 ^ (m+1)=2*2 ^ m:=by rw [YG];omega
       omega
     . exact h
    rw [QX (by omega)] at hrun2
    have e:sm=s':=hrun2;rw [<- e];refine a3 _ λp hp=>?_;obtain ⟨o,ho,_,_⟩:=ent p hp;have:=(ZR.1 ho).1;rw [ZP];simpa using this
  . exact hS3
 have:=Abs (P:=P) hfol (K:=K) (id:=id) (ops:=ops) (S:=λL=>(if L<2 ^ m then SL L D (X.enc w) else S3 T K A q L (A7 ops.toList) (X.enc w)).st nt)
  (λi o hi=>(chk (i,o) (ZM (at_ i o hi))).2.1) (λL i o hbig hcl hoi hbit hdep=>?_)
 . simp only [hfull,QG (show 0<2 ^ m from Qbu (by omega)),h0] at this
   exact this
 . have hmem:=ZM (at_ i o hoi);refine ⟨(chk (i,o) hmem).1,?_⟩
   have hAi:(OA.at A i).S P:=by
    unfold OA.at
    cases hl:A2 i A with
    | none=>exact ⟨(λE h=>by cases h),(λE h=>by cases h),(λE h=>by cases h)⟩
    | some a=>exact hE i a hl
   have hRV:RV.S P (A2 i q):=by
    unfold RV.S;split
    . rename_i E z hz;exact hAi.2.1 E (WT.bx hw hz)
    . trivial
   have anc0:∀ r ∈ A5i (A7 ops.toList) [],L.testBit r.1=true \/ r.1=i->∀ k,r.2.testBit k=true->L.testBit k=true:=Aaz (L:=L) (i0:=i) (l0:=A7 ops.toList) (λp hp hpi e he hbe=>by
    rcases hpi with h3 | h3
    . exact hcl p.1 p.2 h3 (opsAt p hp) e he hbe
    . have q3:=opsAt p hp;rw [h3,hoi] at q3;obtain rfl:=QA q3
      exact hdep e he hbe) (l:=A7 ops.toList) (acc:=[]) (λ_ h=>h) (λr h=>by simp at h)
   have inA:∀ j,j<ops.size->∃ mk,(j,mk) ∈ A5i (A7 ops.toList) []:=λj hj=>by
    have:∀ (l:List (Nat × Oper)) (acc:List (Nat × Nat)),((∃ p ∈ l,p.1=j) \/ ∃ mk,(j,mk) ∈ acc)->∃ mk,(j,mk) ∈ A5i l acc:=by
     intro l
     induction l with
     | nil=>intro acc h;rcases h with ⟨p,hp,_⟩ | h;simp at hp;exact h
     | cons p l ih =>
      intro acc h;obtain ⟨i1,o1⟩:=p;refine ih _ ?_;rcases h with ⟨p,hp,rfl⟩ | ⟨mk,h⟩
      . rcases QW.1 hp with rfl | hp
        . exact .inr ⟨_,YE⟩
        . exact .inl ⟨p,hp,rfl⟩
      . exact .inr ⟨mk,ZH _ h⟩
    exact this _ _ (.inl ⟨(j,ops[j]),ZM (at_ j _ (Qae hj)),rfl⟩)
   have all_:∀ j,m<=j->j<ops.size->(L.testBit j=true \/ j=i)->∀ k,k<j->L.testBit k=true:=λj hmj hj hji k hk=>by
    obtain ⟨mk,hmk⟩:=inA j hj;have:=QJ.1 hsuf _ hmk;simp only [XH] at this;rcases this with h3 | h3
    . rw [ZY] at h3;omega
    . exact anc0 _ hmk hji k (QJ.1 h3 k (YH.2 hk))
   have hin:i<ops.size:=(ZR.1 hoi).1;rcases ZW i m with him | him
   rotate_left
   . -- one of those that wait for all
     have hLi:L=2 ^ i-1:=by
      refine KQ λj=>?_;rw [ZP];rcases JT j i with c | c | c
      . rw [all_ i him hin (.inr rfl) j c];simp [c]
      . subst c;rw [hbit];simp
      . have e : L.testBit j = false := by
         cases hb:L.testBit j with
         | false=>rfl
         | true =>
          exfalso
          have hjn:j<ops.size:=by
           rcases ZW j ops.size with h | h
           . exact h
           . rw [hbig j h] at hb;cases hb
          rw [all_ j (by omega) hjn (.inl hb) i c] at hbit;cases hbit
        rw [e];simp;omega
     have e1:L ||| 1 <<< i=2 ^ (i+1)-1:=by
      refine KQ λj=>?_;rw [Z1,hLi,ZP,ZP];by_cases c:j=i
      . subst c;simp
      . by_cases c2:j<i
        . have:j<i+1:=by omega
          simp [c2,this]
        . have:¬ j<i+1:=by omega
          simp [c,c2,this]
     have e2:(if L<2 ^ m then SL L D (X.enc w) else S3 T K A q L (A7 ops.toList) (X.enc w))=S3 T K A q (2 ^ i-1) (A7 ops.toList) (X.enc w):=by
      split
      . rename_i hlt
        have:i=m:=by
         rcases ZW m i with h | h
         . exfalso
           have h3:2 ^ (m+1)<=2 ^ i:=XY (by omega) h
           have h4:0<2 ^ m:=Qbu (by omega)
           have:2 ^ (m+1)=2*2 ^ m:=by rw [YG];omega
           omega
         . omega
        rw [this,hpre3]
        exact hpre L λj hj=>by rw [hLi,ZP,this];simpa using hj
      . rw [hLi]
     have e3:¬ L ||| 1 <<< i<2 ^ m:=by
      rw [e1]
      have h3:2 ^ (m+1)<=2 ^ (i+1):=XY (by omega) (by omega)
      have h4:0<2 ^ m:=Qbu (by omega)
      have:2 ^ (m+1)=2*2 ^ m:=by rw [YG];omega
      omega
     obtain ⟨av,b1,b2⟩:=Ga.at2 (i0:=i) hrun (λk p hk=>A5o hk) (i:=i) (o:=o) (by omega) (at_ i o hoi)
     rw [e2,QI e3,e1];exact A21 hT b1 rfl b2 hAi hRV
   have hLm:L<2 ^ m:=Nat.lt_pow_two_of_testBit L λj hj=>by
    cases hb:L.testBit j with
    | false=>rfl
    | true =>
     exfalso
     have hjn:j<ops.size:=by
      rcases ZW j ops.size with h | h
      . exact h
      . rw [hbig j h] at hb;cases hb
     rw [all_ j hj hjn (.inl hb) i (by omega)] at hbit;cases hbit
   have hLm2:L ||| 1 <<< i<2 ^ m:=Nat.lt_pow_two_of_testBit _ λj hj=>by
    rw [Z1,Nat.testBit_lt_two_pow (ZU hLm (XY (by omega) hj))]
    have:j ≠ i:=by omega
    simp [this]
   rw [QG hLm,QG hLm2]
   have hmemt:(i,o) ∈ (A7 ops.toList).take m:=ZM (i:=i) (by rw [XJ,QG him];exact at_ i o hoi)
   have hB:=QJ.1 h1 (i,o) hmemt;unfold B5p at hB;simp only [QF] at hB;obtain ⟨⟨hnm,hK⟩,hB⟩:=hB
   cases hDi:Zb i D with
   | none=>rw [hDi] at hB;cases hB
   | some Di =>
   rw [hDi] at hB;simp only [QF] at hB;obtain ⟨hsep,hnew⟩:=hB;obtain ⟨d0,hm⟩:=Abj hDi;obtain ⟨o',ho',hd0,_⟩:=ent _ hm;simp only at ho' hd0;rw [hoi] at ho';obtain rfl:=QA ho';subst hd0;obtain ⟨g1,g2,g3⟩:=a2 _ hm;simp only at g1 g2 g3
   have nodep:∀ p ∈ D,L.testBit p.1=true->∀ o',A2 p.1 ((A7 ops.toList).take m)=some o'->V5 o' i=false:=λp hp hb o' ho'=>by
    obtain ⟨o2,ho2,_,hlt⟩:=ent p hp;rw [lk _ _ hlt ho2] at ho';obtain rfl:=QA ho'
    cases hd:V5 o2 i with
    | false=>rfl
    | true =>
     obtain ⟨e,he,hbe,rfl⟩:=Aar hd;rw [hcl p.1 o2 hb ho2 e he hbe] at hbit;cases hbit
   have depL:∀ j,V5 o j=true->L.testBit j=true:=λj hd=>by
    obtain ⟨e,he,hbe,rfl⟩:=Aar hd;exact hdep e he hbe
   obtain ⟨mm,hm1,hm2⟩:=Af2 L (Yv D)
   have inE:∀ x,(Yv D).any (Nat.beq x)=true ↔ x ∈ Yv D:=λx=>by
    constructor
    . intro h;obtain ⟨y,hy,e⟩:=ZI.1 h;exact QB e ▸ hy
    . intro h;exact ZI.2 ⟨x,h,XZ x⟩
   have hmask:mm ∈ Apv ((A7 ops.toList).take m) D (i,o):=by
    refine Qad.2 ⟨hm1,?_⟩;simp only [QF];refine ⟨?_,?_⟩
    . rw [hm2,hbit];simp
    . refine QJ.2 λr hr=>?_
      have anc:=Aaz (L:=L) (i0:=i) (l0:=(A7 ops.toList).take m) (λp hp hpi e he hbe=>by
       have q3:=opsAt p (Qbh hp);rcases hpi with h3 | h3
       . exact hcl p.1 p.2 h3 q3 e he hbe
       . rw [h3,hoi] at q3;obtain rfl:=QA q3
         exact hdep e he hbe) (l:=(A7 ops.toList).take m) (acc:=[]) (λ_ h=>h) (λr h=>by simp at h) r hr
      have mL:mm.testBit r.1=true->L.testBit r.1=true:=λh3=>by
       rw [hm2] at h3;simp only [QF] at h3;exact h3.2
      simp only [QF];refine ⟨?_,?_⟩
      . cases hmr:mm.testBit r.1 with
        | false=>rfl
        | true =>
         cases hd:r.2.testBit i with
         | false=>rfl
         | true=>rw [anc (.inl (mL hmr)) i hd] at hbit;cases hbit
      . cases hmr:(Nat.beq r.1 i || mm.testBit r.1) with
        | false=>rfl
        | true =>
         rw [ZT,YI];refine QJ.2 λk hk=>?_
         cases hd:r.2.testBit k with
         | false=>rfl
         | true =>
          have hri:L.testBit r.1=true \/ r.1=i:=by
           simp only [XH] at hmr;rcases hmr with h3 | h3
           . exact .inr (QB h3)
           . exact .inl (mL h3)
          rw [hm2,anc hri k hd,(inE k).2 hk];rfl
   have e1:=Qaw.1 h2 (i,o) hmemt;have e2:=Qaw.1 e1 mm hmask;simp only [hDi,Bga] at e2
   have hbx:(SL L D (X.enc w)).boxes=(SL mm D (X.enc w)).boxes:=Akp rfl λp hp he=>by
    rw [hm2,(inE p.1).2 (ZK.2 ⟨p,Qad.2 ⟨hp,he⟩,rfl⟩),ZV]
   have heff:R5 T (OA.at A i) (A2 i q) o (SL L D (X.enc w))=some (Di.g,Di.av,Di.x,Di.e):=by
    unfold Amj at hnm
    cases hq:Jd o with
    | none=>rw [hq] at hnm;cases hnm
    | some xs =>
     rw [hq] at hnm;simp only at hnm;rw [<- e2];refine Ast hq (λx hx=>B0w λt ht=>?_) hbx;refine Ap7 rfl λp hp hpt=>?_;have:=QJ.1 (QJ.1 hnm x hx) p hp;rw [ht,hpt] at this;simp only [eqO,XZ,ZT,YI,QF] at this;rw [depL p.1 this.1,ZP]
     have h3:p.1<i:=by simpa [ZY] using this.2
     simp [h3]
   have hstep:=Atl (K:=K) heff (λt ht=>by rw [ht] at hK;exact hK) g3 (λb k hb hk=>by
    rw [hb,hk] at hnew;simp only [QF] at hnew;obtain ⟨⟨⟨n1,n2⟩,n3⟩,n4⟩:=hnew
    have key:∀ p ∈ D,L.testBit p.1=true->hdl p.2.1 p.2.2.e ≠ some k/\p.2.2.x.men k=false/\Afx k p.2.2.e=false:=λp hp hpb=>by
     have:=QJ.1 n4 p hp;simp only [XH] at this;rcases this with (h3 | h3) | h3
     . rw [QB h3,hbit] at hpb;cases hpb
     . simp only [QF,XB] at h3;exact ⟨Yt h3.1.1 k rfl,h3.1.2,h3.2⟩
     . exfalso;split at h3
       . rename_i o2 ho2;rw [nodep p hp hpb o2 ho2] at h3;cases h3
       . cases h3
    refine ⟨?_,n2,Ako n3 λp hp hpb=>(key p hp hpb).2⟩
    rw [Akm (by simpa using n1) λp hp hpb=>(key p hp hpb).1];rfl)
   have hadd:SL (L ||| 1 <<< i) D (X.enc w)=Gp o.dst Di (SL L D (X.enc w)):=B0t hnd hm hbit λp hp hlt hpb=>by
    have:=QJ.1 hsep p hp;simp only [XH] at this;rcases this with h3 | h3
    . have:=QB h3;omega
    . simp only [QF,XB,XH] at h3;refine ⟨Yt h3.1,?_⟩;rcases h3.2 with h4 | h4
      . exact Yt h4
      . exfalso;obtain ⟨o2,ho2,_,hlt2⟩:=ent p hp;rw [lk _ _ hlt2 ho2] at h4;simp only [XH] at h4;rcases h4 with h4 | h4
        . rw [nodep p hp hpb o2 (lk _ _ hlt2 ho2)] at h4;cases h4
        . obtain ⟨e,he,hbe,h5⟩:=Aar h4;have:=(chk (i,o) hmem).2.1 e he hbe;simp only at this;omega
   have e5:(⟨Di.g,Di.av,Di.x,Di.e⟩:Dat)=Di:=rfl;rw [e5,<- hadd,g1] at hstep;exact A21 hT hstep rfl g2 hAi hRV
end Go.Ev

/- DERIVED. Regions that draw their order: both checks. -/
namespace Go.Ev
open Go
variable {P:Program} {T:Ty} {α:Type}
def Ag (T:Ty) (K:Ah) (A:List (Nat × OA)) (X:Tm) (ops:Array Oper):Prop :=
 Av1 A (A7 ops.toList)=true /\ ∀ w q,WT A (A7 ops.toList) q->Ia T K A (A7 ops.toList) (X.enc w) q \/ Ap9 T K A (A7 ops.toList) (X.enc w) q
theorem Bct (hT:Ay P T) (hfol:P.follows .mixedOrders=true) {K:Ah} {A:List (Nat × OA)} {X:Tm} {id:Nat} {ops:Array Oper} {nt:Nat} (hE:∀ i a,A2 i A=some a->a.S P) (hF:Ag T K A X ops) {w:X.den} {k:St3->Option α} {r:α}
  (h:Id T K ops.toList A (A7 ops.toList) (X.enc w) k=some r):∃ s',Code.Den P K (.region id ops true) ((X.enc w).st nt) .normal (s'.st nt)/\k s'=some r:=by
 obtain ⟨hchk,hfam⟩:=hF
 have chk:∀ p ∈ A7 ops.toList,p.2.guard=none/\(∀ e ∈ p.2.after,Region.binds .any e=true->e.on<p.1)/\(OA.at A p.1).two=false:=λp hp=>by
  have:=QJ.1 hchk p hp;simp only [QF] at this;obtain ⟨⟨h1,h2⟩,h3⟩:=this
  refine ⟨?_,λe he hb=>?_,by cases hx:(OA.at A p.1).two with | false=>rfl | true=>rw [hx] at h3;cases h3⟩
  . cases hg:p.2.guard with
    | none=>rfl
    | some _=>rw [hg] at h1;cases h1
  . have:=QJ.1 h2 e (by simpa using he)
    rw [hb] at this;simpa [ZY] using this
 have hnod:((A7 ops.toList).map (·.1)).Nodup:=by
  have:(A7 ops.toList).map (·.1)=List.range ops.toList.length:=by
   apply JS;intro j;simp only [A7,ZX,QP,YW];by_cases hj:j<ops.toList.length
   . simp at hj;simp [hj]
   . simp at hj;simp [hj]
  rw [this];exact Qba
 obtain ⟨q,s',hw,hk,hrun⟩:=A5x _ _ _ _ hnod (λp hp=>(chk p hp).1) (λp hp=>(chk p hp).2.2) h;refine ⟨s',?_,hk⟩;rcases hfam w q hw with hfam | hlite
 rotate_left
 . exact B28 hT hfol hE hchk hw hlite hrun
 have hsz:(A7 ops.toList).length=ops.size:=by simp [A7]
 have at_:∀ (i:Nat) (o:Oper),ops[i]? = some o->(A7 ops.toList)[i]? = some (i,o):=λi o hi=>by
  obtain ⟨h1,h2⟩:=ZR.1 hi;simp [A7,YW,h1,h2]
 have h0:S3 T K A q 0 (A7 ops.toList) (X.enc w)=X.enc w:=O3 λp _=>by simp
 have hfull:S3 T K A q (2 ^ ops.size-1) (A7 ops.toList) (X.enc w)=s':=A8d hrun λp hp=>by
  obtain ⟨j,hj⟩:=YX hp;have:=(Cv hj).1;have hlt:=(ZA.1 hj).1;rw [ZP];simp only [QN];omega
 have:=Abs (P:=P) hfol (K:=K) (id:=id) (ops:=ops) (S:=λL=>(S3 T K A q L (A7 ops.toList) (X.enc w)).st nt)
  (λi o hi=>(chk (i,o) (ZM (at_ i o hi))).2.1) (λL i o hbig hcl hoi hbit hdep=>?_)
 . simp only [h0,hfull] at this;exact this
 . have hmem:=ZM (at_ i o hoi);refine ⟨(chk (i,o) hmem).1,?_⟩
   have hLd:L ∈ Na (A7 ops.toList) [0]:=by
    have:=Abh (L:=L) (A7 ops.toList) 0 [0] (λk p hk=>?_) (by simp [Nat.mod_one])
    . have e : L % 2 ^ (0 + (A7 ops.toList).length) = L := by
       refine KQ λj=>?_;rw [KG,hsz,YZ];by_cases hj:j<ops.size
       . simp [hj]
       . rw [hbig j (by omega)];simp
      rw [e] at this;exact this
    . obtain ⟨h1,h2⟩:=Cv hk
      refine ⟨by omega,(chk p (ZM hk)).2.1,λhb e he hbe=>hcl p.1 p.2 hb ?_ e he hbe⟩
      rw [h1];simpa using h2
   have hrd:(i,o) ∈ rdy (A7 ops.toList) L:=by
    refine Qad.2 ⟨hmem,?_⟩;simp only [hbit,XI,ZV];unfold A7z;refine QJ.2 λe he=>?_
    cases hbe:Region.binds .any e with
    | false=>rfl
    | true=>simpa using hdep e (by simpa using he) hbe
   have e1:=Qaw.1 hfam L hLd;have e2:=Qaw.1 e1 (i,o) hrd
   obtain ⟨av,s1,b1,b2⟩:=Ga.at (i0:=i) hrun (λk p hk=>A5o hk) (i:=i) (o:=o) (by omega) (at_ i o hoi)
   simp only [b1,QV] at e2
   have hAi:(OA.at A i).S P:=by
    unfold OA.at
    cases hl:A2 i A with
    | none=>exact ⟨(λE h=>by cases h),(λE h=>by cases h),(λE h=>by cases h)⟩
    | some a=>exact hE i a hl
   refine A21 hT e2 rfl b2 hAi ?_;unfold RV.S;split
   . rename_i E z hz;exact hAi.2.1 E (WT.bx hw hz)
   . trivial
end Go.Ev

/- DERIVED. Code, loops and functions over shapes. -/
namespace Go.Ev
open Go
variable {P:Program} {T:Ty} {α:Type}
def LO.Sound (P:Program) (K:Ah) (L:LO α) (c:Code):Prop :=
 ∀ (nt:Nat) (v:L.H.den) (k:Exit->St3->Option α) (r:α),L.run v (Oe k L.outs)=some r->∃ x s',(Code.Den P K c ((L.H.enc v).st nt) x (s'.st nt) /\ ∀ c',c = .loop c'->G4 P K c' ((L.H.enc v).st nt) x (s'.st nt))/\k x s'=some r
def A4:Code->Array Oper
 | .region _ ops _=>ops
 | _=>#[]
structure D3.OK (P:Program) (T:Ty) (K:Ah) (D:D3 α) (c:Code):Prop where
 ent:∀ id A,A2 id D.reg=some A->∀ i a,A2 i A.ops=some a->a.S P
 loop:∀ p ∈ Aa c,∀ L,A2 p.1 D.loop=some L->L.Sound P K p.2
 any:∀ p ∈ As c,∀ X ∈ Vj p.1 D.any,Ag T K ((A2 p.1 D.reg).getD {}).ops X p.2
def Cu:List (Nat × OA)->List (Ent ⊕ Ent3)
 | []=>[]
 | (_,a)::r=>a.alt.map .inr++match a.ent with
  | some E=>.inl E::(match a.entB with
   | some F=>.inr F::Cu r
   | none=>Cu r)
  | none=>match a.entB with
   | some E=>.inr E::Cu r
   | none=>Cu r
def Af:List (Nat × RA)->List (Ent ⊕ Ent3)
 | []=>[]
 | (_,A)::r=>Cu A.ops++Af r
def Bit (P:Program):Ent ⊕ Ent3->Prop
 | .inl E=>E.Sound P
 | .inr E=>E.Sound P
def Al (P:Program):List (Ent ⊕ Ent3)->Prop
 | []=>True
 | .inl E::r=>E.Sound P/\Al P r
 | .inr E::r=>E.Sound P/\Al P r
def Ab4 (P:Program) (K:Ah) (D:D3 α):List (Nat × Code)->Prop
 | []=>True
 | p::r=>(∀ L,A2 p.1 D.loop=some L->L.Sound P K p.2)/\Ab4 P K D r
theorem Al.mem:∀ {l:List (Ent ⊕ Ent3)},Al P l->∀ E ∈ l,Bit P E
 | [],_,E,h=>by cases h
 | .inl F::r,hs,E,h=>by
  rcases QW.1 h with rfl | h
  . exact hs.1
  . exact Al.mem hs.2 E h
 | .inr F::r,hs,E,h=>by
  rcases QW.1 h with rfl | h
  . exact hs.1
  . exact Al.mem hs.2 E h
theorem Ab4.mem {K:Ah} {D:D3 α}:∀ {l:List (Nat × Code)},Ab4 P K D l->∀ p ∈ l,∀ L,A2 p.1 D.loop=some L->L.Sound P K p.2
 | [],_,p,h=>by cases h
 | q::r,hs,p,h=>by
  rcases QW.1 h with rfl | h
  . exact hs.1
  . exact Ab4.mem hs.2 p h
theorem Ez:∀ {l:List (Nat × OA)} {i:Nat} {a:OA},A2 i l=some a->(∀ E,a.ent=some E->Sum.inl E ∈ Cu l)/\(∀ E,a.entB=some E->Sum.inr E ∈ Cu l) /\ ∀ E,E ∈ a.alt->Sum.inr E ∈ Cu l
 | [],_,_,h=>by cases h
 | (j,b)::r,i,a,h=>by
  simp only [A2] at h
  cases hb:Nat.beq j i with
  | true =>
   rw [hb] at h;obtain rfl:=QA h
   refine ⟨λE he=>?_,λE he=>?_,λE he=>by simp only [Cu];exact QE.2 (.inl (ZK.2 ⟨E,he,rfl⟩))⟩
   . simp only [Cu,he];exact QE.2 (.inr YE)
   . simp only [Cu];refine QE.2 (.inr ?_)
     cases b.ent with
     | some F=>simp only [he];exact ZH _ YE
     | none=>simp only [he];exact YE
  | false =>
   rw [hb] at h;have:=Ez h
   have up:∀ x,x ∈ Cu r->x ∈ Cu ((j,b)::r):=by
    intro x hx;simp only [Cu];refine QE.2 (.inr ?_);split
    . split
      . exact ZH _ (ZH _ hx)
      . exact ZH _ hx
    . split
      . exact ZH _ hx
      . exact hx
   exact ⟨λE he=>up _ (this.1 E he),λE he=>up _ (this.2.1 E he),λE he=>up _ (this.2.2 E he)⟩
theorem Fl:∀ {l:List (Nat × RA)} {id:Nat} {A:RA} {E:Ent ⊕ Ent3},A2 id l=some A->E ∈ Cu A.ops->E ∈ Af l
 | [],_,_,_,h,_=>by cases h
 | (j,B)::r,id,A,E,h,he=>by
  simp only [A2] at h;simp only [Af,QE]
  cases hb:Nat.beq j id with
  | true =>
   rw [hb] at h;obtain rfl:=QA h;exact .inl he
  | false =>
   rw [hb] at h;exact .inr (Fl h he)
def Akv (f:Tm->Prop):List Tm->Prop
 | []=>True
 | X::r=>f X/\Akv f r
theorem Akv.mem {f:Tm->Prop}:∀ {l:List Tm},Akv f l->∀ X ∈ l,f X
 | [],_,X,hX=>by cases hX
 | Y::r,h,X,hX=>by
  rcases QW.1 hX with rfl | hX
  . exact h.1
  . exact Akv.mem h.2 X hX
def Akw (T:Ty) (K:Ah) (D:D3 α):List (Nat × Array Oper)->Prop
 | []=>True
 | p::r=>Akv (λX=>Ag T K ((A2 p.1 D.reg).getD {}).ops X p.2) (Vj p.1 D.any)/\Akw T K D r
theorem Akw.mem {K:Ah} {D:D3 α}:∀ {l:List (Nat × Array Oper)},Akw T K D l->∀ p ∈ l,∀ X ∈ Vj p.1 D.any,Ag T K ((A2 p.1 D.reg).getD {}).ops X p.2
 | [],_,p,hp=>by cases hp
 | q::r,h,p,hp=>by
  rcases QW.1 hp with rfl | hp
  . exact h.1.mem
  . exact Akw.mem h.2 p hp
theorem D3.OK.mk3a {K:Ah} {D:D3 α} {c:Code} {ls:List (Nat × Code)} {as:List (Nat × Array Oper)} (he:Al P (Af D.reg)) (hl:Aa c=ls) (h:Ab4 P K D ls) (ha:As c=as) (h':Akw T K D as):D3.OK P T K D c :=
 ⟨λ_ _ hA _ _ ha'=>⟨λE hE=>he.mem (.inl E) (Fl hA ((Ez ha').1 E hE)),λE hE=>he.mem (.inr E) (Fl hA ((Ez ha').2.1 E hE)),λE hE=>he.mem (.inr E) (Fl hA ((Ez ha').2.2 E hE))⟩,λp hp=>h.mem p (by rw [<- hl];exact hp),λp hp=>h'.mem p (by rw [<- ha];exact hp)⟩
theorem D3.OK.mk3 {K:Ah} {D:D3 α} {c:Code} {ls:List (Nat × Code)} (he:Al P (Af D.reg)) (hl:Aa c=ls) (h:Ab4 P K D ls) (ha:D.any=[]:=by rfl):D3.OK P T K D c :=
 ⟨λ_ _ hA _ _ ha'=>⟨λE hE=>he.mem (.inl E) (Fl hA ((Ez ha').1 E hE)),λE hE=>he.mem (.inr E) (Fl hA ((Ez ha').2.1 E hE)),λE hE=>he.mem (.inr E) (Fl hA ((Ez ha').2.2 E hE))⟩,λp hp=>h.mem p (by rw [<- hl];exact hp),λp _ X hX=>by rw [ha] at hX;cases hX⟩
theorem Ac {K:Ah} {i:Nat} {l:List (Nat × LO α)} {L0:LO α} {c:Code} (h:A2 i l=some L0) (hs:L0.Sound P K c):∀ L,A2 i l=some L->L.Sound P K c:=λL hL=>by
 rw [h] at hL;obtain rfl:=QA hL;exact hs
theorem Den.weakT {K:Ah} {c:Code} {s:St} {s1:St3} {x:Exit} {X:Tm} {w:X.den} {nt:Nat} (h:Code.Den P K c s x (s1.st nt)) (hd:X.dec s1=some w):Code.Den P K c s x ((X.enc w).st nt) :=
 Den.weak h λ_ _ _ _ hs=>Tm.dec_ok hd hs
theorem Den.weakIn {K:Ah} {c:Code} {s:St3} {s':St} {x:Exit} {X:Tm} {w:X.den} {nt:Nat} (h:Code.Den P K c ((X.enc w).st nt) x s') (hd:X.dec s=some w):Code.Den P K c (s.st nt) x s':=by
 intro Γ wd E a ro n hK hdef hs;obtain ⟨E',hs'⟩:=Tm.dec_ok hd hs;exact h Γ wd E' a ro n hK hdef hs'
theorem D3.OK.left {K:Ah} {D:D3 α} {c d:Code} (h:D3.OK P T K D (.seq c d)):D3.OK P T K D c:=⟨h.ent,λp hp=>h.loop p (QE.2 (.inl hp)),λp hp=>h.any p (QE.2 (.inl hp))⟩
theorem D3.OK.right {K:Ah} {D:D3 α} {c d:Code} (h:D3.OK P T K D (.seq c d)):D3.OK P T K D d:=⟨h.ent,λp hp=>h.loop p (QE.2 (.inr hp)),λp hp=>h.any p (QE.2 (.inr hp))⟩
theorem Pp (hT:Ay P T) (hfol:P.follows .mixedOrders=true) {K:Ah} {D:D3 α} {nt:Nat}:∀ (c:Code) (s:St3) (k:Exit->St3->Option α) (r:α),D3.OK P T K D c->Bp P T K D c s k=some r ->
  ∃ x s',Code.Den P K c (s.st nt) x (s'.st nt)/\k x s'=some r:=by
 intro c
 induction c with
 | skip=>intro s k r _ h;exact ⟨.normal,s,Den.skip,h⟩
 | region id ops draw =>
  intro s k r hD h;simp only [Bp] at h
  have hEnt:∀ i a,A2 i ((A2 id D.reg).getD {}).ops=some a->a.S P:=λi a hi=>by
   cases hl:A2 id D.reg with
   | none=>rw [hl] at hi;cases hi
   | some A=>rw [hl] at hi;exact hD.ent id A hl i a hi
  cases hA:Vj id D.any with
  | nil =>
   rw [hA] at h;obtain ⟨s',h1,h2⟩:=B73 (id:=id) (nt:=nt) hT hfol hEnt h;exact ⟨.normal,s',h1,h2⟩
  | cons X0 r0 =>
   rw [hA] at h
   cases draw with
   | false=>cases h
   | true =>
    simp only [cond] at h
    have key:∀ l:List Tm,(∀ X ∈ l,Ag T K ((A2 id D.reg).getD {}).ops X ops)->Ae8 s (λX w=>Id T K ops.toList ((A2 id D.reg).getD {}).ops (A7 ops.toList) (X.enc w) (k .normal)) l=some r->∃ x s',Code.Den P K (.region id ops true) (s.st nt) x (s'.st nt)/\k x s'=some r:=by
     intro l
     induction l with
     | nil=>intro _ h;cases h
     | cons X l ih =>
      intro hl h;simp only [Ae8] at h;split at h
      . rename_i w hw
        obtain ⟨s',h1,h2⟩:=Bct (id:=id) (nt:=nt) hT hfol hEnt (hl X (by simp)) h
        exact ⟨.normal,s',Den.weakIn h1 hw,h2⟩
      . exact ih (λY hY=>hl Y (by simp [hY])) h
    exact key _ (λX hX=>hD.any (id,ops) (by simp [As]) X (by rw [hA];exact hX)) h
 | seq c d ihc ihd =>
  intro s k r hD h;simp only [Bp] at h;split at h
  . obtain ⟨x,s1,h1,h2⟩:=ihc _ _ _ hD.left h
    cases x with
    | normal =>
     obtain ⟨y,s2,h3,h4⟩:=ihd _ _ _ hD.right h2;exact ⟨y,s2,Den.seq h1 h3,h4⟩
    | _=>exact ⟨_,s1,Den.seqX (by simp) h1,h2⟩
  . rename_i X hX;obtain ⟨x,s1,h1,h2⟩:=ihc _ _ _ hD.left h
    cases x with
    | normal =>
     simp only at h2;split at h2
     . rename_i w hw;obtain ⟨y,s2,h3,h4⟩:=ihd _ _ _ hD.right h2;exact ⟨y,s2,Den.seq (Den.weakT h1 hw) h3,h4⟩
     . cases h2
    | _=>exact ⟨_,s1,Den.seqX (by simp) h1,h2⟩
 | cond c a b iha ihb =>
  intro s k r hD h
  cases c with
  | tmp t =>
   simp only [Bp] at h;split at h
   . rename_i y hl;have hl':=Abf (nt:=nt) hl
     cases y with
     | true =>
      simp only [cond] at h;obtain ⟨x,s',h1,h2⟩:=iha _ _ _ (D3.OK.left (d:=b) ⟨hD.ent,hD.loop,hD.any⟩) h;rw [Ka hl] at h1;exact ⟨x,s',Den.cond (b:=true) rfl hl' h1,h2⟩
     | false =>
      simp only [cond] at h;obtain ⟨x,s',h1,h2⟩:=ihb _ _ _ (D3.OK.right (c:=a) ⟨hD.ent,hD.loop,hD.any⟩) h;rw [Ka hl] at h1;exact ⟨x,s',Den.cond (b:=false) rfl hl' h1,h2⟩
   . cases h
  | const=>simp [Bp] at h
  | global=>simp [Bp] at h
  | func=>simp [Bp] at h
 | block id c ih =>
  intro s k r hD h;simp only [Bp] at h;obtain ⟨x,s',h1,h2⟩:=ih _ _ _ ⟨hD.ent,hD.loop,hD.any⟩ h
  cases x with
  | exit j =>
   simp only at h2
   cases hb:Nat.beq j id with
   | true =>
    rw [hb] at h2;obtain rfl:=QB hb;exact ⟨.normal,s',Den.blockX h1,h2⟩
   | false =>
    rw [hb] at h2
    exact ⟨.exit j,s',Den.block h1 (by intro e;injection e with e;subst e;simp at hb),h2⟩
  | _=>exact ⟨_,s',Den.block h1 (by simp),h2⟩
 | loop c ih =>
  intro s k r hD h;simp only [Bp] at h;split at h
  . rename_i L hL;split at h
    . rename_i v hv;obtain ⟨x,s',⟨h1,_⟩,h2⟩:=hD.loop _ (QS.2 rfl) L hL nt v k r h;exact ⟨x,s',Den.weakIn h1 hv,h2⟩
    . cases hp:(Aa c).isEmpty with
      | false=>rw [hp] at h;cases h
      | true =>
        rw [hp] at h;simp only [cond] at h
        have hDc:D3.OK P T K D c:=⟨hD.ent,λp hm=>(by rw [YR.1 hp] at hm;cases hm),λp hm=>hD.any p hm⟩
        obtain ⟨x,s1,h1,h2⟩:=ih _ _ _ hDc h
        cases x with
        | normal =>
         simp only at h2;split at h2
         . rename_i v hv;obtain ⟨y,s',⟨_,h3⟩,h4⟩:=hD.loop _ (QS.2 rfl) L hL nt v k r h2;exact ⟨y,s',Den.loop (.round (Den.weakT h1 hv) (h3 c rfl)),h4⟩
         . cases h2
        | _=>exact ⟨_,s1,Den.loop (.last (by simp) h1),h2⟩
  . cases h
 | rangeFunc f ps a b _ _ =>
  intro s k r hD h;simp only [Bp] at h;split at h
  . rename_i L hL;split at h
    . rename_i v hv;obtain ⟨x,s',⟨h1,_⟩,h2⟩:=hD.loop _ (QS.2 rfl) L hL nt v k r h;exact ⟨x,s',Den.weakIn h1 hv,h2⟩
    . cases h
  . cases h
 | exit id=>intro s k r _ h;exact ⟨.exit id,s,Den.exit,h⟩
 | ret=>intro s k r _ h;exact ⟨.ret,s,Den.ret,h⟩
 | scope c _=>intro s k r _ h;simp [Bp] at h
 | label l=>intro s k r _ h;simp [Bp] at h
 | goto l=>intro s k r _ h;simp [Bp] at h
 | refuse w=>intro s k r _ h;simp [Bp] at h
theorem T8 {k:Exit->St3->Option α} {y:Exit} {s:St3} {r:α}:∀ {l:List (Exit × Tm)},Mw l (Oe k l) y s=some r->∃ (X:Tm) (w:X.den),X.dec s=some w/\k y (X.enc w)=some r
 | [],h=>by cases h
 | (x,X)::l,h=>by
  simp only [Mw] at h
  cases hb:Exit.eqb x y with
  | true =>
   rw [hb] at h;obtain rfl:=Exit.eqb_eq hb;simp only [cond] at h;split at h
   . rename_i w hw;exact ⟨X,w,hw,h⟩
   . cases h
  | false =>
   rw [hb] at h;exact T8 h
theorem B7a (hT:Ay P T) (hfol:P.follows .mixedOrders=true) {K:Ah} {D:D3 α} {c:Code} {H:Tm} {outs:List (Exit × Tm)} (B:H.den->(H.den->Option α)->KS α outs->Option α) (hD:D3.OK P T K D c)
  (hB:∀ v f ks,Bp P T K D c (H.enc v) (A86 H outs f ks)=B v f ks) (n:Nat):(⟨H,outs,A5 B n⟩:LO α).Sound P K (.loop c):=by
 intro nt v k r h
 have key:∀ (n:Nat) (v:H.den),A5 B n v (Oe k outs)=some r->∃ x s',G4 P K c ((H.enc v).st nt) x (s'.st nt)/\k x s'=some r:=by
  intro n
  induction n with
  | zero=>intro v h;cases h
  | succ n ih =>
   intro v h;simp only [A5] at h;rw [<- hB] at h;obtain ⟨x,s1,h1,h2⟩:=Pp hT hfol (nt:=nt) _ _ _ _ hD h
   have out:∀ x,x ≠ .normal->Code.Den P K c ((H.enc v).st nt) x (s1.st nt)->Mw outs (Oe k outs) x s1=some r->∃ x s',G4 P K c ((H.enc v).st nt) x (s'.st nt)/\k x s'=some r:=by
    intro x hx hd hp;obtain ⟨X,w,hw,hk⟩:=T8 hp;exact ⟨x,X.enc w,.last hx (Den.weakT hd hw),hk⟩
   cases x with
   | normal =>
    simp only [A86] at h2;split at h2
    . rename_i v' hv;obtain ⟨y,s2,h3,h4⟩:=ih v' h2;exact ⟨y,s2,.round (Den.weakT h1 hv) h3,h4⟩
    . cases h2
   | _=>exact out _ (by simp) h1 h2
 obtain ⟨x,s',h1,h2⟩:=key n v h
 exact ⟨x,s',⟨Den.loop h1,λc' e=>by cases e;exact h1⟩,h2⟩
theorem A22 {s:St3} {nt:Nat} {rv:ResultVar} {v:SV} (h:A8q T s rv=some v) (hs:v.s (A6 s.boxes) = .v (v.v (A6 s.boxes))):∃ obs,O8 T (s.st nt) rv=some (v.v (A6 s.boxes),obs) /\ ∀ p ∈ obs,p:=by
 unfold A8q at h;split at h
 . rename_i t
   refine ⟨[],?_,by simp⟩
   simp only [O8,St3.st,Aq,h,QV,hs]
 . rename_i a ty;split at h
   . rename_i hh row col ha;split at h
     . rename_i e hf fz cs hl;split at h
       . rename_i r hr;obtain rfl:=QA h;have hv:(s.st nt).val (.tmp a) = .v (.one (.hp hh row col)):=C3 ha rfl;unfold Zd at hr;split at hr
         . cases hr
         . rename_i ti hti;simp only [hl] at hr
           cases hb:(Nat.beq row 0&&Nat.ble (col+ti.size) cs.length&&cs.all SV.cellB) with
           | false=>rw [hb] at hr;cases hr
           | true =>
            rw [hb] at hr;simp only [QF] at hb;obtain rfl:=QB hb.1.1;simp only [cond,QD] at hr;obtain ⟨z,hz,rfl⟩:=hr;obtain ⟨h1,h2⟩:=Hm (L:=A6 s.boxes) hz (Vk _ hb.2);rw [KK] at h1
            have hbx:(s.st nt).box hh=some ((B3.var e hf fz cs).box (A6 s.boxes)):=by
             show A2 hh (Ai (B3.box (A6 s.boxes)) s.boxes)=_;rw [C2,hl];rfl
            refine ⟨[],?_,by simp⟩
            simp only [O8,hv,I2,hti,hbx,B3.box,QZ,hb.1.2,XI,XO,ZN,cond,h1,XX]
       . cases h
     . cases h
   . cases h
theorem Amd {s:St3} {nt:Nat} {rv:ResultVar} {v:SV} {t:Sh} {q} (h:A8q T s rv=some v) (hc:Yx s.boxes t v=some (true,q)):∃ obs,O8 T (s.st nt) rv=some (v.v (A6 s.boxes),obs) /\ ∀ p ∈ obs,p:=by
 obtain ⟨x,ks⟩:=q;exact A22 h (Qr hc rfl).1
theorem B76 {s:St3} {nt:Nat} {t:Sh} {rv:ResultVar} {g:Bool} {x:t.den} {ks:List Nat} (h:Wz T s rv t=some (g,x,ks)) (hg:g=true) :
  ∃ obs,Jb T (s.st nt) rv (some (t.v x))=some (t.v x,obs,ks)/\(∀ p ∈ obs,p) /\ ∀ k ∈ ks,k<1000/\(A2 k s.boxes).isSome=true:=by
 subst hg;unfold Wz at h;split at h
 . rename_i v hv;obtain ⟨obs,h1,h2⟩:=Amd (nt:=nt) hv h;obtain ⟨_,⟨ob,h3,h4⟩,h5⟩:=Qr h rfl;have h3':Ju (s.st nt).box (v.v (A6 s.boxes)) (t.v x)=some (ob,ks):=h3;refine ⟨obs++ob,?_,λp hp=>?_,h5⟩
   . simp only [Jb,h1,h3']
   . rcases QE.1 hp with hp | hp
     . exact h2 p hp
     . exact h4 p hp
 . cases h
theorem B19 {s:St3} {nt:Nat}:∀ {ts:List Sh} {rvs:List ResultVar} {x:HL ts} {g:Bool},Ja T s ts rvs=some (g,x)->g=true ->
  ∃ obs ks,Ei T (s.st nt) rvs ((B8 ts x).map some)=some (B8 ts x,obs,ks)/\(∀ p ∈ obs,p) /\ ∀ k ∈ ks,k<1000/\(A2 k s.boxes).isSome=true:=by
 have one:∀ {t:Sh} {rv:ResultVar} {g:Bool} {x:t.den} {ks:List Nat},Wz T s rv t=some (g,x,ks)->g=true ->
   ∃ obs,Jb T (s.st nt) rv (some (t.v x))=some (t.v x,obs,ks)/\(∀ p ∈ obs,p) /\ ∀ k ∈ ks,k<1000/\(A2 k s.boxes).isSome=true:=by
  intro t rv g x ks h hg;subst hg;unfold Wz at h;split at h
  . rename_i v hv;obtain ⟨obs,h1,h2⟩:=Amd (nt:=nt) hv h;obtain ⟨_,⟨ob,h3,h4⟩,h5⟩:=Qr h rfl;have h3':Ju (s.st nt).box (v.v (A6 s.boxes)) (t.v x)=some (ob,ks):=h3;refine ⟨obs++ob,?_,λp hp=>?_,h5⟩
    . simp only [Jb,h1,h3']
    . rcases QE.1 hp with hp | hp
      . exact h2 p hp
      . exact h4 p hp
  . cases h
 intro ts
 induction ts with
 | nil =>
  intro rvs x g h hg
  cases rvs with
  | nil=>exact ⟨[],[],rfl,by simp,by simp⟩
  | cons=>simp [Ja] at h
 | cons t ts ih =>
  intro rvs x g h hg
  cases ts with
  | nil =>
   cases rvs with
   | nil=>simp [Ja] at h
   | cons rv rvs =>
    cases rvs with
    | nil =>
     simp only [Ja] at h;split at h
     . rename_i g1 y ks h1;simp only [QC,QL] at h;obtain ⟨rfl,rfl⟩:=h;obtain ⟨obs,o1,o2,o3⟩:=one h1 hg
       refine ⟨obs++[],ks++[],?_,by simpa using o2,by simpa using o3⟩
       simp only [B8,QT,XN,Ei,Qbi,o1]
     . cases h
    | cons=>simp [Ja] at h
  | cons u r =>
   cases rvs with
   | nil=>simp [Ja] at h
   | cons rv rvs =>
    simp only [Ja] at h;split at h
    . rename_i g1 y ks g2 ys h1 h2;simp only [QC,QL] at h;obtain ⟨rfl,rfl⟩:=h;simp only [QF] at hg;obtain ⟨obs,o1,o2,o3⟩:=one h1 hg.1;obtain ⟨obs',ks',p1,p2,p3⟩:=ih h2 hg.2;refine ⟨obs++obs',ks++ks',?_,λp hp=>?_,λk hk=>?_⟩
      . simp only [B8,QT,Ei,Qbi,List.tail_cons,o1];have:Ei T (s.st nt) rvs ((B8 (u::r) ys).map some)=_:=p1;rw [this]
      . rcases QE.1 hp with hp | hp
        . exact o2 p hp
        . exact p2 p hp
      . rcases QE.1 hk with hk | hk
        . exact o3 k hk
        . exact p3 k hk
    . cases h
theorem Wy:∀ (vs:List SV) (L:Nat->Nat) (i:Nat),(∀ v ∈ vs,v.s L = .v (v.v L))->Ai (SV.s L) (Fe i vs)=params i (vs.map (SV.v L))
 | [],_,_,_=>rfl
 | v::r,L,i,h=>by
  have ih:=Wy r L (i+1) λx hx=>h x (by simp [hx])
  simp only [Fe,Ai,QT,params] at ih ⊢
  rw [h v (by simp),ih]
theorem Atb {L:Nat->Nat}:∀ (ts:List Sh) (x:HL ts),∀ v ∈ F5 ts x,v.s L = .v (v.v L)
 | [],_,v,h=>by cases h
 | [t],x,v,h=>by
  simp only [F5,QS] at h;subst h;rw [(J6 t x).2,(J6 t x).1]
 | t::u::r,x,v,h=>by
  simp only [F5,QW] at h;rcases h with rfl | h
  . rw [(J6 t x.1).2,(J6 t x.1).1]
  . exact Atb (u::r) x.2 v (by simpa [F5] using h)
theorem B02 (ts:List Sh) (x:HL ts) (nt:Nat):(Yu ts x).st nt={ slots:=params 0 (B8 ts x),boxes:=[],nt:=nt }:=by
 simp only [Yu,St3.st];rw [Wy _ _ _ (Atb ts x),A1y];rfl
theorem Bh5 (hT:Ay P T) (hfol:P.follows .mixedOrders=true) {f:Nat} {fn:Func} {c:Code} {K:Ah} {ts rs:List Sh} {m:HL ts->Option (HL rs)} (D:D3 (HL rs))
  (hf : P.funcs[f]? = some fn) (hname : (fn.name == "runtime.NumGoroutine") = false) (hb : fn.body = some c) (hN : fn.ntmps = K.N) (hmv : K.mv = []) (hargs : ts.length <= K.N) (hD : D3.OK P T K D c)
  (h:∀ x,Bp P T K D c (Yu ts x) (B26 T rs fn.results.toList)=m x):(⟨f,ts,rs,m⟩:Ent).Sound P:=by
 intro nt x r hm;have hm:m x=some r:=hm;rw [<- h] at hm;obtain ⟨e,s',h1,h2⟩:=Pp hT hfol (nt:=nt) _ _ _ _ hD hm;rw [B02] at h1
 have key:∀ e,e = .normal \/ e = .ret->Code.Den P K c { slots:=params 0 (B8 ts x),boxes:=[],nt:=nt } e (s'.st nt)->(match Ja T s' rs fn.results.toList with | some (g,y)=>bif g then some y else none | none=>none)=some r->K6 P f nt [] [] (B8 ts x) (Kc rs r) nt []:=by
  intro e he hd h2;split at h2
  . rename_i g y hy
    cases g with
    | false=>cases h2
    | true =>
     obtain rfl:=QA h2;obtain ⟨obs,ks,o1,o2,o3⟩:=B19 (nt:=nt) hy rfl
     exact Av0 hT hf hname hb hN hmv (by rw [Ab6];exact hargs) he hd o1 o2 (Ve o3) (A1x rs y)
  . cases h2
 cases e with
 | normal=>exact key _ (.inl rfl) h1 h2
 | ret=>exact key _ (.inr rfl) h1 h2
 | _=>cases h2
end Go.Ev

/- DERIVED. Functions that are handed boxes or hand out boxes, over shapes. -/
namespace Go.Ev
open Go
variable {P:Program} {T:Ty} {α:Type}
def Ki (T:Ty) (s:St3):List PK->List ResultVar->Option (Bool × List Nat)
 | [],[]=>some (true,[])
 | .im t::r,rv::rvs=>match Wz T s rv t,Ki T s r rvs with
  | some (g,_,ks),some (g',ks')=>some (g&&g',ks++ks')
  | _,_=>none
 | _::r,_::rvs=>Ki T s r rvs
 | _,_=>none
def Sn (bs:List (Nat × B3)) (k:Nat):(c:CK)->SV->Option (c.den × List (Nat × Nat))
 | .im t,v=>bif t.one then (v.as false t).map λx=>(x,[]) else none
 | .own e t,.hw h=>match A2 h bs with
  | some (.arr e' sh false xs)=>bif Nat.beq e e' then ((Sh.sl sh).to (.sl t) xs).map λx=>(x,[(k,h)]) else none
  | _=>none
 | .ptr e t,.hp h 0 0=>match A2 h bs with
  | some (.var e' true false cs)=>bif Nat.beq e e'&&cs.all SV.isD then (t.all false cs).map λx=>(x,[(k,h)]) else none
  | _=>none
 | .back j,.hw h=>bif Nat.beq h j then some ((),[]) else none
 | .emp t,v=>match v.as false (.sl t) with
  | some []=>some ((),[])
  | _=>none
 | .tree e t,.hw h=>match A2 h bs with
  | some (.tree e' sh false xs)=>bif Nat.beq e e' then ((Sh.sl sh).to (.sl t) xs).map λx=>(x,[(k,h)]) else none
  | _=>none
 | _,_=>none
def Gm (bs:List (Nat × B3)) (k:Nat):(cs:List CK)->List SV->Option (DC cs × List (Nat × Nat))
 | [],[]=>some ((),[])
 | [c],[v]=>Sn bs k c v
 | c::d::r,v::vs=>match Sn bs k c v,Gm bs (k+1) (d::r) vs with
  | some (x,q),some (y,q')=>some ((x,y),q++q')
  | _,_=>none
 | _,_=>none
def Ws (T:Ty) (s:St3) (fbs:List (Nat × B3)) (k:Nat):(p:PK)->ResultVar->Option (p.den × List (Nat × Nat))
 | .im t,rv=>(Wz T s rv t).map λq=>(q.2.1,[])
 | .one c,rv=>match A8q T s rv with
  | some v=>Sn fbs k c v
  | none=>none
 | .mix cs,rv=>match A8q T s rv with
  | some (.agg vs)=>Gm fbs k cs vs
  | _=>none
 | .pst _ _,_=>none
def Q2 (T:Ty) (s:St3) (fbs:List (Nat × B3)) (k:Nat):(ps:List PK)->List ResultVar->Option (HP ps × List (Nat × Nat))
 | [],[]=>some ((),[])
 | [p],[rv]=>Ws T s fbs k p rv
 | p::q::r,rv::rvs=>match Ws T s fbs k p rv,Q2 T s fbs (k+p.n) (q::r) rvs with
  | some (x,l),some (y,l')=>some ((x,y),l++l')
  | _,_=>none
 | _,_=>none
def SV.isHw (j:Nat):SV->Bool
 | .hw h=>Nat.beq h j
 | _=>false
theorem B7f {j:Nat} {v:SV} (h:v.isHw j=true):v = .hw j:=by
 cases v <;> first | cases h | skip;rw [QB h]
def Gv:(fs:List (Sh ⊕ Nat))->List SV->Option (DF fs)
 | [],[]=>some ()
 | .inl t::r,v::vs=>bif t.one then (match v.as false t,Gv r vs with
  | some x,some y=>some (x,y)
  | _,_=>none) else none
 | .inr j::r,v::vs=>bif v.isHw j then Gv r vs else none
 | _,_=>none
theorem Tc:∀ {fs:List (Sh ⊕ Nat)} {cs:List SV} {x:DF fs},Gv fs cs=some x->cs=Wf fs x
 | [],[],_,_=>rfl
 | [],_::_,_,h=>by simp [Gv] at h
 | .inl t::r,[],_,h=>by simp [Gv] at h
 | .inl t::r,v::vs,x,h=>by
  simp only [Gv] at h
  cases ht:t.one with
  | false=>rw [ht] at h;cases h
  | true =>
   rw [ht] at h;simp only [cond] at h;split at h
   . rename_i a b h1 h2;obtain rfl:=QA h;rw [Pu h1,Tc h2];rfl
   . cases h
 | .inr j::r,[],_,h=>by simp [Gv] at h
 | .inr j::r,v::vs,x,h=>by
  simp only [Gv] at h
  cases he:v.isHw j with
  | false=>rw [he] at h;cases h
  | true =>
   rw [he] at h;rw [B7f he,Tc h];rfl
def Apq (bs:List (Nat × B3)) (k:Nat):(c:CK)->Option c.den
 | .own e t=>match A2 k bs with
  | some (.arr e' sh false xs)=>bif Nat.beq e e' then (Sh.sl sh).to (.sl t) xs else none
  | _=>none
 | .ptr e t=>match A2 k bs with
  | some (.var e' true false cs)=>bif Nat.beq e e'&&cs.all SV.isD then t.all false cs else none
  | _=>none
 | .tree e t=>match A2 k bs with
  | some (.tree e' sh false xs)=>bif Nat.beq e e' then (Sh.sl sh).to (.sl t) xs else none
  | _=>none
 | .vst e fs=>match A2 k bs with
  | some (.var e' false false cs)=>bif Nat.beq e e' then Gv fs cs else none
  | _=>none
 | _=>none
def Afs (os:List (Nat × CK)):Bool:=os.all λp=>match p.2 with
 | .vst _ fs=>fs.all λf=>match f with
  | .inl t=>t.one
  | .inr j=>os.any λp=>Nat.beq p.1 j
 | _=>true
def Aea (bs:List (Nat × B3)):(os:List (Nat × CK))->Option (DO os)
 | []=>some ()
 | [p]=>Apq bs p.1 p.2
 | p::q::r=>match Apq bs p.1 p.2,Aea bs (q::r) with
  | some x,some y=>some (x,y)
  | _,_=>none
def Apt {rs:List PK}:(os:List (Nat × CK))->HP rs->DO os->HR rs os
 | [],y,_=>y
 | _::_,y,z=>(y,z)
theorem B1j {rs:List PK}:∀ (os:List (Nat × CK)) (y:HP rs) (z:DO os),Mv (Apt os y z)=y/\B5k (Apt os y z)=z
 | [],_,_=>⟨rfl,rfl⟩
 | _::_,_,_=>⟨rfl,rfl⟩
def R4 (os:List (Nat × CK)):List (Nat × Nat):=os.map λp=>(p.1,p.1)
def Aq3 (T:Ty) (ts rs:List PK) (rvs:List ResultVar) (s:St3):Option (Bool × HR rs (Am 1000 ts)) :=
 match Ki T s rs rvs with
 | some (g,ks)=>match Q2 T s (Bu s.boxes ks) 0 rs rvs,Aea (Bu s.boxes ks) (Am 1000 ts) with
  | some (y,q),some z=>bif F8 (q++R4 (Am 1000 ts))&&Br (D7 0 rs y++bxO (Am 1000 ts) z) (q++R4 (Am 1000 ts))&&(q.all (λp=>Nat.blt p.2 1000)&&(Am 1000 ts).all (λp=>Nat.blt p.1 2000))&&(rs.flatMap PK.backs).all (λj=>(A2 j (D7 0 rs y)).isNone&&(Am 1000 ts).any λp=>Nat.beq p.1 j)&&Afs (Am 1000 ts) then
    some (g,Apt (Am 1000 ts) y z) else none
  | _,_=>none
 | none=>none
def A91 (T:Ty) (ts:List PK) (rvs:List ResultVar) (s:St3):(fs:List (List PK))->Option (HF (Am 1000 ts) fs)
 | []=>none
 | [rs]=>match Aq3 T ts rs rvs s with
  | some (g,y)=>bif g then some y else none
  | none=>none
 | rs::r::q=>match Aq3 T ts rs rvs s with
  | some (g,y)=>bif g then some (.inl y) else none
  | none=>match A91 T ts rvs s (r::q) with
   | some z=>some (.inr z)
   | none=>none
def B25 (T:Ty) (ts:List PK) (fs:List (List PK)) (rvs:List ResultVar) (x:Exit) (s:St3):Option (HF (Am 1000 ts) fs) :=
 match x with
 | .normal=>A91 T ts rvs s fs
 | .ret=>A91 T ts rvs s fs
 | _=>none
section
variable {bs:List (Nat × B3)} {ρ L0 L':Nat->Nat} {p:Nat->Bool}
theorem Va {k:Nat} {c:CK} {v:SV} {x:c.den} {q:List (Nat × Nat)} (h:Sn bs k c v=some (x,q)) (hL0:A6 bs=L0)
  (hq:∀ r ∈ q,ρ r.2=r.1/\p r.2=true) (hbk:∀ j ∈ c.backs,ρ j=j/\p j=true/\L' j=L0 j) (hL:∀ k' b,(k',b) ∈ c.bx k x->L' k'=b.len) :
  v.cellB=true/\(v.c L0).ren ρ=(c.sv k x).c L'/\(v.c L0).okH p=true/\(c.sv k x).cellB=true/\C9 bs (c.bx k x) q:=by
 unfold Sn at h;split at h
 . rename_i t
   cases ht:t.one with
   | false=>rw [ht] at h;cases h
   | true =>
    rw [ht] at h;simp only [cond,QD,QL] at h;obtain ⟨y,hy,rfl,rfl⟩:=h;obtain rfl:=Pu hy
    exact ⟨ht,rfl,rfl,ht,λk b hb=>by cases hb⟩
 . rename_i e t hh;split at h
   . rename_i e' sh xs hl
     cases he:Nat.beq e e' with
     | false=>rw [he] at h;cases h
     | true =>
      rw [he] at h;simp only [cond,QD,QL] at h;obtain ⟨y,hy,rfl,rfl⟩:=h;obtain ⟨rfl,rfl⟩:=E7 hy;obtain rfl:=QB he
      have hle:L0 hh=xs.length:=by rw [<- hL0];simp [A6,hl,B3.len]
      have hk:L' k=xs.length:=hL k (.arr e sh false xs) (by simp [CK.bx])
      obtain ⟨r1,r2⟩:=hq (k,hh) (by simp)
      refine ⟨rfl,?_,r2,rfl,λk' b hb=>?_⟩
      . simp only [SV.c,C.ren,CK.sv,hle,hk];rw [show ρ hh=k from r1]
      . exact C9.plain (k:=k) (h:=hh) (q:=[(k,hh)]) (by simp) hl rfl rfl (λ_ _=>rfl) (λ_=>rfl) k' b hb
   . cases h
 . rename_i e t hh;split at h
   . rename_i e' cs hl
     cases he:(Nat.beq e e'&&cs.all SV.isD) with
     | false=>rw [he] at h;cases h
     | true =>
      rw [he] at h;simp only [cond,QD,QL] at h;obtain ⟨y,hy,rfl,rfl⟩:=h;simp only [QF] at he;obtain rfl:=QB he.1;obtain ⟨a1,_,_,a4⟩:=Dq hy
      obtain ⟨r1,r2⟩:=hq (k,hh) (by simp)
      refine ⟨rfl,?_,r2,rfl,λk' b hb=>?_⟩
      . simp only [SV.c,C.ren,CK.sv];rw [show ρ hh=k from r1]
      . refine C9.plain (k:=k) (h:=hh) (q:=[(k,hh)]) (b:=.var e true false (t.exp y)) (by simp) hl rfl (by simp only [B3.plain,ZV];exact (J1 t y).2) (λL1 L2=>?_) (λ_=>rfl) k' b hb
        simp only [B3.box,a1,N8,Aap,a4]
   . cases h
 . rename_i j hh
   cases he:Nat.beq hh j with
   | false=>rw [he] at h;cases h
   | true =>
    rw [he] at h;simp only [cond,QC,QL] at h;obtain ⟨_,rfl⟩:=h;obtain rfl:=QB he
    obtain ⟨b1,b2,b3⟩:=hbk hh (by simp [CK.backs])
    refine ⟨rfl,?_,b2,rfl,λk b hb=>by cases hb⟩
    simp only [SV.c,C.ren,CK.sv,b1,b3]
 . rename_i t;split at h
   . rename_i ha
     cases h;obtain rfl:=Pu ha
     exact ⟨rfl,rfl,rfl,rfl,λk b hb=>by cases hb⟩
   . cases h
 . rename_i e t hh;split at h
   . rename_i e' sh xs hl
     cases he:Nat.beq e e' with
     | false=>rw [he] at h;cases h
     | true =>
      rw [he] at h;simp only [cond,QD,QL] at h;obtain ⟨y,hy,rfl,rfl⟩:=h;obtain ⟨rfl,rfl⟩:=E7 hy;obtain rfl:=QB he
      have hle:L0 hh=xs.length:=by rw [<- hL0];simp [A6,hl,B3.len]
      have hk:L' k=xs.length:=hL k (.tree e sh false xs) (by simp [CK.bx])
      obtain ⟨r1,r2⟩:=hq (k,hh) (by simp)
      refine ⟨rfl,?_,r2,rfl,λk' b hb=>?_⟩
      . simp only [SV.c,C.ren,CK.sv,hle,hk];rw [show ρ hh=k from r1]
      . exact C9.plain (k:=k) (h:=hh) (q:=[(k,hh)]) (by simp) hl rfl rfl (λ_ _=>rfl) (λ_=>rfl) k' b hb
   . cases h
 . cases h
theorem A1o:∀ {cs:List CK} {k:Nat} {vs:List SV} {x:DC cs} {q:List (Nat × Nat)},Gm bs k cs vs=some (x,q)->A6 bs=L0 ->
  (∀ r ∈ q,ρ r.2=r.1/\p r.2=true)->(∀ j ∈ cs.flatMap CK.backs,ρ j=j/\p j=true/\L' j=L0 j)->(∀ k' b,(k',b) ∈ Hg k cs x->L' k'=b.len) ->
  (vs.map (SV.c L0)).map (C.ren ρ)=(Gc k cs x).map (SV.c L')/\(vs.map (SV.c L0)).all (C.okH p)=true/\C9 bs (Hg k cs x) q
 | [],k,[],x,q,h,_,_,_,_=>⟨rfl,rfl,λk b hb=>by cases hb⟩
 | [],k,_::_,_,_,h,_,_,_,_=>by simp [Gm] at h
 | [c],k,[],_,_,h,_,_,_,_=>by simp [Gm] at h
 | [c],k,[v],x,q,h,h0,hq,hbk,hL=>by
  obtain ⟨_,h1,h2,_,h3⟩:=Va (x:=x) h h0 hq (by simpa using hbk) hL
  exact ⟨by simp only [QT,XN,Gc,h1],by simp only [QT,XN,XC,KR,h2,ZN],h3⟩
 | [c],k,v::w::r,_,_,h,_,_,_,_=>by simp [Gm] at h
 | c::d::r,k,[],_,_,h,_,_,_,_=>by simp [Gm] at h
 | c::d::r,k,v::vs,x,q,h,h0,hq,hbk,hL=>by
  simp only [Gm] at h;split at h
  . rename_i x1 q1 y1 q2 h1 h2;simp only [QC,QL] at h;obtain ⟨rfl,rfl⟩:=h
    obtain ⟨_,a1,a2,_,a3⟩:=Va h1 h0 (λr hr=>hq r (QE.2 (.inl hr))) (λj hj=>hbk j (by simp only [Qax,QE];exact .inl hj)) (λk' b hb=>hL k' b (by simp only [Hg];exact QE.2 (.inl hb)))
    obtain ⟨b1,b2,b3⟩:=A1o h2 h0 (λr hr=>hq r (QE.2 (.inr hr))) (λj hj=>hbk j (by rw [Qax];exact QE.2 (.inr hj))) (λk' b hb=>hL k' b (by simp only [Hg];exact QE.2 (.inr hb)))
    refine ⟨?_,?_,a3.app b3⟩
    . simp only [QT,Gc,a1];rw [b1]
    . simp only [QT,XC,a2,b2,ZN]
  . cases h
theorem Amc {s:St3} {nt:Nat} {k:Nat} {pk:PK} {rv:ResultVar} {x:pk.den} {q:List (Nat × Nat)} (h:Ws T s bs k pk rv=some (x,q)) (hL0:A6 bs=A6 s.boxes)
  (hq:∀ r ∈ q,ρ r.2=r.1/\p r.2=true) (hbk:∀ j ∈ pk.backs,ρ j=j/\p j=true/\L' j=A6 s.boxes j) (hL:∀ k' b,(k',b) ∈ pk.bx k x->L' k'=b.len)
  {g:Bool} {ks:List Nat} (hk:Ki T s [pk] [rv]=some (g,ks)) (hg:g=true) :
  ∃ d xv obs,Jb T (s.st nt) rv d=some (xv,obs,ks)/\(∀ p ∈ obs,p)/\xv.ren ρ=(pk.sv k x).v L'/\xv.okH p=true/\C9 bs (pk.bx k x) q/\(pk.sv k x).s L' = .v ((pk.sv k x).v L') /\ ∀ j ∈ ks,j<1000/\(A2 j s.boxes).isSome=true:=by
 cases pk with
 | im t =>
  simp only [Ws,QD,QL] at h;obtain ⟨⟨g1,y,ks1⟩,h1,rfl,rfl⟩:=h;simp only [Ki,h1,QC,QL,XO,XU] at hk;obtain ⟨rfl,rfl⟩:=hk;obtain ⟨obs,a1,a2,a3⟩:=B76 (nt:=nt) h1 hg
  refine ⟨_,_,obs,a1,a2,?_,?_,(λk b hb=>by cases hb),?_,a3⟩
  . rw [show (PK.im t).sv k y=t.sv y from rfl,(J6 t y).1];unfold Sh.v
    cases t.one with
    | true=>rfl
    | false =>
     simp only [cond,V.ren,ZX];rfl
  . unfold Sh.v
    cases t.one with
    | true=>rfl
    | false=>simp [V.okH,C.okH]
  . exact (J6 t y).2.trans (by rw [show (PK.im t).sv k y=t.sv y from rfl,(J6 t y).1])
 | one c =>
  simp only [Ki,QC,QL] at hk;obtain ⟨rfl,rfl⟩:=hk;simp only [Ws] at h;split at h
  . rename_i v hv;obtain ⟨a1,a2,a3,a4,a5⟩:=Va h hL0 hq hbk hL
    obtain ⟨obs,b1,b2⟩:=A22 (nt:=nt) hv (by rw [(G2 a1).1,(G2 a1).2])
    refine ⟨none,v.v (A6 s.boxes),obs,by simp only [Jb,b1],b2,?_,?_,a5,?_,by simp⟩
    . rw [(G2 a1).2];show V.one _=(c.sv k x).v L';rw [(G2 a4).2,a2]
    . rw [(G2 a1).2];exact a3
    . show (c.sv k x).s L' = .v ((c.sv k x).v L');rw [(G2 a4).1,(G2 a4).2]
  . cases h
 | mix cs =>
  simp only [Ki,QC,QL] at hk;obtain ⟨rfl,rfl⟩:=hk;simp only [Ws] at h;split at h
  . rename_i vs hv;obtain ⟨a1,a2,a3⟩:=A1o h hL0 hq hbk hL;obtain ⟨obs,b1,b2⟩:=A22 (nt:=nt) hv rfl
    refine ⟨none,(SV.agg vs).v (A6 s.boxes),obs,by simp only [Jb,b1],b2,?_,a2,a3,rfl,by simp⟩
    show V.agg _=V.agg _;rw [a1]
  . cases h
 | pst e gs=>simp [Ws] at h
theorem Afh {s:St3} {nt:Nat}:∀ {ps:List PK} {k:Nat} {rvs:List ResultVar} {x:HP ps} {q:List (Nat × Nat)},Q2 T s bs k ps rvs=some (x,q)->A6 bs=A6 s.boxes ->
  (∀ r ∈ q,ρ r.2=r.1/\p r.2=true)->(∀ j ∈ ps.flatMap PK.backs,ρ j=j/\p j=true/\L' j=A6 s.boxes j)->(∀ k' b,(k',b) ∈ D7 k ps x->L' k'=b.len) ->
  ∀ {g:Bool} {ks:List Nat},Ki T s ps rvs=some (g,ks)->g=true ->
  ∃ ds xs obs,Ei T (s.st nt) rvs ds=some (xs,obs,ks)/\(∀ p ∈ obs,p)/\xs.map (V.ren ρ)=(C6 k ps x).map (SV.v L')/\xs.all (V.okH p)=true/\C9 bs (D7 k ps x) q/\(∀ v ∈ C6 k ps x,v.s L' = .v (v.v L')) /\ ∀ j ∈ ks,j<1000/\(A2 j s.boxes).isSome=true
 | [],k,[],x,q,h,_,_,_,_,g,ks,hk,_=>by
  simp only [Ki,QC,QL] at hk;obtain ⟨_,rfl⟩:=hk
  exact ⟨[],[],[],rfl,by simp,rfl,rfl,(λk b hb=>by cases hb),by simp [C6],by simp⟩
 | [],k,_::_,_,_,h,_,_,_,_,_,_,_,_=>by simp [Q2] at h
 | [pk],k,[],_,_,h,_,_,_,_,_,_,_,_=>by simp [Q2] at h
 | [pk],k,[rv],x,q,h,h0,hq,hbk,hL,g,ks,hk,hg=>by
  obtain ⟨d,xv,obs,a1,a2,a3,a4,a5,a6,a7⟩:=Amc (nt:=nt) (x:=x) h h0 hq (by simpa using hbk) hL hk hg
  refine ⟨[d],[xv],obs++[],?_,by simpa using a2,?_,?_,a5,?_,a7⟩
  . simp only [Ei,Qbi,a1,XU]
  . simp only [QT,XN,C6,a3]
  . simp [a4]
  . simpa [C6] using a6
 | [pk],k,rv::w::r,_,_,h,_,_,_,_,_,_,_,_=>by simp [Q2] at h
 | pk::p2::r,k,[],_,_,h,_,_,_,_,_,_,_,_=>by simp [Q2] at h
 | pk::p2::r,k,rv::rvs,x,q,h,h0,hq,hbk,hL,g,ks,hk,hg=>by
  simp only [Q2] at h;split at h
  . rename_i x1 q1 y1 q2 h1 h2;simp only [QC,QL] at h;obtain ⟨rfl,rfl⟩:=h
    obtain ⟨g1,ks1,g2,ks2,e1,e2,rfl,rfl⟩:∃ g1 ks1 g2 ks2,Ki T s [pk] [rv]=some (g1,ks1)/\Ki T s (p2::r) rvs=some (g2,ks2)/\g=(g1&&g2)/\ks=ks1++ks2:=by
     cases pk with
     | im t =>
      simp only [Ki] at hk;split at hk
      . rename_i g1 a ks1 g2 ks2 i1 i2;simp only [QC,QL] at hk
        exact ⟨g1,ks1,g2,ks2,by simp [Ki,i1],i2,hk.1.symm,hk.2.symm⟩
      . cases hk
     | one c=>exact ⟨true,[],g,ks,rfl,hk,by simp,rfl⟩
     | mix cs=>exact ⟨true,[],g,ks,rfl,hk,by simp,rfl⟩
     | pst e gs=>simp [Ws] at h1
    simp only [QF] at hg
    obtain ⟨d,xv,obs,a1,a2,a3,a4,a5,a6,a7⟩:=Amc (nt:=nt) h1 h0 (λr hr=>hq r (QE.2 (.inl hr))) (λj hj=>hbk j (by rw [Qax];exact QE.2 (.inl hj))) (λk' b hb=>hL k' b (by simp only [D7];exact QE.2 (.inl hb))) e1 hg.1
    obtain ⟨ds,xs,obs',b1,b2,b3,b4,b5,b6,b7⟩:=Afh (nt:=nt) h2 h0 (λr hr=>hq r (QE.2 (.inr hr))) (λj hj=>hbk j (by rw [Qax];exact QE.2 (.inr hj))) (λk' b hb=>hL k' b (by simp only [D7];exact QE.2 (.inr hb))) e2 hg.2
    refine ⟨d::ds,xv::xs,obs++obs',?_,λp hp=>(QE.1 hp).elim (a2 p) (b2 p),?_,?_,a5.app b5,?_,λj hj=>(QE.1 hj).elim (a7 j) (b7 j)⟩
    . simp only [Ei,Qbi,List.tail_cons,a1,b1]
    . simp only [QT,C6,a3,b3]
    . simp only [XC,a4,b4,ZN]
    . simpa [C6] using ⟨a6,b6⟩
  . cases h
end
end Go.Ev

/- DERIVED. THE USE for a function that is handed boxes or hands out boxes. -/
namespace Go.Ev
open Go
variable {P:Program} {T:Ty} {α:Type}
theorem A8j {L L' σ:Nat->Nat}:∀ (fs:List (Sh ⊕ Nat)) (x:DF fs),(∀ j,.inr j ∈ fs->σ j=j/\L j=L' j)->(Wf fs x).map (SV.c L)=((Wf fs x).map (SV.c L')).map (C.ren σ)
 | [],_,_=>rfl
 | .inl t::r,x,h=>by
  simp only [Wf,QT];rw [A8j r x.2 λj hj=>h j (ZH _ hj)];rfl
 | .inr j::r,x,h=>by
  obtain ⟨h1,h2⟩:=h j (by simp)
  simp only [Wf,QT];rw [A8j r x λj hj=>h j (ZH _ hj)];simp only [SV.c,C.ren,h1,h2]
theorem A8k {L:Nat->Nat} {p:Nat->Bool}:∀ (fs:List (Sh ⊕ Nat)) (x:DF fs),(∀ j,.inr j ∈ fs->p j=true)->((Wf fs x).map (SV.c L)).all (C.okH p)=true
 | [],_,_=>rfl
 | .inl t::r,x,h=>by
  simp only [Wf,QT,XC,QF];exact ⟨rfl,A8k r x.2 λj hj=>h j (ZH _ hj)⟩
 | .inr j::r,x,h=>by
  simp only [Wf,QT,XC,QF]
  exact ⟨h j (by simp),A8k r x λj hj=>h j (ZH _ hj)⟩
theorem Amh {bs:List (Nat × B3)} {k:Nat} {c:CK} {x:c.den} {Q:List (Nat × Nat)} (h:Apq bs k c=some x) (hk:(k,k) ∈ Q) (hv:∀ e fs,c = .vst e fs->∀ j,.inr j ∈ fs->(j,j) ∈ Q):C9 bs (c.bx k x) Q:=by
 unfold Apq at h;split at h
 . rename_i e t;split at h
   . rename_i e' sh xs hl
     cases he:Nat.beq e e' with
     | false=>rw [he] at h;cases h
     | true =>
      rw [he] at h;obtain ⟨rfl,rfl⟩:=E7 h;obtain rfl:=QB he;exact C9.plain hk hl rfl rfl (λ_ _=>rfl) (λ_=>rfl)
   . cases h
 . rename_i e t;split at h
   . rename_i e' cs hl
     cases he:(Nat.beq e e'&&cs.all SV.isD) with
     | false=>rw [he] at h;cases h
     | true =>
      rw [he] at h;simp only [cond] at h;simp only [QF] at he;obtain rfl:=QB he.1;obtain ⟨a1,_,_,a4⟩:=Dq h
      refine C9.plain hk hl rfl (by simp only [B3.plain,ZV];exact (J1 t x).2) (λL1 L2=>?_) (λ_=>rfl)
      simp only [B3.box,a1,N8,Aap,a4]
   . cases h
 . rename_i e t;split at h
   . rename_i e' sh xs hl
     cases he:Nat.beq e e' with
     | false=>rw [he] at h;cases h
     | true =>
      rw [he] at h;obtain ⟨rfl,rfl⟩:=E7 h;obtain rfl:=QB he;exact C9.plain hk hl rfl rfl (λ_ _=>rfl) (λ_=>rfl)
   . cases h
 . rename_i e fs;split at h
   . rename_i e' cs hl
     cases he:Nat.beq e e' with
     | false=>rw [he] at h;cases h
     | true =>
      rw [he] at h;simp only [cond] at h;obtain rfl:=Tc h;obtain rfl:=QB he;intro k' b hb;simp only [CK.bx,QS,QL] at hb;obtain ⟨rfl,rfl⟩:=hb;refine ⟨k',_,hk,hl,rfl,λL L' σ hp=>?_,λL=>⟨rfl,?_⟩⟩
      . simp only [B3.box,Box.ren,QT,XN];rw [A8j fs x λj hj=>hp _ (hv _ _ rfl j hj)]
      . simp only [B3.box,Box.okH,XC,KR,XO]
        exact A8k fs x λj hj=>ZI.2 ⟨_,hv _ _ rfl j hj,by simp⟩
   . cases h
 . cases h
theorem Afq {bs:List (Nat × B3)} {Q:List (Nat × Nat)}:∀ {os:List (Nat × CK)} {z:DO os},Aea bs os=some z->(∀ p ∈ os,(p.1,p.1) ∈ Q /\ ∀ e fs,p.2 = .vst e fs->∀ j,.inr j ∈ fs->(j,j) ∈ Q)->C9 bs (bxO os z) Q
 | [],z,_,_=>λk b hb=>by cases hb
 | [p],z,h,hq=>Amh (c:=p.2) h (hq p (by simp)).1 (hq p (by simp)).2
 | p::q::r,z,h,hq=>by
  simp only [Aea] at h;split at h
  . rename_i x y h1 h2;obtain rfl:=QA h
    have a:=Amh (c:=p.2) h1 (hq p (by simp)).1 (hq p (by simp)).2
    have b:=Afq (Q:=Q) h2 λp hp=>hq p (ZH _ hp);intro k b' hb;rcases QE.1 (show (k,b') ∈ p.2.bx p.1 x++bxO (q::r) y from hb) with hb | hb
    . exact a k b' hb
    . exact b k b' hb
  . cases h
theorem B1h {os:List (Nat × CK)} (h:Afs os=true):∀ p ∈ os,(p.1,p.1) ∈ R4 os /\ ∀ e fs,p.2 = .vst e fs->∀ j,.inr j ∈ fs->(j,j) ∈ R4 os:=by
 intro p hp;refine ⟨ZK.2 ⟨p,hp,rfl⟩,λe fs he j hj=>?_⟩;have:=QJ.1 h p hp;rw [he] at this;have:=QJ.1 this _ hj;obtain ⟨p',hp',e'⟩:=ZI.1 this;obtain rfl:=QB e';exact ZK.2 ⟨p',hp',rfl⟩
theorem Ak8:∀ {cs:List CK} {k:Nat} {x:DC cs} {k':Nat} {b:B3},(k',b) ∈ Hg k cs x->∃ c,(k',c) ∈ Ae9 k cs:=by
 have one:∀ {c:CK} {k:Nat} {x:c.den} {k':Nat} {b:B3},(k',b) ∈ c.bx k x->∃ d,(k',d) ∈ c.owns k:=by
  intro c k x k' b h
  cases c <;> simp [CK.bx,CK.owns] at h ⊢ <;> exact h.1
 intro cs
 induction cs with
 | nil=>intro k x k' b h;cases h
 | cons c r ih =>
  intro k x k' b h
  cases r with
  | nil =>
   obtain ⟨d,hd⟩:=one (c:=c) h;exact ⟨d,QE.2 (.inl hd)⟩
  | cons d r =>
   simp only [Hg] at h;rcases QE.1 h with h | h
   . obtain ⟨d,hd⟩:=one h;exact ⟨d,QE.2 (.inl hd)⟩
   . obtain ⟨d,hd⟩:=ih h;exact ⟨d,QE.2 (.inr hd)⟩
theorem B4z:∀ {ps:List PK} {k:Nat} {x:HP ps} {k':Nat} {b:B3},(k',b) ∈ D7 k ps x->∃ c,(k',c) ∈ Am k ps:=by
 have one:∀ {p:PK} {k:Nat} {x:p.den} {k':Nat} {b:B3},(k',b) ∈ p.bx k x->∃ d,(k',d) ∈ p.owns k:=by
  intro p k x k' b h
  cases p with
  | im t=>cases h
  | one c=>cases c <;> simp [PK.bx,PK.owns,CK.bx,CK.owns] at h ⊢ <;> exact h.1
  | mix cs=>exact Ak8 (cs:=cs) h
  | pst e gs =>
   rcases QW.1 (show (k',b) ∈ (k,B3.var e false false (Gc (k+1) gs x))::Hg (k+1) gs x from h) with h | h
   . obtain ⟨rfl,rfl⟩:=KJ h;exact ⟨_,YE ..⟩
   . obtain ⟨d,hd⟩:=Ak8 (cs:=gs) h;exact ⟨d,ZH _ hd⟩
 intro ps
 induction ps with
 | nil=>intro k x k' b h;cases h
 | cons p r ih =>
  intro k x k' b h
  cases r with
  | nil =>
   obtain ⟨d,hd⟩:=one (p:=p) h;exact ⟨d,QE.2 (.inl hd)⟩
  | cons d r =>
   simp only [D7] at h;rcases QE.1 h with h | h
   . obtain ⟨d,hd⟩:=one h;exact ⟨d,QE.2 (.inl hd)⟩
   . obtain ⟨d,hd⟩:=ih h;exact ⟨d,QE.2 (.inr hd)⟩
theorem Bbq (L:Nat->Nat):∀ (ps:List PK) (k:Nat) (x:HP ps),∀ v ∈ C6 k ps x,v.s L = .v (v.v L):=by
 have one:∀ (p:PK) (k:Nat) (x:p.den),(p.sv k x).s L = .v ((p.sv k x).v L):=by
  intro p k x
  cases p with
  | im t=>exact (J6 t x).2.trans (by rw [show (PK.im t).sv k x=t.sv x from rfl,(J6 t x).1])
  | one c=>cases c <;> rfl
  | mix cs=>rfl
  | pst e gs=>rfl
 intro ps
 induction ps with
 | nil=>intro k x v h;cases h
 | cons p r ih =>
  intro k x v h
  cases r with
  | nil =>
   simp only [C6,QS] at h;subst h;exact one p k x
  | cons d r =>
   simp only [C6,QW] at h;rcases h with rfl | h
   . exact one p k x.1
   . exact ih _ x.2 v (by simpa [C6] using h)
theorem Bcd {L:Nat->Nat} {vs:List SV} (h:∀ v ∈ vs,v.s L = .v (v.v L)):(Hp vs).s L=E8 (vs.map (SV.v L)):=by
 match vs,h with
 | [],_=>rfl
 | [x],h=>exact h x (by simp)
 | x::y::r,_=>rfl
theorem B1q {ρ:Nat->Nat} (xs:List V):(E8 xs).ren ρ=E8 (xs.map (V.ren ρ)):=by
 match xs with
 | []=>rfl
 | [x]=>rfl
 | x::y::r=>rfl
theorem B1r {p:Nat->Bool} {xs:List V} (h:xs.all (V.okH p)=true):(E8 xs).okH p=true:=by
 match xs,h with
 | [],_=>rfl
 | [x],h=>simpa [E8,S.okH] using h
 | x::y::r,h=>simpa [E8,S.okH] using h
def Vo (rn:List (Nat × Nat)) (h:Nat):Nat:=match K1 rn h with
 | some k=>k
 | none=>0
theorem A1f {β:Type}:∀ {l:List (Nat × β)} {k:Nat} {b:β},(k,b) ∈ l->(A2 k l).isSome=true
 | [],_,_,h=>by cases h
 | (k1,b1)::r,k,b,h=>by
  simp only [A2]
  cases hb:Nat.beq k1 k with
  | true=>rfl
  | false =>
   rcases QW.1 h with h | h
   . obtain ⟨rfl,rfl⟩:=KJ h;simp at hb
   . exact A1f h
theorem Agc (hT:Ay P T) {f:Nat} {fn:Func} {c:Code} {K:Ah} {nt:Nat} {ts rs:List PK} {x:HP ts} {e:Exit} {s:St3} {Y:HR rs (Am 1000 ts)}
  (hf : P.funcs[f]? = some fn) (hname : (fn.name == "runtime.NumGoroutine") = false) (hb : fn.body = some c) (hN : fn.ntmps = K.N) (hargs : (C6 1000 ts x).length <= K.N)
  (he:e = .normal \/ e = .ret) (hd:Code.Den P K c ((⟨Fe 0 (C6 1000 ts x),D7 1000 ts x⟩:St3).st nt) e (s.st nt)) (h:Aq3 T ts rs fn.results.toList s=some (true,Y)) :
  Hk.Den P ⟨f,ts,rs,K.mv⟩ nt x Y:=by
 unfold Aq3 at h;split at h
 case h_2=>cases h
 rename_i g ks hks;split at h
 case h_2=>cases h
 rename_i y q z hy hz
 cases hc:(F8 (q++R4 (Am 1000 ts))&&Br (D7 0 rs y++bxO (Am 1000 ts) z) (q++R4 (Am 1000 ts))&&(q.all (λp=>Nat.blt p.2 1000)&&(Am 1000 ts).all (λp=>Nat.blt p.1 2000))&&(rs.flatMap PK.backs).all (λj=>(A2 j (D7 0 rs y)).isNone&&(Am 1000 ts).any λp=>Nat.beq p.1 j)&&Afs (Am 1000 ts)) with
 | false=>rw [hc] at h;cases h
 | true =>
 rw [hc] at h;simp only [cond,QC,QL] at h;obtain ⟨rfl,rfl⟩:=h;simp only [QF] at hc;obtain ⟨⟨⟨⟨c1,c2⟩,c3,c5⟩,c4⟩,c6⟩:=hc;generalize hrn:q++R4 (Am 1000 ts)=rn at *;obtain ⟨m1,m2⟩:=B1j (rs:=rs) (Am 1000 ts) y z
 have hB:B1 ⟨f,ts,rs,K.mv⟩ (Apt (Am 1000 ts) y z)=D7 0 rs y++bxO (Am 1000 ts) z:=by
  unfold B1;rw [m1,m2]
 generalize hBd:D7 0 rs y++bxO (Am 1000 ts) z=B at *
 have qrn:∀ p ∈ q,p ∈ rn:=λp hp=>by rw [<- hrn];exact QE.2 (.inl hp)
 have irn:∀ p ∈ R4 (Am 1000 ts),p ∈ rn:=λp hp=>by rw [<- hrn];exact QE.2 (.inr hp)
 have fwdm:∀ k h,(k,h) ∈ rn->Dp rn k=h/\Vo rn h=k/\A2 k rn=some h:=λk h hm=>by
  obtain ⟨e1,e2⟩:=Fg c1 hm
  exact ⟨by unfold Dp;rw [e1],by unfold Vo;rw [e2],e1⟩
 have outS:∀ k,(A2 k (Bw B)).isSome=(A2 k rn).isSome:=λk=>by
  unfold Bw;rw [Aq,KB,Cw c2 k]
 have okP:∀ k h,(k,h) ∈ rn->((A2 (Vo rn h) (Bw B)).isSome&&Nat.beq (Dp rn (Vo rn h)) h)=true:=λk h hm=>by
  obtain ⟨e1,e2,e3⟩:=fwdm k h hm;rw [e2,outS k,e3,e1];simp
 have hL':∀ k b,(k,b) ∈ B->A6 B k=b.len:=λk b hb=>by
  have:=X2 c2 c1 hb;unfold A6;rw [this]
 have hlf:A6 (Bu s.boxes ks)=A6 s.boxes:=D4 ks s.boxes;have hout:=Afq hz (B1h c6)
 have hIdm:∀ j,j ∈ rs.flatMap PK.backs->(j,j) ∈ R4 (Am 1000 ts):=λj hj=>by
  have h4:=QJ.1 c4 j hj;simp only [QF] at h4;obtain ⟨p,hp,hpj⟩:=ZI.1 h4.2;obtain rfl:=QB hpj;exact ZK.2 ⟨p,hp,rfl⟩
 have lenB:∀ k h b,(k,b) ∈ B->(k,h) ∈ rn->∀ b',A2 h (Bu s.boxes ks)=some b'->b'.len=b.len->A6 B k=A6 s.boxes h:=λk h b hb _ b' hb' hl=>by
  rw [hL' k b hb,<- hl,<- hlf];unfold A6;rw [hb']
 have hInB:C9 (Bu s.boxes ks) (bxO (Am 1000 ts) z) (R4 (Am 1000 ts)):=hout
 have hbk:∀ j ∈ rs.flatMap PK.backs,Vo rn j=j/\((A2 (Vo rn j) (Bw B)).isSome&&Nat.beq (Dp rn (Vo rn j)) j)=true/\A6 B j=A6 s.boxes j:=λj hj=>by
  have hm:=irn _ (hIdm j hj);refine ⟨(fwdm j j hm).2.1,okP j j hm,?_⟩
  have hS:(A2 j B).isSome=true:=by rw [Cw c2 j,(fwdm j j hm).2.2];rfl
  obtain ⟨b,hb⟩:=QY.1 hS;have hmem:=C7 hb;have hmem':=hmem;rw [<- hBd] at hmem';rcases QE.1 hmem' with hm1 | hm1
  . have h4:=QJ.1 c4 j hj;simp only [QF,Option.isNone_iff_eq_none] at h4;have:=A1f hm1;rw [h4.1] at this;cases this
  . obtain ⟨h',b',i1,i2,i3,_,_⟩:=hInB j b hm1;obtain ⟨p,hp,hpe⟩:=ZK.1 i1;obtain ⟨rfl,rfl⟩:=KJ hpe;exact lenB _ _ b hmem hm b' i2 i3
 obtain ⟨ds,xs,obs,a1,a2,a3,a4,a5,a6,a7⟩:=Afh (nt:=nt) (ρ:=Vo rn) (L':=A6 B) (p:=λh=>(A2 (Vo rn h) (Bw B)).isSome&&Nat.beq (Dp rn (Vo rn h)) h) hy hlf
  (λr hr=>⟨(fwdm r.1 r.2 (qrn _ hr)).2.1,okP r.1 r.2 (qrn _ hr)⟩) hbk (λk' b hb=>hL' k' b (by rw [<- hBd];exact QE.2 (.inl hb))) hks rfl
 have hIn:C9 (Bu s.boxes ks) B rn:=by rw [<- hBd,<- hrn];exact a5.app hout
 have hr:(Hp (C6 0 rs y)).s (A6 B)=(E8 xs).ren (Vo rn):=by
  rw [Bcd a6,B1q,a3]
 have hst:(⟨Fe 0 (C6 1000 ts x),D7 1000 ts x⟩:St3).st nt={ slots:=params 0 ((C6 1000 ts x).map (SV.v (A6 (D7 1000 ts x)))),boxes:=Bw (D7 1000 ts x),nt:=nt }:=by
  simp only [St3.st];rw [Wy _ _ _ (Bbq _ ts 1000 x)];rfl
 rw [hst] at hd
 have hfin:=B27 hT (bs':=Bw B) hf hname hb hN (by rw [QZ];exact hargs) he hd a1 a2 (Ve a7) (Dp rn) (Vo rn)
  (λk b hb=>?_) (λk k' hk hk' e=>?_) (B1r a4) (λk b hb=>?_)
 . unfold Hk.Den;rw [m1,hB,hr];exact hfin
 . unfold Bw at hb;rw [Aq] at hb;obtain ⟨b3,hb3,rfl⟩:=QD.1 hb;obtain ⟨h',b',i1,i2,i3,i4,i5⟩:=hIn k b3 (C7 hb3);obtain ⟨e1,_,_⟩:=fwdm k h' i1
   have hren:b'.box (A6 s.boxes)=(b3.box (A6 B)).ren (Dp rn):=i4 _ _ _ λp hp=>by
    refine ⟨(fwdm p.1 p.2 hp).1,?_⟩
    have hS:(A2 p.1 B).isSome=true:=by rw [Cw c2 p.1,(fwdm p.1 p.2 hp).2.2];rfl
    obtain ⟨b2,hb2⟩:=QY.1 hS;obtain ⟨h2,b4,j1,j2,j3,_⟩:=hIn p.1 b2 (C7 hb2);have e2:=(fwdm p.1 h2 j1).2.2;rw [(fwdm p.1 p.2 hp).2.2] at e2;obtain rfl:=QA e2;exact (lenB _ _ b2 (C7 hb2) hp b4 j2 j3).symm
   have keyP:∀ k,(rn.any λp=>Nat.beq p.1 k)=true->∃ h,(k,h) ∈ rn:=λk hk=>by
    obtain ⟨p,hp,hp2⟩:=ZI.1 hk;obtain rfl:=QB hp2;exact ⟨p.2,hp⟩
   refine ⟨⟨b'.box (A6 s.boxes),?_,?_,?_⟩,(i5 _).1,?_⟩
   . show A2 (Dp rn k) (B7 (Ai (B3.box (A6 s.boxes)) s.boxes) ks)=_;rw [Gu,Aq,e1,i2];rfl
   . rw [hren]
     exact (Box.ren_ren (λk hk=>by
      obtain ⟨h,hm⟩:=keyP k hk
      rw [(fwdm k h hm).1,(fwdm k h hm).2.1]) (i5 _).2).symm
   . rw [hren]
     exact Box.okH_ren (λk hk=>by
      obtain ⟨h,hm⟩:=keyP k hk;rw [(fwdm k h hm).1]
      exact okP k h hm) (i5 _).2
   . rw [e1];rw [<- hrn] at i1;rcases QE.1 i1 with i1 | i1
     . exact .inl (by simpa [ZY] using QJ.1 c3 _ i1)
     . obtain ⟨p,hp5,hpe⟩:=ZK.1 i1;obtain ⟨rfl,rfl⟩:=KJ hpe
       exact .inr ⟨rfl,by simpa [ZY] using QJ.1 c5 _ hp5⟩
 . rw [outS k] at hk;rw [outS k'] at hk';obtain ⟨h1,e1⟩:=QY.1 hk;obtain ⟨h2,e2⟩:=QY.1 hk';obtain ⟨f1,f2,_⟩:=fwdm k h1 (Cz e1);obtain ⟨f3,f4,_⟩:=fwdm k' h2 (Cz e2);rw [f1,f3] at e;rw [<- f2,<- f4,e]
 . unfold Bw at hb;rw [Aq] at hb;obtain ⟨b3,hb3,_⟩:=QD.1 hb;obtain ⟨d,hd'⟩:=B4z (C7 hb3);have hm:=irn (k,k) (ZK.2 ⟨_,hd',rfl⟩);obtain ⟨e1,_,e3⟩:=fwdm k k hm
   exact ⟨e1,by rw [outS k,e3];rfl,by simpa [ZY] using QJ.1 c5 _ hd'⟩
theorem Bcr (hT:Ay P T) (hfol:P.follows .mixedOrders=true) {f:Nat} {fn:Func} {c:Code} {K:Ah} {ts:List PK} {forms:List (List PK)} {m:HP ts->Option (HF (Am 1000 ts) forms)} (D:D3 (HF (Am 1000 ts) forms))
  (hf : P.funcs[f]? = some fn) (hname : (fn.name == "runtime.NumGoroutine") = false) (hb : fn.body = some c) (hN : fn.ntmps = K.N) (hargs : ts.length <= K.N) (hD : D3.OK P T K D c)
  (h:∀ x,Bp P T K D c ⟨Fe 0 (C6 1000 ts x),D7 1000 ts x⟩ (B25 T ts forms fn.results.toList)=m x):(⟨f,ts,forms,m,K.mv⟩:Ent3).Sound P:=by
 intro nt x z hm;have hm:m x=some z:=hm;rw [<- h] at hm;obtain ⟨e,s',h1,h2⟩:=Pp hT hfol (nt:=nt) _ _ _ _ hD hm
 have hlen:(C6 1000 ts x).length<=K.N:=by
  have:∀ (ps:List PK) (k:Nat) (x:HP ps),(C6 k ps x).length=ps.length:=by
   intro ps
   induction ps with
   | nil=>intro k x;rfl
   | cons p r ih =>
    intro k x
    cases r with
    | nil=>rfl
    | cons d r=>simp only [C6,ZD];rw [ih];rfl
  rw [this];exact hargs
 have key:∀ (fs:List (List PK)) (z:HF (Am 1000 ts) fs),e = .normal \/ e = .ret->A91 T ts fn.results.toList s' fs=some z->Ab5 (Am 1000 ts) fs z λrs y=>Hk.Den P ⟨f,ts,rs,K.mv⟩ nt x y:=by
  intro fs
  induction fs with
  | nil=>intro z _ _;trivial
  | cons rs r ih =>
   intro z he hz
   cases r with
   | nil =>
    simp only [A91] at hz;split at hz
    . rename_i g y hy
      cases g with
      | false=>cases hz
      | true =>
       obtain rfl:=QA hz;exact Agc hT hf hname hb hN hlen he h1 hy
    . cases hz
   | cons r q =>
    simp only [A91] at hz;split at hz
    . rename_i g y hy
      cases g with
      | false=>cases hz
      | true =>
       obtain rfl:=QA hz;exact Agc hT hf hname hb hN hlen he h1 hy
    . split at hz
      . rename_i w hw;obtain rfl:=QA hz;exact ih w he hw
      . cases hz
 cases e with
 | normal=>exact key forms z (.inl rfl) h2
 | ret=>exact key forms z (.inr rfl) h2
 | _=>cases h2
end Go.Ev

/- DERIVED. A range over what slices.Backward hands back, over shapes. -/
namespace Go.Ev
open Go
variable {P:Program} {T:Ty} {α:Type}
def Aer (p0 p1 i:Nat) (z:Int) (s:St3):St3:={ s with slots:=Aw p1 (.d (.int .i64) z) (Aw p0 (.d (.int .i64) (i:Int)) s.slots) }
def A0s (wr:Nat->Bool) (p0 p1:Nat) (s:St3):St3:={ s with slots:=s.slots.filter λp=>!(wr p.1 || (Nat.beq p.1 p0 || Nat.beq p.1 p1)) }
theorem At6 {p0 p1 i:Nat} {z:Int} {s:St3} {nt:Nat}:(Aer p0 p1 i z s).st nt=Pz p0 p1 i z (s.st nt):=by
 simp only [Aer,St3.st,Pz,<- Fi];rfl
theorem A1j {β γ:Type} (f:β->γ) (q:Nat->Bool):∀ l:List (Nat × β),Ai f (l.filter λp=>q p.1)=(Ai f l).filter λp=>q p.1
 | []=>rfl
 | (j,y)::r=>by
  have ih:=A1j f q r;simp only [Ai] at ih;simp only [Ai,QT,YQ]
  cases q j with
  | true=>simp [ih]
  | false=>simp [ih]
theorem Akd {wr:Nat->Bool} {p0 p1:Nat} {s:St3} {nt:Nat}:(A0s wr p0 p1 s).st nt=Qv wr p0 p1 (s.st nt):=by
 simp only [A0s,St3.st,Qv]
 rw [A1j (q:=λk=>!(wr k || (Nat.beq k p0 || Nat.beq k p1)))]
def Ap4 (H:Tm) (outs:List (Exit × Tm)) (wr:Nat->Bool) (p0 p1:Nat) (f:H.den->Option α) (ks:KS α outs) (x:Exit) (s:St3):Option α :=
 match x with
 | .normal=>match H.dec (A0s wr p0 p1 s) with
  | some v=>f v
  | none=>none
 | .ret=>Mw outs ks .ret (A0s wr p0 p1 s)
 | .exit id=>Mw outs ks (.exit id) (A0s wr p0 p1 s)
 | _=>none
def Ats (P:Program) (T:Ty) (K:Ah) (D:D3 α) (H:Tm) (outs:List (Exit × Tm)) (p0 p1:Nat) (asg body:Code) (i:Nat) (z:Int) (v:H.den) (f:H.den->Option α) (ks:KS α outs):Option α :=
 Bp P T K D asg (Aer p0 p1 i z (H.enc v)) λx sA=>match x with
  | .normal=>Bp P T K D body sA (Ap4 H outs (λt=>asg.wr t || body.wr t) p0 p1 f ks)
  | _=>none
def Ob {V Ks:Type} (zsOf:V->List Int) (B:Nat->Int->V->(V->Option α)->Ks->Option α) (zs:List Int):Nat->V->(V->Option α)->Ks->Option α
 | 0,v,d,_=>d v
 | i+1,v,d,ks=>B i (zs.getD i 0) v (λv'=>gd (decide (zsOf v'=zs)) (Ob zsOf B zs i v' d ks)) ks
def Oa {V Ks:Type} (zsOf:V->List Int) (B:Nat->Int->V->(V->Option α)->Ks->Option α) (Dn:V->Ks->Option α) (v:V) (ks:Ks):Option α :=
 gd (decide ((zsOf v).length<=4611686018427387904)) (Ob zsOf B (zsOf v) (zsOf v).length v (λv'=>Dn v' ks) ks)
theorem Amz {g:Bool} {x:Option α} {r:α} (h:gd g x=some r):g=true/\x=some r:=by cases g with | true=>exact ⟨rfl,h⟩ | false=>cases h
theorem Tm.dec_weak {X:Tm} {s:St3} {w:X.den} {nt:Nat} (h:X.dec s=some w):Ip (s.st nt) ((X.enc w).st nt):=λ_ _ _ _ hs=>Tm.dec_ok h hs
theorem Afl (hT:Ay P T) (hfol:P.follows .mixedOrders=true) {K:Ah} {D:D3 α} {g p0 p1 fB:Nat} {asg body:Code} {H:Tm} {outs:List (Exit × Tm)} (zsOf:H.den->List Int)
  (B:Nat->Int->H.den->(H.den->Option α)->KS α outs->Option α) (Dn:H.den->KS α outs->Option α) (hBk:Aku P fB) (hrA:asg.rf=false) (hrB:body.rf=false) (hp0:Nat.blt p0 K.N=true) (hp1:Nat.blt p1 K.N=true)
  (hDa:D3.OK P T K D asg) (hDb:D3.OK P T K D body) (hz:∀ v,A2 g (H.enc v).slots=some (.d (.clo fB (.ref (.sl (.int .i64)))) (zsOf v)))
  (hB:∀ i z v f ks,Ats P T K D H outs p0 p1 asg body i z v f ks=B i z v f ks) (hDn:∀ v ks,Mw outs ks .normal (H.enc v)=Dn v ks) :
  (⟨H,outs,Oa zsOf B Dn⟩:LO α).Sound P K (.rangeFunc (.tmp g) #[p0,p1] asg body):=by
 intro nt v k r h;obtain ⟨hlen,h⟩:=Amz h;simp only [QN] at hlen;obtain ⟨Z,hZ⟩:∃ Z,Z=zsOf v:=⟨_,rfl⟩;rw [<- hZ] at h hlen
 have clo:∀ v',zsOf v'=Z->A2 g ((H.enc v').st nt).slots=some (Aaw fB Z):=λv' e=>by
  simp only [St3.st,Aq,hz v',QV,e];rfl
 have key:∀ (i:Nat) (v:H.den),zsOf v=Z->Ob zsOf B Z i v (λv'=>Dn v' (Oe k outs)) (Oe k outs)=some r ->
   ∃ x s1 X w,Fp P K g p0 p1 fB Z asg body i ((H.enc v).st nt) x (St3.st s1 nt)/\Tm.dec X s1=some w/\k x (X.enc w)=some r:=by
  intro i
  induction i with
  | zero =>
   intro v hv h;simp only [Ob] at h;rw [<- hDn] at h;obtain ⟨X,w,h1,h2⟩:=T8 h;exact ⟨.normal,H.enc v,X,w,.done (clo v hv),h1,h2⟩
  | succ i ih =>
   intro v hv h;simp only [Ob] at h;rw [<- hB] at h;unfold Ats at h;obtain ⟨x,sA,a1,a2⟩:=Pp hT hfol (nt:=nt) _ _ _ _ hDa h;rw [At6] at a1
   cases x with
   | normal =>
    simp only at a2;obtain ⟨y,s1,b1,b2⟩:=Pp hT hfol (nt:=nt) _ _ _ _ hDb a2
    have out:(y = .ret \/ ∃ id,y = .exit id)->Mw outs (Oe k outs) y (A0s (λt=>asg.wr t || body.wr t) p0 p1 s1)=some r ->
      ∃ x s1 X w,Fp P K g p0 p1 fB Z asg body (i+1) ((H.enc v).st nt) x (St3.st s1 nt)/\Tm.dec X s1=some w/\k x (X.enc w)=some r:=by
     intro hy hp;obtain ⟨X,w,h1,h2⟩:=T8 hp;refine ⟨y,_,X,w,?_,h1,h2⟩;rw [Akd];exact .stop (clo v hv) hy a1 b1
    cases y with
    | normal =>
     simp only [Ap4] at b2;split at b2
     . rename_i v' hv';obtain ⟨e1,e2⟩:=Amz b2
       obtain ⟨x,s2,X,w,c1,c2,c3⟩:=ih v' (by simpa using e1) e2
       exact ⟨x,s2,X,w,.round (clo v hv) a1 b1 (by rw [<- Akd];exact Tm.dec_weak hv') c1,c2,c3⟩
     . cases b2
    | ret=>exact out (.inl rfl) b2
    | exit id=>exact out (.inr ⟨id,rfl⟩) b2
    | goto l=>cases b2
    | panic c=>cases b2
    | outgrown=>cases b2
   | _=>cases a2
 obtain ⟨x,s1,X,w,c1,c2,c3⟩:=key Z.length v hZ.symm h
 have:=Den.range hBk hlen hrA hrB (by simpa [ZY] using hp0) (by simpa [ZY] using hp1) c1
 exact ⟨x,X.enc w,⟨Den.weak this (Tm.dec_weak c2),λc' e=>by cases e⟩,c3⟩
end Go.Ev

/- DERIVED. Shorter spellings for walks (squeeze3.py). -/
namespace Go.Ev
open Go
end Go.Ev
