/- DERIVED. The evaluator over shapes of data: all paths of a function. -/
import Derived.Test.YtaebdcandpfmgaaGreatEd

set_option linter.all false
set_option linter.unusedVariables false
set_option linter.unusedSimpArgs false

/- DERIVED. Regions that draw their order, over shapes: each order gives the same. -/
namespace Go.Ev
open Go
variable {P:Program} {T:Ty} {α:Type}
inductive RV where
 | sv (x:SV)
 | bx (E:Ent3) (z:HF (Aj 1000 E.ts) E.forms)
inductive AV where
 | none
 | im (E:Ent) (x:HL E.ts) (y:SV)
 | bx (E:Ent3) (x:HP E.ts) (z:HF (Aj 1000 E.ts) E.forms)
def AV.ok:AV->Prop
 | .none=>True
 | .im E x y=>∃ r,E.m x = some r /\ y = Aq E.rs r
 | .bx E x z=>E.m x = some z
def Do:List (Nat × Sh)->St3->Option (Bool × St3)
 | [],s=>some (true,s)
 | (t,sh) :: r,s=>match Kv s t sh with
  | some (g,s1)=>match Do r s1 with
   | some (g',s2)=>some (g && g',s2)
   | none=>none
  | none=>none
def D9 (T:Ty) (K:Ai) (A:OA) (rv:Option RV) (o:Oper) (s:St3):Option (Bool × AV × St3) :=
 match Do A.fz s with
 | none=>none
 | some (g0,s0)=>match A.ent with
  | some E=>match rv with
   | some (.sv y)=>match Nf E o s0 with
    | some (g,x)=>match s0.put3 K o.dst y with
     | some s'=>some (g0 && g,.im E x y,s')
     | none=>none
    | none=>none
   | _=>none
  | none=>match A.entB with
   | some _=>match rv with
    | some (.bx E z)=>match Hy E.f E.ts o s0 with
     | some (g,x,bor,q)=>Hx (Aj 1000 E.ts) E.forms z fun rs y =>
      bif Fb ⟨E.f,E.ts,rs⟩ A.hb s0 x bor q y then (match (B1 ⟨E.f,E.ts,rs⟩ A.hb s0 q y).2.put3 K o.dst (B1 ⟨E.f,E.ts,rs⟩ A.hb s0 q y).1 with
       | some s'=>some (g0 && (g && F2 (Av ⟨E.f,E.ts,rs⟩ y) s0.boxes (Cs ⟨E.f,E.ts,rs⟩ (He ⟨E.f,E.ts,rs⟩ A.hb q)) q),.bx E x z,s')
       | none=>none) else none
     | none=>none
    | _=>none
   | none=>match X9 T K A o s0 with
    | some (g,s')=>some (g0 && g,.none,s')
    | none=>none
theorem Xo {nt:Nat}:∀ {l:List (Nat × Sh)} {s s':St3} {g:Bool},Do l s = some (g,s')->g = true->Bs (s.st nt) (s'.st nt)
 | [],s,s',g,h,_=>by
  simp only [Do,QD,QG] at h;obtain ⟨_,rfl⟩:=h;exact fun _ _ E _ hs=>⟨E,hs⟩
 | (t,sh) :: r,s,s',g,h,hg=>by
  simp only [Do] at h;split at h
  . rename_i g1 s1 h1;split at h
    . rename_i g2 s2 h2;simp only [QD,QG] at h;obtain ⟨rfl,rfl⟩:=h;simp only [QE] at hg;intro Γ w E tmps hs;obtain ⟨x',ob,q1,q2⟩:=Pj (nt:=nt) h1 hg.1
      obtain ⟨E1,hs1⟩:=D8 [(t,x')] (s':=s1.st nt) (obs:=ob ++ []) hs (by simp only [Dx,q1]) (fun p hp=>by simp only [XA] at hp;exact q2 p hp)
      exact Xo h2 hg.2 Γ w E1 tmps hs1
    . cases h
  . cases h
def RV.S (P:Program):Option RV->Prop
 | some (.bx E _)=>E.Sound P
 | _=>True
theorem Yg (hT:Ao P T) {K:Ai} {A:OA} {rv:Option RV} {o:Oper} {s s':St3} {g:Bool} {av:AV} {nt:Nat} (h:D9 T K A rv o s = some (g,av,s')) (hg:g = true) (hav:av.ok) (hE:A.S P) (hrv:RV.S P rv):Xc P K o (s.st nt) (s'.st nt):=by
 unfold D9 at h;split at h
 . cases h
 rename_i g0 s0 h0;have fin:∀ {D:Ex} {obs:List Prop},g0 = true->C1 P T K o D (s0.st nt) = some (s'.st nt,obs)->(∀ p ∈ obs,p)->Xc P K o (s.st nt) (s'.st nt):=fun hg0 hs ho=>⟨_,Xo h0 hg0,Cd hT hs ho⟩;split at h
 . rename_i E hent;split at h
   . rename_i y;split at h
     . rename_i g1 x hc;split at h
       . rename_i s2 hp;simp only [QD,QG] at h;obtain ⟨rfl,rfl,rfl⟩:=h;simp only [QE] at hg;obtain ⟨rfl,rfl⟩:=hg;obtain ⟨r,hm,rfl⟩:=hav;obtain ⟨obs,h1,h2⟩:=A1u (T:=T) (nt:=nt) hc hm (hE.1 E hent);have:=Nz (nt:=nt) hp;rw [A4c] at this;obtain ⟨D',obs',h3,h4⟩:=Pm h2 this;exact fin rfl h3 (h4 h1)
       . cases h
     . cases h
   . cases h
 . rename_i hent;split at h
   . rename_i F hF;split at h
     . rename_i E z;split at h
       . rename_i g1 x bor q hc;have hS:E.Sound P:=hrv
         have hm:∀ {r:Bool × AV × St3} ,Hx (Aj 1000 E.ts) E.forms z (fun rs y =>
          bif Fb ⟨E.f,E.ts,rs⟩ A.hb s0 x bor q y then (match (B1 ⟨E.f,E.ts,rs⟩ A.hb s0 q y).2.put3 K o.dst (B1 ⟨E.f,E.ts,rs⟩ A.hb s0 q y).1 with
           | some s'=>some (g0 && (g1 && F2 (Av ⟨E.f,E.ts,rs⟩ y) s0.boxes (Cs ⟨E.f,E.ts,rs⟩ (He ⟨E.f,E.ts,rs⟩ A.hb q)) q),AV.bx E x z,s')
           | none=>none) else none) = some r->r.2.1 = .bx E x z:=fun {r} hr=>by
          have key:∀ (fs:List (List PK)) (zz:HF (Aj 1000 E.ts) fs),Hx (Aj 1000 E.ts) fs zz (fun rs y =>
           bif Fb ⟨E.f,E.ts,rs⟩ A.hb s0 x bor q y then (match (B1 ⟨E.f,E.ts,rs⟩ A.hb s0 q y).2.put3 K o.dst (B1 ⟨E.f,E.ts,rs⟩ A.hb s0 q y).1 with
            | some s'=>some (g0 && (g1 && F2 (Av ⟨E.f,E.ts,rs⟩ y) s0.boxes (Cs ⟨E.f,E.ts,rs⟩ (He ⟨E.f,E.ts,rs⟩ A.hb q)) q),AV.bx E x z,s')
            | none=>none) else none) = some r->r.2.1 = .bx E x z:=by
           intro fs zz hz
           have hall:A6l (Aj 1000 E.ts) fs zz (fun _ _=>True):=by
            clear hz
            induction fs with
            | nil=>trivial
            | cons f fs ih =>
             cases fs with
             | nil=>trivial
             | cons f2 fs=>cases zz with
              | inl a=>trivial
              | inr b=>exact ih b
           obtain ⟨rs,y,h1,_⟩:=Kp hz hall
           cases hck:Fb ⟨E.f,E.ts,rs⟩ A.hb s0 x bor q y with
           | false=>rw [hck] at h1;cases h1
           | true =>
            rw [hck] at h1;simp only [cond] at h1;split at h1
            . obtain rfl:=QA h1;rfl
            . cases h1
          exact key E.forms z hr
         have e1:av = .bx E x z:=hm h;subst e1;have hav:E.m x = some z:=hav;obtain ⟨rs,y,h1,h2⟩:=Kp h (hS nt x z hav)
         cases hck:Fb ⟨E.f,E.ts,rs⟩ A.hb s0 x bor q y with
         | false=>rw [hck] at h1;cases h1
         | true =>
          rw [hck] at h1;simp only [cond] at h1;split at h1
          . rename_i s2 hp;simp only [QD,QG] at h1;obtain ⟨e,_,rfl⟩:=h1;rw [<- e] at hg;simp only [QE] at hg;obtain ⟨rfl,rfl,hl⟩:=hg;obtain ⟨D,obs,q1,q2⟩:=A93 (T:=T) (E:=⟨E.f,E.ts,rs⟩) hc hck hl h2 hp;exact fin rfl q1 q2
          . cases h1
       . cases h
     . cases h
   . split at h
     . rename_i g1 s2 hr;simp only [QD,QG] at h;obtain ⟨rfl,rfl,rfl⟩:=h;simp only [QE] at hg;obtain ⟨D,obs,h1,h2⟩:=Aez (nt:=nt) hT hr hg.2;exact fin hg.1 h1 h2
     . cases h
abbrev OA.at (A:List (Nat × OA)) (i:Nat):OA:=(A0 i A).getD {}
def S3 (T:Ty) (K:Ai) (A:List (Nat × OA)) (q:List (Nat × RV)) (L:Nat):List (Nat × Oper)->St3->St3
 | [],s=>s
 | (i,o) :: l,s=>S3 T K A q L l (bif L.testBit i then (match D9 T K (OA.at A i) (A0 i q) o s with
  | some r=>r.2.2
  | none=>s) else s)
def WT (A:List (Nat × OA)):List (Nat × Oper)->List (Nat × RV)->Prop
 | [],q=>q = []
 | (i,_) :: l,q=>match (OA.at A i).ent with
  | some E=>∃ y q',q = (i,.sv (Aq E.rs y)) :: q' /\ WT A l q'
  | none=>match (OA.at A i).entB with
   | some F=>∃ z q',q = (i,.bx F z) :: q' /\ WT A l q'
   | none=>WT A l q
def F4 (T:Ty) (K:Ai) (A:List (Nat × OA)) (q:List (Nat × RV)):List (Nat × Oper)->St3->St3->Prop
 | [],s,s'=>s = s'
 | (i,o) :: l,s,s'=>∃ av s1,D9 T K (OA.at A i) (A0 i q) o s = some (true,av,s1) /\ av.ok /\ F4 T K A q l s1 s'
theorem WT.keys {A:List (Nat × OA)}:∀ {l:List (Nat × Oper)} {q:List (Nat × RV)},WT A l q->∀ i,(∀ p ∈ l,p.1 ≠ i)->A0 i q = none
 | [],q,h,i,_=>by unfold WT at h;subst h;rfl
 | (j,o) :: l,q,h,i,hi=>by
  have ih:=fun q' (h':WT A l q')=>WT.keys h' i fun p hp=>hi p (by simp [hp])
  unfold WT at h;split at h
  . obtain ⟨y,q',rfl,h'⟩:=h
    rw [Aw (hi (j,o) (by simp))]
    exact ih q' h'
  . split at h
    . obtain ⟨y,q',rfl,h'⟩:=h
      rw [Aw (hi (j,o) (by simp))]
      exact ih q' h'
    . exact ih q h
theorem F4.congr {K:Ai} {A:List (Nat × OA)} {q q':List (Nat × RV)}:∀ {l:List (Nat × Oper)} {s s':St3},(∀ p ∈ l,A0 p.1 q = A0 p.1 q')->F4 T K A q l s s'->F4 T K A q' l s s'
 | [],_,_,_,h=>h
 | (i,o) :: l,s,s',hq,h=>by
  obtain ⟨av,s1,h1,h2,h3⟩:=h
  exact ⟨av,s1,by rw [<- hq (i,o) (by simp)];exact h1,h2,F4.congr (fun p hp=>hq p (by simp [hp])) h3⟩
theorem Afq {l:List (Nat × Sh)} {s:St3} {k:St3->Option α} {r:α} (h:Gm l s k = some r):∃ s',Do l s = some (true,s') /\ k s' = some r:=by
 induction l generalizing s with
 | nil=>exact ⟨s,rfl,h⟩
 | cons p l ih =>
  obtain ⟨t,sh⟩:=p;simp only [Gm] at h;split at h
  . rename_i g s1 h1
    cases g with
    | false=>cases h
    | true =>
     obtain ⟨s2,h2,h3⟩:=ih h
     exact ⟨s2,by simp only [Do,h1,h2,ZF],h3⟩
  . cases h
theorem A28 {K:Ai} {ops:List Oper} {A:List (Nat × OA)}:∀ (l:List (Nat × Oper)) (s:St3) (k:St3->Option α) (r:α),(l.map (·.1)).Nodup->(∀ p ∈ l,p.2.guard = none)->(∀ p ∈ l,(OA.at A p.1).two = false) ->
  Gn T K ops A l s k = some r->∃ q s',WT A l q /\ k s' = some r /\ F4 T K A q l s s'
 | [],s,k,r,_,_,_,h=>⟨[],s,rfl,h,rfl⟩
 | (i,o) :: l,s,k,r,hn,hg,hx,h=>by
  simp only [QV,YZ] at hn
  have hni:∀ p ∈ l,p.1 ≠ i:=fun p hp e=>hn.1 (by rw [<- e];exact ZN.2 ⟨p,hp,rfl⟩)
  simp only [Gn] at h;obtain ⟨s0,h0,h⟩:=Afq h
  have hgo:o.guard = none:=hg (i,o) (by simp)
  unfold Tx at h;rw [hgo] at h;simp only at h
  have ih:=fun s1 h'=>A28 (K:=K) (ops:=ops) (A:=A) l s1 k r hn.2 (fun p hp=>hg p (by simp [hp])) (fun p hp=>hx p (by simp [hp])) h'
  obtain ⟨hxi,hal,hbo,hsh⟩:=OA.two_false (hx (i,o) (by simp))
  unfold Ph Ny at h;simp only [OA.at] at hal hbo hsh;simp only [hal,hbo,hsh,Af5] at h
  cases hent:(OA.at A i).ent with
  | some E =>
   have hB:(OA.at A i).entB = none:=by
    cases e:(OA.at A i).entB with
    | none=>rfl
    | some F=>rw [hent,e] at hxi;cases hxi
   simp only [OA.at] at hent hB;simp only [hent,hB] at h;split at h
   . rename_i g x hc
     cases g with
     | false=>cases h
     | true =>
      simp only [cond,ob] at h;split at h
      . rename_i y hm;split at h
        . rename_i s1 hp;obtain ⟨q,s',w1,w2,w3⟩:=ih s1 h;refine ⟨(i,.sv (Aq E.rs y)) :: q,s',?_,w2,?_⟩
          . unfold WT;simp only [OA.at,hent];exact ⟨y,q,rfl,w1⟩
          . refine ⟨.im E x (Aq E.rs y),s1,?_,⟨y,hm,rfl⟩,F4.congr (fun p hp=>(Aw (hni p hp).symm).symm) w3⟩;rw [Ba];simp only [D9,OA.at,h0,hent,hc,hp,ZF]
        . cases h
      . cases h
   . cases h
  | none =>
   cases hB:(OA.at A i).entB with
   | some F =>
    simp only [OA.at] at hent hB;simp only [hent,hB] at h;unfold Nx at h;split at h
    . rename_i g x bor qn hc
      cases g with
      | false=>cases h
      | true =>
       simp only [cond] at h;split at h
       . rename_i z hm
         have hall:∀ (fs:List (List PK)) (zz:HF (Aj 1000 F.ts) fs),A6l (Aj 1000 F.ts) fs zz (fun _ _=>True):=by
          intro fs
          induction fs with
          | nil=>intro _;trivial
          | cons f fs ih2 =>
           intro zz
           cases fs with
           | nil=>trivial
           | cons f2 fs=>cases zz with
            | inl a=>trivial
            | inr b=>exact ih2 b
         have key:∀ (fs:List (List PK)) (zz:HF (Aj 1000 F.ts) fs),(Hx (Aj 1000 F.ts) fs zz fun rs y=>onB K ⟨F.f,F.ts,rs⟩ ((A0 i A).getD {}).hb o s0 x bor qn y fun s2=>Gn T K ops A l s2 k) = some r ->
           ∃ s1,(Hx (Aj 1000 F.ts) fs zz fun rs y =>
            bif Fb ⟨F.f,F.ts,rs⟩ ((A0 i A).getD {}).hb s0 x bor qn y then (match (B1 ⟨F.f,F.ts,rs⟩ ((A0 i A).getD {}).hb s0 qn y).2.put3 K o.dst (B1 ⟨F.f,F.ts,rs⟩ ((A0 i A).getD {}).hb s0 qn y).1 with
             | some s'=>some (true && (true && F2 (Av ⟨F.f,F.ts,rs⟩ y) s0.boxes (Cs ⟨F.f,F.ts,rs⟩ (He ⟨F.f,F.ts,rs⟩ ((A0 i A).getD {}).hb qn)) qn),AV.bx F x z,s')
             | none=>none) else none) = some (true,.bx F x z,s1) /\ Gn T K ops A l s1 k = some r:=by
          intro fs
          induction fs with
          | nil=>intro _ h;cases h
          | cons f fs ih2 =>
           have one:∀ (y:HR f (Aj 1000 F.ts)),(onB K ⟨F.f,F.ts,f⟩ ((A0 i A).getD {}).hb o s0 x bor qn y fun s2=>Gn T K ops A l s2 k) = some r ->
             ∃ s1,(bif Fb ⟨F.f,F.ts,f⟩ ((A0 i A).getD {}).hb s0 x bor qn y then (match (B1 ⟨F.f,F.ts,f⟩ ((A0 i A).getD {}).hb s0 qn y).2.put3 K o.dst (B1 ⟨F.f,F.ts,f⟩ ((A0 i A).getD {}).hb s0 qn y).1 with
             | some s'=>some (true && (true && F2 (Av ⟨F.f,F.ts,f⟩ y) s0.boxes (Cs ⟨F.f,F.ts,f⟩ (He ⟨F.f,F.ts,f⟩ ((A0 i A).getD {}).hb qn)) qn),AV.bx F x z,s')
             | none=>none) else none) = some (true,.bx F x z,s1) /\ Gn T K ops A l s1 k = some r:=by
            intro y h;unfold onB at h
            cases hck:Fb ⟨F.f,F.ts,f⟩ ((A0 i A).getD {}).hb s0 x bor qn y with
            | false=>rw [hck] at h;cases h
            | true =>
             rw [hck] at h;simp only [cond] at h
             cases hl:F2 (Av ⟨F.f,F.ts,f⟩ y) s0.boxes (Cs ⟨F.f,F.ts,f⟩ (He ⟨F.f,F.ts,f⟩ ((A0 i A).getD {}).hb qn)) qn with
             | false=>rw [hl] at h;cases h
             | true =>
              rw [hl] at h;simp only at h;split at h
              . rename_i s1 hp;refine ⟨s1,?_,h⟩;simp only [cond,hp,ZF]
              . cases h
           cases fs with
           | nil=>exact one
           | cons f2 fs =>
            intro zz h
            cases zz with
            | inl a=>exact one a h
            | inr b=>exact ih2 b h
         obtain ⟨s1,k1,k2⟩:=key F.forms z h;obtain ⟨q,s',w1,w2,w3⟩:=ih s1 k2;refine ⟨(i,.bx F z) :: q,s',?_,w2,?_⟩
         . unfold WT;simp only [OA.at,hent,hB];exact ⟨z,q,rfl,w1⟩
         . refine ⟨.bx F x z,s1,?_,hm,F4.congr (fun p hp=>(Aw (hni p hp).symm).symm) w3⟩;rw [Ba];simp only [D9,OA.at,h0,hent,hB,hc];exact k1
       . cases h
    . cases h
   | none =>
    simp only [OA.at] at hent hB;simp only [hent,hB] at h;split at h
    . rename_i gr s2 hr
      cases gr with
      | false=>cases h
      | true =>
       simp only [cond] at h;obtain ⟨q,s',w1,w2,w3⟩:=ih s2 h;refine ⟨q,s',?_,w2,?_⟩
       . unfold WT;simp only [OA.at,hent,hB];exact w1
       . refine ⟨.none,s2,?_,trivial,w3⟩;have hnone:A0 i q = none:=WT.keys w1 i hni;rw [hnone];simp only [D9,OA.at,h0,hent,hB,hr,ZF]
    . cases h
def A3o (o:Oper) (L:Nat):Bool:=o.after.toList.all fun e=>!Region.binds .any e || L.testBit e.on
def Kn:List (Nat × Oper)->List Nat->List Nat
 | [],D=>D
 | (i,o) :: l,D=>Kn l (D ++ (D.filter (A3o o)).map fun L=>L ||| 1 <<< i)
def rdy (l:List (Nat × Oper)) (L:Nat):List (Nat × Oper):=l.filter fun p=>!L.testBit p.1 && A3o p.2 L
def Jc (T:Ty) (K:Ai) (A:List (Nat × OA)) (l:List (Nat × Oper)) (s:St3) (q:List (Nat × RV)):Prop :=
 (Kn l [0]).map (fun L=>(rdy l L).map fun p=>D9 T K (OA.at A p.1) (A0 p.1 q) p.2 (S3 T K A q L l s)) =
 (Kn l [0]).map (fun L=>(rdy l L).map fun p=>(D9 T K (OA.at A p.1) (A0 p.1 q) p.2 (S3 T K A q (2 ^ p.1 - 1) l s)).map fun r=>(r.1,r.2.1,S3 T K A q (L ||| 1 <<< p.1) l s))
theorem Jc.mk {K:Ai} {A:List (Nat × OA)} {l:List (Nat × Oper)} {s:St3} {q:List (Nat × RV)}
  (h:(Kn l [0]).map (fun L=>(rdy l L).map fun p=>D9 T K (OA.at A p.1) (A0 p.1 q) p.2 (S3 T K A q L l s)) =
   (Kn l [0]).map (fun L=>(rdy l L).map fun p=>(D9 T K (OA.at A p.1) (A0 p.1 q) p.2 (S3 T K A q (2 ^ p.1 - 1) l s)).map fun r=>(r.1,r.2.1,S3 T K A q (L ||| 1 <<< p.1) l s))):Jc T K A l s q:=h
def Aoh (A:List (Nat × OA)) (l:List (Nat × Oper)):Bool :=
 l.all fun p=>(match p.2.guard with | none=>true | some _=>false) && p.2.after.toList.all (fun e=>!Region.binds .any e || Nat.blt e.on p.1) && !(OA.at A p.1).two
theorem A2a (L i:Nat):(L.testBit i = true->L % 2 ^ (i + 1) = L % 2 ^ i ||| 1 <<< i) /\ (L.testBit i = false->L % 2 ^ (i + 1) = L % 2 ^ i):=by
 constructor
 . intro h;refine KO fun j=>?_;rw [KF,Qag,KF,KX];by_cases e:j = i
   . subst e;simp [h]
   . by_cases h1:j < i
     . have h2:j < i + 1:=by omega
       have h3:¬ i <= j:=by omega
       simp [h1,h2,h3]
     . have h2:¬ j < i + 1:=by omega
       obtain ⟨d,hd⟩:∃ d,j - i = d + 1:=⟨j - i - 1,by omega⟩
       simp [h1,h2,hd,JR]
 . intro h;refine KO fun j=>?_;rw [KF,KF];by_cases e:j = i
   . subst e;simp [h]
   . by_cases h1:j < i
     . have h2:j < i + 1:=by omega
       simp [h1,h2]
     . have h2:¬ j < i + 1:=by omega
       simp [h1,h2]
theorem A6z {L:Nat}:∀ (l:List (Nat × Oper)) (i:Nat) (D:List Nat),(∀ k p,l[k]? = some p->p.1 = i + k /\ (∀ e ∈ p.2.after,Region.binds .any e = true->e.on < p.1) /\ (L.testBit p.1 = true->∀ e ∈ p.2.after,Region.binds .any e = true->L.testBit e.on = true)) ->
  L % 2 ^ i ∈ D->L % 2 ^ (i + l.length) ∈ Kn l D
 | [],i,D,_,h=>by simpa [Kn] using h
 | (j,o) :: l,i,D,hl,h=>by
  obtain ⟨h1,h2,h3⟩:=hl 0 (j,o) rfl;simp only [KC] at h1;subst h1;simp only [Kn,ZA]
  rw [show j + (l.length + 1) = j + 1 + l.length by omega]
  refine A6z l (j + 1) _ (fun k p hk=>?_) ?_
  . obtain ⟨a,b⟩:=hl (k + 1) p (by simpa using hk)
    exact ⟨by omega,b⟩
  . cases hb:L.testBit j with
    | false =>
     rw [(A2a L j).2 hb];exact QF.2 (.inl h)
    | true =>
     rw [(A2a L j).1 hb];refine QF.2 (.inr (ZN.2 ⟨_,JZ.2 ⟨h,?_⟩,rfl⟩));unfold A3o;refine QM.2 fun e he=>?_
     cases hbe:Region.binds .any e with
     | false=>rfl
     | true =>
      have he':e ∈ o.after:=by simpa using he
      have:=h2 e he' hbe;simp only [KF,this,decide_true,XT,ZX,YN];exact h3 hb e he' hbe
theorem A43 {K:Ai} {A:List (Nat × OA)} {q:List (Nat × RV)} {L:Nat}:∀ {l:List (Nat × Oper)} {s s':St3},F4 T K A q l s s'->(∀ p ∈ l,L.testBit p.1 = true)->S3 T K A q L l s = s'
 | [],s,s',h,_=>h
 | (i,o) :: l,s,s',h,hL=>by
  obtain ⟨av,s1,h1,_,h3⟩:=h
  simp only [S3,hL (i,o) (by simp),cond,h1]
  exact A43 h3 fun p hp=>hL p (by simp [hp])
theorem Le {K:Ai} {A:List (Nat × OA)} {q:List (Nat × RV)} {L:Nat}:∀ {l:List (Nat × Oper)} {s:St3},(∀ p ∈ l,L.testBit p.1 = false)->S3 T K A q L l s = s
 | [],s,_=>rfl
 | (i,o) :: l,s,hL=>by
  simp only [S3,hL (i,o) (by simp),cond]
  exact Le fun p hp=>hL p (by simp [hp])
theorem F4.at {K:Ai} {A:List (Nat × OA)} {q:List (Nat × RV)} {i0:Nat}:∀ {l:List (Nat × Oper)} {s s':St3} {b:Nat},F4 T K A q l s s'->(∀ k p,l[k]? = some p->p.1 = b + k)->∀ {i:Nat} {o:Oper},i = b + i0->l[i0]? = some (i,o) ->
  ∃ av s1,D9 T K (OA.at A i) (A0 i q) o (S3 T K A q (2 ^ i - 1) l s) = some (true,av,s1) /\ av.ok:=by
 induction i0 with
 | zero =>
  intro l s s' b h hl i o hi ho
  match l,h with
  | [],_=>simp at ho
  | (j,o') :: l,h =>
   simp only [JH,QD,QG] at ho;obtain ⟨rfl,rfl⟩:=ho;obtain ⟨av,s1,h1,h2,_⟩:=h;refine ⟨av,s1,?_,h2⟩;rw [Le (fun p hp=>?_)]
   . exact h1
   . obtain ⟨k,hk⟩:=YX hp;have:=hl k p hk;rw [ZL];simp only [ZS];omega
 | succ i0 ih =>
  intro l s s' b h hl i o hi ho
  match l,h with
  | [],_=>simp at ho
  | (j,o') :: l,h =>
   obtain ⟨av,s1,h1,_,h3⟩:=h;have hj:=hl 0 (j,o') rfl;simp only [KC] at hj
   obtain ⟨av2,s2,q1,q2⟩:=ih (b:=b + 1) h3 (fun k p hk=>by have:=hl (k + 1) p (by simpa using hk);omega) (i:=i) (o:=o) (by omega) (by simpa using ho)
   refine ⟨av2,s2,?_,q2⟩
   have hb:(2 ^ i - 1).testBit j = true:=by
    rw [ZL];simp only [QQ];omega
   simp only [S3,hb,cond,h1];exact q1
theorem WT.bx {A:List (Nat × OA)}:∀ {l:List (Nat × Oper)} {q:List (Nat × RV)},WT A l q->∀ {i:Nat} {E:Ent3} {z:HF (Aj 1000 E.ts) E.forms},A0 i q = some (.bx E z)->(OA.at A i).entB = some E
 | [],q,h,i,E,z,hi=>by unfold WT at h;subst h;cases hi
 | (j,o) :: l,q,h,i,E,z,hi=>by
  unfold WT at h;split at h
  . obtain ⟨y,q',rfl,h'⟩:=h;simp only [A0] at hi
    cases hb:Nat.beq j i with
    | true=>rw [hb] at hi;cases hi
    | false=>rw [hb] at hi;exact WT.bx h' hi
  . split at h
    . rename_i F hF;obtain ⟨y,q',rfl,h'⟩:=h;simp only [A0] at hi
      cases hb:Nat.beq j i with
      | true =>
       rw [hb] at hi;have:=QC hb;subst this;simp only [cond,QD,RV.bx.injEq] at hi;obtain ⟨rfl,_⟩:=hi;exact hF
      | false=>rw [hb] at hi;exact WT.bx h' hi
    . exact WT.bx h hi
theorem A26 {l:List Oper} {k:Nat} {p:Nat × Oper} (h:(A9 l)[k]? = some p):p.1 = 0 + k:=by
 rw [YD];exact (Cc h).1
end Go.Ev

/- DERIVED. Regions that draw their order: what an operation does hangs on what it names, and on the boxes. -/
namespace Go.Ev
open Go
variable {P:Program} {T:Ty} {α:Type}
def Hh (o:Oper):Option (List Operand):=match o.op with
 | .move x=>some [x]
 | .assign x=>some [x]
 | .pick c a b=>some [c,a,b]
 | .load _ a=>some [a]
 | .nilCheck x=>some [x]
 | .binOp _ _ x y _=>some [x,y]
 | .unOp _ _ x=>some [x]
 | .convert _ _ x=>some [x]
 | .fieldAddr _ x _=>some [x]
 | .indexAddr _ x i=>some [x,i]
 | .extract x _=>some [x]
 | .store _ a x=>some [a,x]
 | .alloc _=>some []
 | .box _ x=>some [x]
 | .call c=>match c.callee with
  | .value f=>some (f :: c.args.toList)
  | .builtin .len=>some c.args.toList
  | .builtin .max=>some c.args.toList
  | .builtin .min=>some c.args.toList
  | _=>none
 | .slice _ x lo hi none=>some (x :: (lo.toList ++ hi.toList))
 | .build _ ps=>some (ps.toList.map (·.2))
 | .buildSlice _ _ ps=>some (ps.toList.map (·.2))
 | _=>none
theorem Jv {s s2:St3}:∀ {l:List Operand},(∀ x ∈ l,s.val x = s2.val x)->l.map s.val = l.map s2.val
 | [],_=>rfl
 | x :: l,h=>by rw [QV,QV,h x (by simp),Jv fun y hy=>h y (by simp [hy])]
theorem Sn {s s2:St3}:∀ {o:Option Operand},(∀ x ∈ o.toList,s.val x = s2.val x)->o.map s.val = o.map s2.val
 | none,_=>rfl
 | some x,h=>by rw [QP,QP,h x (by simp)]
theorem Ti {s s2:St3} {ps:Array (Nat × Operand)} (h:∀ x ∈ ps.toList.map (·.2),s.val x = s2.val x):Cq s ps = Cq s2 ps:=by
 unfold Cq
 exact ZE fun p hp=>by rw [h p.2 (ZN.2 ⟨p,hp,rfl⟩)]
theorem Agi {hint:Option Sh} {o:Oper} {xs:List Operand} {s s2:St3} (hq:Hh o = some xs) (hx:∀ x ∈ xs,s.val x = s2.val x) (hb:s.boxes = s2.boxes):J9 T hint o s = J9 T hint o s2:=by
 unfold Hh at hq;unfold J9;split at hq
 case h_15 c e =>
  rw [e];dsimp only;split at hq
  . rename_i f hc;rw [hc]
  . rename_i hc;rw [hc];obtain rfl:=QA hq;dsimp only;split
    . rename_i x t h1 h2
      rw [hx x (by rw [h1];simp),hb]
    . rfl
  . rename_i hc;rw [hc];obtain rfl:=QA hq;dsimp only;split
    . rename_i x y h1
      rw [hx x (by rw [h1];simp),hx y (by rw [h1];simp)]
    . rfl
  . rename_i hc;rw [hc];obtain rfl:=QA hq;dsimp only;split
    . rename_i x y h1
      rw [hx x (by rw [h1];simp),hx y (by rw [h1];simp)]
    . rfl
  . cases hq
 case h_2 x e =>
  obtain rfl:=QA hq;rw [e]
  cases x with
  | tmp t =>
   show Gg (s.val (.tmp t)) = Gg (s2.val (.tmp t))
   rw [hx _ (by simp)]
  | const v=>cases v <;> first | rfl | (rename_i a;cases a <;> rfl)
  | func f=>rfl
  | global g=>rfl
 case h_16 t x lo hi e =>
  obtain rfl:=QA hq;rw [e];dsimp only
  rw [hx x (by simp),Sn (o:=lo) fun y hy=>hx y (by simp [hy]),Sn (o:=hi) fun y hy=>hx y (by simp [hy]),hb]
 case h_17 t ps e =>
  obtain rfl:=QA hq;rw [e];dsimp only;rw [Ti hx]
 case h_18 t n ps e =>
  obtain rfl:=QA hq;rw [e];dsimp only;rw [Ti hx]
 all_goals first
  | (cases hq;done)
  | (rename_i e
     obtain rfl:=QA hq;simp only [QT,YH,or_false,forall_eq_or_imp,forall_eq] at hx
     first
      | (rw [e];done)
      | (rw [e];simp only [hx,hb]))
theorem Agl {E:Ent} {o:Oper} {xs:List Operand} {s s2:St3} (hq:Hh o = some xs) (hx:∀ x ∈ xs,s.val x = s2.val x) (hb:s.boxes = s2.boxes):Nf E o s = Nf E o s2:=by
 unfold Hh at hq;unfold Nf;split at hq
 case h_15 c e =>
  rw [e];dsimp only;split at hq
  . rename_i f hc;rw [hc];obtain rfl:=QA hq;dsimp only
    rw [hx f (by simp),Jv (s:=s) (s2:=s2) (l:=c.args.toList) (fun y hy=>hx y (by simp [hy])),hb]
  . rename_i hc;rw [hc]
  . rename_i hc;rw [hc]
  . rename_i hc;rw [hc]
  . cases hq
 all_goals first
  | (cases hq;done)
  | (rename_i e;rw [e])
theorem Aex {f0:Nat} {ts:List PK} {o:Oper} {xs:List Operand} {s s2:St3} (hq:Hh o = some xs) (hx:∀ x ∈ xs,s.val x = s2.val x) (hb:s.boxes = s2.boxes):Hy f0 ts o s = Hy f0 ts o s2:=by
 unfold Hh at hq;unfold Hy;split at hq
 case h_15 c e =>
  rw [e];dsimp only;split at hq
  . rename_i f hc;rw [hc];obtain rfl:=QA hq;dsimp only
    rw [hx f (by simp),Jv (s:=s) (s2:=s2) (l:=c.args.toList) (fun y hy=>hx y (by simp [hy])),hb]
  . rename_i hc;rw [hc]
  . rename_i hc;rw [hc]
  . rename_i hc;rw [hc]
  . cases hq
 all_goals first
  | (cases hq;done)
  | (rename_i e;rw [e])
def Ayf (A:OA) (E:Ent3) (bs:List (Nat × B3)) (g:Bool) (x:HP E.ts) (bor:List Nat) (q:List (Nat × Nat)) (z:HF (Aj 1000 E.ts) E.forms):Option (Bool × AV × SV × E3) :=
 Hx (Aj 1000 E.ts) E.forms z fun rs y =>
  bif (rs.flatMap PK.backs).isEmpty && (Vn rs).isEmpty && Fb ⟨E.f,E.ts,rs⟩ A.hb ⟨[],bs⟩ x bor q y then (match Av ⟨E.f,E.ts,rs⟩ y,q with
   | [(_,b)],[(_,h)]=>some (true && (g && F2 (Av ⟨E.f,E.ts,rs⟩ y) bs [] q),.bx E x z,(B1 ⟨E.f,E.ts,rs⟩ A.hb ⟨[],bs⟩ q y).1,.set h b)
   | _,_=>none) else none
theorem Y4 {α:Type} {os:List (Nat × CK)}:∀ {fs:List (List PK)} {z:HF os fs} {k:(rs:List PK)->HR rs os->Option α} {r:α},Hx os fs z k = some r->∃ rs y,k rs y = some r /\ ∀ {β:Type} (k':(rs:List PK)->HR rs os->Option β),Hx os fs z k' = k' rs y
 | [],_,_,_,h=>by cases h
 | [rs],y,k,r,h=>⟨rs,y,h,fun _=>rfl⟩
 | rs :: r0 :: q,.inl y,k,r,h=>⟨rs,y,h,fun _=>rfl⟩
 | rs :: r0 :: q,.inr z,k,r,h=>by
  obtain ⟨rs',y,h1,h2⟩:=Y4 (fs:=r0 :: q) (z:=z) (k:=k) h;exact ⟨rs',y,h1,fun k'=>h2 k'⟩
theorem Ah4 {f:SV->SV} (h:∀ x,f x = x):∀ l:List (Nat × SV),Ae f l = l
 | []=>rfl
 | (i,x) :: r=>by
  have ih:=Ah4 h r;simp only [Ae,QV,h] at ih ⊢;rw [ih]
def No (T:Ty) (A:OA) (rv:Option RV) (o:Oper) (s:St3):Option (Bool × AV × SV × E3) :=
 match A.fz,A.entB,A.ent,A.tr with
 | [],none,some E,_=>match rv with
  | some (.sv y)=>match Nf E o s with
   | some (g,x)=>some (true && g,.im E x y,y,.none)
   | none=>none
  | _=>none
 | [],none,none,none=>match J9 T A.sh o s with
  | some r=>some (true && r.g,.none,r.val,r.eff)
  | none=>none
 | [],some _,none,_=>match rv with
  | some (.bx E z)=>match Hy E.f E.ts o s with
   | some (g,x,bor,q)=>Ayf A E s.boxes g x bor q z
   | none=>none
  | _=>none
 | _,_,_,_=>none
theorem Amm {A:OA} {rv:Option RV} {o:Oper} {xs:List Operand} {s s2:St3} (hq:Hh o = some xs) (hx:∀ x ∈ xs,s.val x = s2.val x) (hb:s.boxes = s2.boxes):No T A rv o s = No T A rv o s2:=by
 unfold No;rw [Agi hq hx hb];split
 . rw [Agl hq hx hb]
 . rfl
 . split
   . rw [Aex hq hx hb,hb]
   . rfl
 . rfl
theorem A6q {K:Ai} {A:OA} {rv:Option RV} {o:Oper} {s:St3} {g:Bool} {av:AV} {x:SV} {e:E3} (h:No T A rv o s = some (g,av,x,e)) :
  D9 T K A rv o s = (s.eff3 K o.dst e).bind fun s1=>(s1.put3 K o.dst x).map fun s'=>(g,av,s'):=by
 unfold No at h;unfold D9;split at h
 . rename_i h1 h2 h3;rw [h1,h3];simp only [Do];split at h
   . rename_i y;split at h
     . rename_i g' x' hc;simp only [QD,QG] at h;obtain ⟨rfl,rfl,rfl,rfl⟩:=h;try rw [hc]
       simp only [St3.eff3,XZ]
       cases s.put3 K o.dst y <;> rfl
     . cases h
   . cases h
 . rename_i h0 h1 h2 h3;rw [h0,h1,h2];simp only [Do];unfold X9;rw [h3];split at h
   . rename_i r hc;try rw [hc]
     simp only [QD,QG] at h;obtain ⟨rfl,rfl,rfl,rfl⟩:=h;dsimp only
     cases s.eff3 K o.dst r.eff with
     | none=>rfl
     | some s1 =>
      simp only [XZ]
      cases s1.put3 K o.dst r.val <;> rfl
   . cases h
 . rename_i EB h0 h1 h2;rw [h0,h1,h2];simp only [Do];split at h
   . rename_i E z;split at h
     . rename_i g' x' bor q hc;unfold Ayf at h;obtain ⟨rs,y,e1,e2⟩:=Y4 h;simp only [hc,e2]
       cases hk:(rs.flatMap PK.backs).isEmpty with
       | false=>rw [hk] at e1;cases e1
       | true =>
        cases hk2:(Vn rs).isEmpty with
        | false=>rw [hk,hk2] at e1;cases e1
        | true =>
         have b1:rs.flatMap PK.backs = []:=YI.1 hk;have b2:Vn rs = []:=YI.1 hk2
         have b3:He ⟨E.f,E.ts,rs⟩ A.hb q = q:=by simp only [He,b2];rfl
         have b4:∀ rn,Cs ⟨E.f,E.ts,rs⟩ rn = []:=fun rn=>by simp only [Cs,b1];rfl
         have b5:Fb ⟨E.f,E.ts,rs⟩ A.hb s x' bor q y = Fb ⟨E.f,E.ts,rs⟩ A.hb ⟨[],s.boxes⟩ x' bor q y:=by
          simp only [Fb,b2,List.all_nil]
         rw [hk,hk2,XT,XT] at e1;rw [b5]
         cases hck:Fb ⟨E.f,E.ts,rs⟩ A.hb ⟨[],s.boxes⟩ x' bor q y with
         | false=>rw [hck] at e1;cases e1
         | true =>
          rw [hck] at e1;simp only [cond] at e1 ⊢;split at e1
          . rename_i k1 b k2 hh he;simp only [QD,QG] at e1;obtain ⟨rfl,rfl,rfl,rfl⟩:=e1
            have b6:(B1 ⟨E.f,E.ts,rs⟩ A.hb s [(k2,hh)] y) = ((B1 ⟨E.f,E.ts,rs⟩ A.hb ⟨[],s.boxes⟩ [(k2,hh)] y).1,⟨s.slots,Ag hh b s.boxes⟩):=by
             unfold B1;rw [b4,b3,he];simp only [List.any_nil,cond,Tv];rw [Ah4 fun _=>rfl]
            rw [b6,b3,b4];simp only [St3.eff3,XZ]
            cases St3.put3 K _ o.dst _ <;> rfl
          . cases e1
     . cases h
   . cases h
 . cases h
theorem Ie {β:Type} (k i:Nat) (x z:β) (l:List (Nat × β)):Ag k x ((i,z) :: l) = if k < i then (k,x) :: (i,z) :: l else if i = k then (k,x) :: l else (i,z) :: Ag k x l:=by
 have bl:Nat.blt k i = decide (k < i):=by
  cases e:Nat.blt k i with
  | true=>rw [ZO] at e;simp [e]
  | false =>
   have:¬ k < i:=fun hh=>by rw [<- ZO] at hh;rw [hh] at e;cases e
   simp [this]
 have be:Nat.beq i k = decide (i = k):=by
  cases e:Nat.beq i k with
  | true=>simp [QC e]
  | false =>
   have:i ≠ k:=fun hh=>by subst hh;simp at e
   simp [this]
 simp only [Ag,bl,be,QI]
theorem Ym {β:Type} {k j:Nat} (x y:β) (h:k ≠ j):∀ l:List (Nat × β),Ag k x (Ag j y l) = Ag j y (Ag k x l)
 | []=>by
  have e:∀ (a:Nat) (b:β),Ag a b [] = [(a,b)]:=fun _ _=>rfl;rw [e,e,Ie,Ie,e,e];grind
 | (i,z) :: l=>by
  have ih:=Ym x y h l;rw [Ie,Ie];by_cases h2:j < i <;> by_cases h4:i = j <;> by_cases h1:k < i <;> by_cases h3:i = k <;> simp only [h1,h2,h3,h4,if_true,if_false,Ie] <;> grind [Ie]
end Go.Ev

/- DERIVED. Regions that draw their order: a light check, one A0 at each operation for each set of operations with effects. -/
namespace Go.Ev
open Go
variable {P:Program} {T:Ty} {α:Type}
structure Dat where
 g:Bool
 av:AV
 x:SV
 e:E3
def Ro (k:Option Tmp) (e:E3) (bs:List (Nat × B3)):List (Nat × B3):=match e with
 | .new b=>match k with
  | some k=>Ag k b bs
  | none=>bs
 | .set h b=>Ag h b bs
 | _=>bs
def Po (k:Option Tmp) (x:SV) (sl:List (Nat × SV)):List (Nat × SV):=match k with
 | some t=>Ag t x sl
 | none=>sl
def Fe (d:Option Tmp) (D:Dat) (s:St3):St3:=⟨Po d D.x s.slots,Ro d D.e s.boxes⟩
def okE (d:Option Tmp):E3->Bool
 | .none=>true
 | .new _=>d.isSome
 | .set _ _=>true
 | _=>false
def isE:E3->Bool
 | .none=>false
 | _=>true
def hdl (d:Option Tmp):E3->Option Nat
 | .new _=>d
 | .set h _=>some h
 | _=>none
def Ab8 (k:Nat):E3->Bool
 | .new b=>b.men k
 | .set _ b=>b.men k
 | _=>false
def eqO:Option Nat->Option Nat->Bool
 | some a,some b=>Nat.beq a b
 | _,_=>false
theorem V4 {a b:Option Nat} (h:eqO a b = false):∀ t,a = some t->b ≠ some t:=by
 rintro t rfl rfl
 simp [eqO] at h
abbrev Em:=List (Nat × Option Tmp × Dat)
def SL (L:Nat):Em->St3->St3
 | [],s=>s
 | (i,d,D) :: r,s=>SL L r (bif L.testBit i then Fe d D s else s)
def Te (T:Ty) (A:List (Nat × OA)) (q:List (Nat × RV)):List (Nat × Oper)->St3->Option Em
 | [],_=>some []
 | (i,o) :: l,s=>match No T (OA.at A i) (A0 i q) o s with
  | some (g,av,x,e)=>bif okE o.dst e then (match Te T A q l (Fe o.dst ⟨g,av,x,e⟩ s) with
   | some r=>some ((i,o.dst,⟨g,av,x,e⟩) :: r)
   | none=>none) else none
  | none=>none
def Rr (o:Oper) (j:Nat):Bool:=o.after.toList.any fun e=>Region.binds .any e && Nat.beq e.on j
def opT:Operand->Option Nat
 | .tmp t=>some t
 | _=>none
def Agy (D:Em) (i:Nat) (o:Oper):Bool:=match Hh o with
 | none=>false
 | some xs=>xs.all fun x=>D.all fun p=>!eqO (opT x) p.2.1 || (Rr o p.1 && Nat.blt p.1 i)
def Vk (i:Nat):Em->Option Dat
 | []=>none
 | (j,_,D) :: r=>bif Nat.beq j i then some D else Vk i r
def Axr (K:Ai) (l:List (Nat × Oper)) (D:Em) (s:St3) (p:Nat × Oper):Bool :=
 Agy D p.1 p.2 && (match p.2.dst with
  | some t=>Nat.blt t K.N
  | none=>true) && (match Vk p.1 D with
  | some Di=>D.all (fun r=>Nat.beq r.1 p.1 || (!eqO p.2.dst r.2.1 && (!eqO (hdl p.2.dst Di.e) (hdl r.2.1 r.2.2.e) || (match A0 r.1 l with
    | some o=>Rr o p.1 || Rr p.2 r.1
    | none=>false)))) && (match Di.e with
   | .new _=>match p.2.dst with
    | some k=>(A0 k s.boxes).isNone && Nat.blt k 1000 && s.clean k && D.all (fun r=>Nat.beq r.1 p.1 || (!eqO (some k) (hdl r.2.1 r.2.2.e) && !r.2.2.x.men k && !Ab8 k r.2.2.e) || (match A0 r.1 l with
     | some o=>Rr o p.1
     | none=>false))
    | none=>false
   | _=>true)
  | none=>false)
def B99 (K:Ai) (l:List (Nat × Oper)) (D:Em) (s:St3):Bool:=l.all (Axr K l D s)
def A27:List Nat->List Nat
 | []=>[0]
 | e :: r=>A27 r ++ (A27 r).map (· ||| 1 <<< e)
theorem Aag (L:Nat):∀ E:List Nat,∃ m ∈ A27 E,∀ x,m.testBit x = (E.any (Nat.beq x) && L.testBit x)
 | []=>⟨0,by simp [A27],fun x=>by simp⟩
 | e :: r=>by
  obtain ⟨m,hm,h⟩:=Aag L r
  cases hb:L.testBit e with
  | true =>
   refine ⟨m ||| 1 <<< e,QF.2 (.inr (ZN.2 ⟨m,hm,rfl⟩)),fun x=>?_⟩;rw [Qag,h];by_cases c:x = e
   . subst c;simp [hb]
   . have e1 : (1 <<< e).testBit x = false := by
      rw [KX];by_cases c2:e <= x
      . obtain ⟨d,hd⟩:∃ d,x - e = d + 1:=⟨x - e - 1,by omega⟩
        rw [hd];simp [JR]
      . simp [c2]
     have e2:Nat.beq x e = false:=by cases e3:Nat.beq x e with | false=>rfl | true=>exact absurd (QC e3) c
     rw [e1,YY,e2,Qbg,YN]
  | false =>
   refine ⟨m,QF.2 (.inl hm),fun x=>?_⟩;rw [h,YY];by_cases c:x = e
   . subst c;simp [hb]
   . have e2:Nat.beq x e = false:=by cases e3:Nat.beq x e with | false=>rfl | true=>exact absurd (QC e3) c
     rw [e2,YN]
def V6 (D:Em):List Nat:=(D.filter fun p=>isE p.2.2.e).map (·.1)
def A6g (acc:List (Nat × Nat)):List Go.Edge->Nat
 | []=>0
 | e :: r=>bif Region.binds .any e then A6g acc r ||| 1 <<< e.on ||| (A0 e.on acc).getD 0 else A6g acc r
def A21:List (Nat × Oper)->List (Nat × Nat)->List (Nat × Nat)
 | [],acc=>acc
 | (i,o) :: l,acc=>A21 l ((i,A6g acc o.after.toList) :: acc)
def Ajw (l:List (Nat × Oper)) (D:Em) (p:Nat × Oper):List Nat :=
 (A27 (V6 D)).filter fun m=>!m.testBit p.1 && ((A21 l []).all fun r=>!(m.testBit r.1 && r.2.testBit p.1) && (!(Nat.beq r.1 p.1 || m.testBit r.1) || (V6 D).all (fun k=>!r.2.testBit k || m.testBit k)))
theorem Aj8 {L:Nat} {acc:List (Nat × Nat)} (ha:∀ j m,A0 j acc = some m->L.testBit j = true->∀ k,m.testBit k = true->L.testBit k = true):∀ {es:List Go.Edge},(∀ e ∈ es,Region.binds .any e = true->L.testBit e.on = true)->∀ k,(A6g acc es).testBit k = true->L.testBit k = true
 | [],_,k,h=>by simp [A6g] at h
 | e :: r,he,k,h=>by
  simp only [A6g] at h
  have ih:=Aj8 ha (es:=r) (fun e h=>he e (by simp [h])) k
  cases hb:Region.binds .any e with
  | false=>rw [hb] at h;exact ih h
  | true =>
   rw [hb] at h
   have hL:=he e (by simp) hb
   simp only [cond,Qag,XL] at h;rcases h with (h | h) | h
   . exact ih h
   . rw [KX] at h
     have:k = e.on:=by
      rcases JN k e.on with c | c | c
      . have:¬ k >= e.on:=by omega
        simp [this] at h
      . exact c
      . obtain ⟨d,hd⟩:∃ d,k - e.on = d + 1:=⟨k - e.on - 1,by omega⟩
        rw [hd] at h;simp [JR] at h
     rw [this];exact hL
   . cases hl:A0 e.on acc with
     | none=>rw [hl] at h;simp at h
     | some m=>rw [hl] at h;exact ha _ m hl hL k h
theorem A6f {L i0:Nat} {l0:List (Nat × Oper)} (hr:∀ p ∈ l0,L.testBit p.1 = true \/ p.1 = i0->∀ e ∈ p.2.after,Region.binds .any e = true->L.testBit e.on = true):∀ {l:List (Nat × Oper)} {acc:List (Nat × Nat)},(∀ p ∈ l,p ∈ l0) ->
  (∀ r ∈ acc,L.testBit r.1 = true \/ r.1 = i0->∀ k,r.2.testBit k = true->L.testBit k = true)->∀ r ∈ A21 l acc,L.testBit r.1 = true \/ r.1 = i0->∀ k,r.2.testBit k = true->L.testBit k = true
 | [],acc,_,ha,r,h=>ha r h
 | (i,o) :: l,acc,hl,ha,r,h=>by
  refine A6f hr (l:=l) (fun p hp=>hl p (by simp [hp])) (fun r hr'=>?_) r h
  rcases QT.1 hr' with rfl | hr'
  . intro hi k hk
    refine Aj8 (fun j m hj hL k hk=>ha (j,m) (Bz hj) (.inl hL) k hk) (fun e he hb=>hr (i,o) (hl _ (by simp)) hi e (by simpa using he) hb) k hk
  . exact ha r hr'
abbrev Axe:=Option (Bool × AV × SV × E3)
def B7b:Option Dat->Axe
 | some D=>some (D.g,D.av,D.x,D.e)
 | none=>none
def B98 (T:Ty) (A:List (Nat × OA)) (q:List (Nat × RV)) (l:List (Nat × Oper)) (D:Em) (s:St3):List (List Axe) :=
 l.map fun p=>(Ajw l D p).map fun m=>No T (OA.at A p.1) (A0 p.1 q) p.2 ⟨(SL (2 ^ p.1 - 1) D s).slots,(SL m D s).boxes⟩
def B97 (l:List (Nat × Oper)) (D:Em):List (List Axe) :=
 l.map fun p=>(Ajw l D p).map fun _=>B7b (Vk p.1 D)
def B3a (m:Nat) (l:List (Nat × Oper)):Bool:=(A21 l []).all fun r=>Nat.blt r.1 m || (List.range r.1).all fun k=>r.2.testBit k
def Ajc (T:Ty) (K:Ai) (A:List (Nat × OA)) (l:List (Nat × Oper)) (s:St3) (q:List (Nat × RV)):Prop :=
 ∃ m,B3a m l = true /\ (match Te T A q (l.take m) s with
  | some D=>B99 K (l.take m) D s
  | none=>false) = true /\ B98 T A q (l.take m) ((Te T A q (l.take m) s).getD []) s = B97 (l.take m) ((Te T A q (l.take m) s).getD [])
theorem Ath {d d':Option Tmp} {e e':E3} (h:∀ t,hdl d e = some t->hdl d' e' ≠ some t) (bs:List (Nat × B3)):Ro d e (Ro d' e' bs) = Ro d' e' (Ro d e bs):=by
 cases e <;> cases e' <;> first | rfl | skip;all_goals cases d <;> cases d' <;> first | rfl | skip
 all_goals (simp only [Ro];first | rfl | (refine Ym _ _ (fun c=>?_) _;subst c;exact h _ rfl rfl))
theorem Ank {d d':Option Tmp} {x x':SV} (h:∀ t,d = some t->d' ≠ some t) (sl:List (Nat × SV)):Po d x (Po d' x' sl) = Po d' x' (Po d x sl):=by
 cases d <;> cases d' <;> first | rfl | skip;simp only [Po];refine Ym _ _ (fun c=>?_) _;subst c;exact h _ rfl rfl
theorem Aty {d d':Option Tmp} {D D':Dat} (h1:∀ t,d = some t->d' ≠ some t) (h2:∀ t,hdl d D.e = some t->hdl d' D'.e ≠ some t) (s:St3):Fe d D (Fe d' D' s) = Fe d' D' (Fe d D s):=by
 simp only [Fe,Ank h1,Ath h2]
theorem Afc {L L':Nat}:∀ {D:Em} {s:St3},(∀ p ∈ D,L.testBit p.1 = L'.testBit p.1)->SL L D s = SL L' D s
 | [],_,_=>rfl
 | (i,d,D) :: r,s,h=>by
  simp only [SL,h (i,d,D) (by simp)]
  exact Afc fun p hp=>h p (by simp [hp])
theorem Vb (L i j:Nat):(L ||| 1 <<< i).testBit j = (L.testBit j || decide (j = i)):=by
 rw [Qag];congr 1;rw [KX];by_cases c:j = i
 . subst c;simp
 . by_cases c2:i <= j
   . obtain ⟨d,hd⟩:∃ d,j - i = d + 1:=⟨j - i - 1,by omega⟩
     rw [hd];simp [JR,c]
   . simp [c2,c]
theorem Au3 {L:Nat} {d:Option Tmp} {D0:Dat}:∀ {D:Em} {s:St3},(∀ p ∈ D,L.testBit p.1 = true->(∀ t,d = some t->p.2.1 ≠ some t) /\ (∀ t,hdl d D0.e = some t->hdl p.2.1 p.2.2.e ≠ some t)) ->
  SL L D (Fe d D0 s) = Fe d D0 (SL L D s)
 | [],_,_=>rfl
 | (j,d',D') :: r,s,h=>by
  simp only [SL]
  have ih:=fun s=>Au3 (L:=L) (d:=d) (D0:=D0) (D:=r) (s:=s) fun p hp=>h p (by simp [hp])
  cases hb:L.testBit j with
  | false=>simp only [cond];exact ih s
  | true =>
   simp only [cond]
   obtain ⟨h1,h2⟩:=h (j,d',D') (by simp) hb
   rw [<- Aty h1 h2,ih]
theorem Au4 {L i:Nat} {d:Option Tmp} {D0:Dat}:∀ {D:Em} {s:St3},(D.map (·.1)).Pairwise (· < ·)->(i,d,D0) ∈ D->L.testBit i = false->(∀ p ∈ D,i < p.1->L.testBit p.1 = true->(∀ t,d = some t->p.2.1 ≠ some t) /\ (∀ t,hdl d D0.e = some t->hdl p.2.1 p.2.2.e ≠ some t)) ->
  SL (L ||| 1 <<< i) D s = Fe d D0 (SL L D s)
 | [],_,_,h,_,_=>by simp at h
 | (j,d',D') :: r,s,hn,hm,hb,h=>by
  simp only [QV,List.pairwise_cons] at hn;have hlt:∀ p ∈ r,j < p.1:=fun p hp=>hn.1 p.1 (ZN.2 ⟨p,hp,rfl⟩);rcases QT.1 hm with e | hm
  . simp only [QG] at e;obtain ⟨rfl,rfl,rfl⟩:=e;simp only [SL,hb,Vb,decide_true,Bool.or_true,cond]
    rw [Afc (L':=L) fun p hp=>by rw [Vb];have:=hlt p hp;simp [show p.1 ≠ i by omega]]
    exact Au3 fun p hp=>h p (by simp [hp]) (hlt p hp)
  . have hne:j ≠ i:=fun c=>by have:=hlt _ hm;simp only at this;omega
    simp only [SL,Vb,hne,decide_false,Qbg]
    exact Au4 hn.2 hm hb fun p hp=>h p (by simp [hp])
theorem Ajb {L L' t:Nat}:∀ {D:Em} {s s':St3},A0 t s.slots = A0 t s'.slots->(∀ p ∈ D,p.2.1 = some t->L.testBit p.1 = L'.testBit p.1)->A0 t (SL L D s).slots = A0 t (SL L' D s').slots
 | [],_,_,h,_=>h
 | (i,d,D) :: r,s,s',h,hp=>by
  simp only [SL]
  refine Ajb ?_ fun p hq=>hp p (by simp [hq])
  have key:∀ s,d ≠ some t->A0 t (Fe d D s).slots = A0 t s.slots:=fun s hd=>by
   cases d with
   | none=>rfl
   | some u=>exact A8 _ _ fun c=>hd (by rw [c])
  by_cases hd:d = some t
  . rw [hp (i,d,D) (by simp) hd]
    cases L'.testBit i with
    | false=>exact h
    | true=>subst hd;simp only [cond,Fe,Po,A7]
  . cases L.testBit i <;> cases L'.testBit i <;> simp only [cond,key _ hd,h]
theorem Atg {d:Option Tmp} {e:E3} (h:isE e = false) (bs:List (Nat × B3)):Ro d e bs = bs:=by cases e <;> first | rfl | cases h
theorem Afe {L L':Nat}:∀ {D:Em} {s s':St3},s.boxes = s'.boxes->(∀ p ∈ D,isE p.2.2.e = true->L.testBit p.1 = L'.testBit p.1)->(SL L D s).boxes = (SL L' D s').boxes
 | [],_,_,h,_=>h
 | (i,d,D) :: r,s,s',h,hp=>by
  simp only [SL]
  refine Afe ?_ fun p hq=>hp p (by simp [hq])
  cases he:isE D.e with
  | true =>
   rw [hp (i,d,D) (by simp) he]
   cases L'.testBit i <;> simp only [cond,Fe,h]
  | false=>cases L.testBit i <;> cases L'.testBit i <;> simp only [cond,Fe,Atg he,h]
theorem A6h {β:Type} {f:Nat × β->Bool} {k:Nat} {x:β} {l:List (Nat × β)} (h:l.all f = true) (hx:f (k,x) = true):(Ag k x l).all f = true:=by
 refine QM.2 fun p hp=>?_;rcases P3 hp with rfl | hp
 . exact hx
 . exact QM.1 h p hp
theorem Afd {L k:Nat}:∀ {D:Em} {s:St3},s.clean k = true->(∀ p ∈ D,L.testBit p.1 = true->p.2.2.x.men k = false /\ Ab8 k p.2.2.e = false)->(SL L D s).clean k = true
 | [],_,h,_=>h
 | (i,d,D) :: r,s,h,hp=>by
  simp only [SL]
  refine Afd ?_ fun p hq=>hp p (by simp [hq])
  cases hb:L.testBit i with
  | false=>exact h
  | true =>
   obtain ⟨h1,h2⟩:=hp (i,d,D) (by simp) hb
   simp only [cond];unfold St3.clean at h ⊢;simp only [QE] at h ⊢;refine ⟨?_,?_⟩
   . cases d with
     | none=>exact h.1
     | some t=>exact A6h h.1 (by simp only at h1;simp [h1])
   . show List.all (Ro d D.e s.boxes) _ = true;simp only at h2
     cases he:D.e with
     | new b =>
      rw [he] at h2
      cases d with
      | none=>exact h.2
      | some t=>exact A6h h.2 (by simp only [Ab8] at h2;simp [h2])
     | set hh b =>
      rw [he] at h2
      exact A6h h.2 (by simp only [Ab8] at h2;simp [h2])
     | none=>exact h.2
     | app hh b=>exact h.2
     | frz ks=>exact h.2
theorem Afb {L k:Nat}:∀ {D:Em} {s:St3},A0 k s.boxes = none->(∀ p ∈ D,L.testBit p.1 = true->hdl p.2.1 p.2.2.e ≠ some k)->A0 k (SL L D s).boxes = none
 | [],_,h,_=>h
 | (i,d,D) :: r,s,h,hp=>by
  simp only [SL]
  refine Afb ?_ fun p hq=>hp p (by simp [hq])
  cases hb:L.testBit i with
  | false=>exact h
  | true =>
   have h1:=hp (i,d,D) (by simp) hb
   simp only at h1;simp only [cond];show A0 k (Ro d D.e s.boxes) = none
   cases he:D.e with
   | new b =>
    rw [he] at h1
    cases d with
    | none=>exact h
    | some t=>exact (A8 _ _ fun c=>h1 (by simp only [hdl];rw [c])).trans h
   | set hh b =>
    rw [he] at h1
    exact (A8 _ _ fun c=>h1 (by simp only [hdl];rw [c])).trans h
   | none=>exact h
   | app hh b=>exact h
   | frz ks=>exact h
theorem An6 {K:Ai} {A:OA} {rv:Option RV} {o:Oper} {s:St3} {g:Bool} {av:AV} {x:SV} {e:E3} (h:No T A rv o s = some (g,av,x,e)) (hK:∀ t,o.dst = some t->Nat.blt t K.N = true) (he:okE o.dst e = true)
  (hnew:∀ b k,e = .new b->o.dst = some k->(A0 k s.boxes).isNone = true /\ Nat.blt k 1000 = true /\ s.clean k = true):D9 T K A rv o s = some (g,av,Fe o.dst ⟨g,av,x,e⟩ s):=by
 rw [A6q h]
 have put:∀ s1:St3,s1.put3 K o.dst x = some ⟨Po o.dst x s1.slots,s1.boxes⟩:=fun s1=>by
  unfold St3.put3
  cases hd:o.dst with
  | none=>rfl
  | some t=>simp only [hK t hd,cond];rfl
 cases e with
 | none=>simp only [St3.eff3,XZ,put,QP];rfl
 | set hh b=>simp only [St3.eff3,XZ,put,QP];rfl
 | new b =>
  cases hd:o.dst with
  | none=>rw [hd] at he;cases he
  | some k =>
   obtain ⟨q1,q2,q3⟩:=hnew b k rfl hd;rw [hd] at put;simp only [St3.eff3,q1,q2,q3,ZF,cond,XZ,put,QP];rfl
 | app hh b=>cases he
 | frz ks=>cases he
theorem An5 {K:Ai} {A:OA} {rv:Option RV} {o:Oper} {s s1:St3} {g g1:Bool} {av av1:AV} {x:SV} {e:E3} (h:No T A rv o s = some (g,av,x,e)) (he:okE o.dst e = true) (hs:D9 T K A rv o s = some (g1,av1,s1)) :
  g1 = g /\ av1 = av /\ s1 = Fe o.dst ⟨g,av,x,e⟩ s:=by
 rw [A6q h] at hs
 have put:∀ {s0:St3},(s0.put3 K o.dst x).map (fun s'=>(g,av,s')) = some (g1,av1,s1)->g1 = g /\ av1 = av /\ s1 = ⟨Po o.dst x s0.slots,s0.boxes⟩:=fun {s0} hp=>by
  unfold St3.put3 at hp
  cases hd:o.dst with
  | none =>
   rw [hd] at hp;simp only [QP,QD,QG] at hp;obtain ⟨rfl,rfl,rfl⟩:=hp;exact ⟨rfl,rfl,rfl⟩
  | some t =>
   rw [hd] at hp;simp only at hp
   cases hb:Nat.blt t K.N with
   | false=>rw [hb] at hp;cases hp
   | true =>
    rw [hb] at hp;simp only [cond,QP,QD,QG] at hp;obtain ⟨rfl,rfl,rfl⟩:=hp;exact ⟨rfl,rfl,rfl⟩
 cases e with
 | none=>exact put hs
 | set hh b=>exact put hs
 | new b =>
  cases hd:o.dst with
  | none=>rw [hd] at he;cases he
  | some k =>
   rw [hd] at hs put;simp only [St3.eff3] at hs
   cases hb:((A0 k s.boxes).isNone && Nat.blt k 1000 && s.clean k) with
   | false=>rw [hb] at hs;cases hs
   | true=>rw [hb] at hs;exact put hs
 | app hh b=>cases he
 | frz ks=>cases he
theorem Aas {K:Ai} {A:List (Nat × OA)} {q:List (Nat × RV)}:∀ {l:List (Nat × Oper)} {s s':St3} {D:Em},F4 T K A q l s s'->Te T A q l s = some D ->
  D.map (fun p=>(p.1,p.2.1)) = l.map (fun p=>(p.1,p.2.dst)) /\ (∀ p ∈ D,p.2.2.g = true /\ p.2.2.av.ok /\ okE p.2.1 p.2.2.e = true) /\ ∀ L:Nat,(∀ p ∈ D,L.testBit p.1 = true)->SL L D s = s'
 | [],s,s',D,h,hd=>by
  simp only [Te,QD] at hd;subst hd
  exact ⟨rfl,fun p hp=>by simp at hp,fun _ _=>h⟩
 | (i,o) :: l,s,s',D,h,hd=>by
  obtain ⟨av,s1,h1,h2,h3⟩:=h;simp only [Te] at hd;split at hd
  . rename_i g av' x e he
    cases hok:okE o.dst e with
    | false=>rw [hok] at hd;cases hd
    | true =>
     rw [hok] at hd;simp only [cond] at hd;split at hd
     . rename_i r hr;obtain rfl:=QA hd;obtain ⟨rfl,rfl,rfl⟩:=An5 he hok h1;obtain ⟨a1,a2,a3⟩:=Aas h3 hr
       refine ⟨by simp only [QV,a1],fun p hp=>?_,fun L hL=>?_⟩
       . rcases QT.1 hp with rfl | hp
         . exact ⟨rfl,h2,hok⟩
         . exact a2 p hp
       . have hi:=hL (i,o.dst,⟨true,av,x,e⟩) (by simp)
         simp only at hi;simp only [SL,hi,cond]
         exact a3 L fun p hp=>hL p (by simp [hp])
     . cases hd
  . cases hd
theorem A72 {i:Nat} {D0:Dat}:∀ {D:Em},Vk i D = some D0->∃ d,(i,d,D0) ∈ D
 | [],h=>by cases h
 | (j,d,D1) :: r,h=>by
  simp only [Vk] at h
  cases hb:Nat.beq j i with
  | true =>
   rw [hb] at h;obtain rfl:=QA h;obtain rfl:=QC hb
   exact ⟨d,by simp⟩
  | false =>
   rw [hb] at h;obtain ⟨d',h'⟩:=A72 h
   exact ⟨d',by simp [h']⟩
theorem Au9 {s s2:St3} {x:Operand} (h:∀ t,opT x = some t->A0 t s.slots = A0 t s2.slots):s.val x = s2.val x:=by
 cases x with
 | tmp t=>simp only [St3.val,h t rfl]
 | _=>rfl
theorem A68 {o:Oper} {j:Nat} (h:Rr o j = true):∃ e ∈ o.after,Region.binds .any e = true /\ e.on = j:=by
 unfold Rr at h;obtain ⟨e,he,h2⟩:=ZW.1 h;simp only [QE] at h2
 exact ⟨e,by simpa using he,h2.1,QC h2.2⟩
theorem F4.split {K:Ai} {A:List (Nat × OA)} {q:List (Nat × RV)}:∀ (m:Nat) {l:List (Nat × Oper)} {s s':St3},F4 T K A q l s s'->∃ s1,F4 T K A q (l.take m) s s1 /\ F4 T K A q (l.drop m) s1 s'
 | 0,l,s,s',h=>⟨s,by simp [F4],by simpa using h⟩
 | m + 1,[],s,s',h=>⟨s',by simpa using h,by simp [F4]⟩
 | m + 1,(i,o) :: l,s,s',h=>by
  obtain ⟨av,s1,h1,h2,h3⟩:=h;obtain ⟨s2,k1,k2⟩:=F4.split m h3;exact ⟨s2,⟨av,s1,h1,h2,k1⟩,k2⟩
theorem A98 {K:Ai} {A:List (Nat × OA)} {q:List (Nat × RV)} {L:Nat}:∀ {a b:List (Nat × Oper)} {s:St3},S3 T K A q L (a ++ b) s = S3 T K A q L b (S3 T K A q L a s)
 | [],_,_=>rfl
 | (i,o) :: a,b,s=>by simp only [YG,S3];exact A98
theorem F4.at2 {K:Ai} {A:List (Nat × OA)} {q:List (Nat × RV)} {i0:Nat}:∀ {l:List (Nat × Oper)} {s s':St3} {b:Nat},F4 T K A q l s s'->(∀ k p,l[k]? = some p->p.1 = b + k)->∀ {i:Nat} {o:Oper},i = b + i0->l[i0]? = some (i,o) ->
  ∃ av,D9 T K (OA.at A i) (A0 i q) o (S3 T K A q (2 ^ i - 1) l s) = some (true,av,S3 T K A q (2 ^ (i + 1) - 1) l s) /\ av.ok:=by
 induction i0 with
 | zero =>
  intro l s s' b h hl i o hi ho
  match l,h with
  | [],_=>simp at ho
  | (j,o') :: l,h =>
   simp only [JH,QD,QG] at ho;obtain ⟨rfl,rfl⟩:=ho;obtain ⟨av,s1,h1,h2,_⟩:=h
   have hgt:∀ p ∈ l,j < p.1:=fun p hp=>by
    obtain ⟨k,hk⟩:=YX hp
    have:=hl (k + 1) p (by simpa using hk)
    omega
   refine ⟨av,?_,h2⟩;rw [Le (fun p hp=>?_)]
   . have hb:(2 ^ (j + 1) - 1).testBit j = true:=by rw [ZL];simp
     simp only [S3,hb,cond,h1]
     rw [Le fun p hp=>by have:=hgt p hp;rw [ZL];simp only [ZS];omega]
   . obtain ⟨k,hk⟩:=YX hp;have:=hl k p hk;rw [ZL];simp only [ZS];omega
 | succ i0 ih =>
  intro l s s' b h hl i o hi ho
  match l,h with
  | [],_=>simp at ho
  | (j,o') :: l,h =>
   obtain ⟨av,s1,h1,_,h3⟩:=h;have hj:=hl 0 (j,o') rfl;simp only [KC] at hj
   obtain ⟨av2,q1,q2⟩:=ih (b:=b + 1) h3 (fun k p hk=>by have:=hl (k + 1) p (by simpa using hk);omega) (i:=i) (o:=o) (by omega) (by simpa using ho)
   refine ⟨av2,?_,q2⟩
   have hb:(2 ^ i - 1).testBit j = true:=by
    rw [ZL];simp only [QQ];omega
   have hb2:(2 ^ (i + 1) - 1).testBit j = true:=by
    rw [ZL];simp only [QQ];omega
   simp only [S3,hb,hb2,cond,h1];exact q1
theorem Avf (hT:Ao P T) (hfol:P.follows .mixedOrders = true) {K:Ai} {A:List (Nat × OA)} {X:Tm} {id:Nat} {ops:Array Oper} {nt:Nat} (hE:∀ i a,A0 i A = some a->a.S P) (hchk:Aoh A (A9 ops.toList) = true)
  {w:X.den} {q:List (Nat × RV)} {s':St3} (hw:WT A (A9 ops.toList) q) (hF:Ajc T K A (A9 ops.toList) (X.enc w) q) (hrun:F4 T K A q (A9 ops.toList) (X.enc w) s') :
  Code.Den P K (.region id ops true) ((X.enc w).st nt) .normal (s'.st nt):=by
 obtain ⟨m,hsuf,h1,h2⟩:=hF;obtain ⟨sm,hrun1,hrun2⟩:=hrun.split m
 cases hD:Te T A q ((A9 ops.toList).take m) (X.enc w) with
 | none=>rw [hD] at h1;cases h1
 | some D =>
 rw [hD] at h1 h2;simp only [XP] at h1 h2;obtain ⟨a1,a2,a3⟩:=Aas hrun1 hD
 have chk:∀ p ∈ A9 ops.toList,p.2.guard = none /\ (∀ e ∈ p.2.after,Region.binds .any e = true->e.on < p.1) /\ (OA.at A p.1).two = false:=fun p hp=>by
  have:=QM.1 hchk p hp;simp only [QE] at this;obtain ⟨⟨h1,h2⟩,h3⟩:=this
  refine ⟨?_,fun e he hb=>?_,by cases hx:(OA.at A p.1).two with | false=>rfl | true=>rw [hx] at h3;cases h3⟩
  . cases hg:p.2.guard with
    | none=>rfl
    | some _=>rw [hg] at h1;cases h1
  . have:=QM.1 h2 e (by simpa using he)
    rw [hb] at this;simpa [ZO] using this
 have hsz:(A9 ops.toList).length = ops.size:=by simp [A9]
 have at_:∀ (i:Nat) (o:Oper),ops[i]? = some o->(A9 ops.toList)[i]? = some (i,o):=fun i o hi=>by
  obtain ⟨h1,h2⟩:=ZI.1 hi;simp [A9,YW,h1,h2]
 have opsAt:∀ p ∈ A9 ops.toList,ops[p.1]? = some p.2:=fun p hp=>by
  obtain ⟨k,hk⟩:=YX hp;obtain ⟨q1,q2⟩:=Cc hk;rw [q1];simpa using q2
 have key:((A9 ops.toList).map (·.1)) = List.range ops.toList.length:=by
  apply JB;intro j;simp only [A9,XG,QJ,YW];by_cases hj:j < ops.toList.length
  . simp at hj;simp [hj]
  . simp at hj;simp [hj]
 have kD:D.map (·.1) = ((A9 ops.toList).take m).map (·.1):=by
  have:=XR (List.map (·.1)) a1;simpa [XG,Function.comp_def] using this
 have hnd:(D.map (·.1)).Pairwise (· < ·):=by
  rw [kD,JI,key];exact List.pairwise_lt_range.sublist (List.take_sublist _ _)
 have tk:∀ p ∈ (A9 ops.toList).take m,p.1 < m:=fun p hp=>by
  obtain ⟨k,hk⟩:=YX hp;rw [XC] at hk;split at hk
  . rename_i hlt;have:=(Cc hk).1;omega
  . cases hk
 have ent:∀ p ∈ D,∃ o,ops[p.1]? = some o /\ p.2.1 = o.dst /\ p.1 < m:=fun p hp=>by
  have:(p.1,p.2.1) ∈ ((A9 ops.toList).take m).map (fun p=>(p.1,p.2.dst)):=by rw [<- a1];exact ZN.2 ⟨p,hp,rfl⟩
  obtain ⟨r,hr,e⟩:=ZN.1 this;simp only [QG] at e
  exact ⟨r.2,by rw [<- e.1];exact opsAt r (Qau hr),e.2.symm,by rw [<- e.1];exact tk r hr⟩
 have lk:∀ (i:Nat) (o:Oper),i < m->ops[i]? = some o->A0 i ((A9 ops.toList).take m) = some o:=fun i o him hi=>by
  have hm:(i,o) ∈ (A9 ops.toList).take m:=QU (i:=i) (by rw [XC,QL him];exact at_ i o hi)
  have nd:(((A9 ops.toList).take m).map (·.1)).Nodup:=(Eo ops.toList).sublist ((List.take_sublist _ _).map _);generalize (A9 ops.toList).take m = l at hm nd
  induction l with
  | nil=>simp at hm
  | cons r l ih =>
   obtain ⟨j,o'⟩:=r;simp only [QV,YZ] at nd;rcases QT.1 hm with e | hm
   . simp only [QG] at e;obtain ⟨rfl,rfl⟩:=e;exact Ba
   . rw [Aw fun c=>nd.1 (by rw [c];exact ZN.2 ⟨_,hm,rfl⟩)]
     exact ih hm nd.2
 have h0:SL 0 D (X.enc w) = X.enc w:=by
  clear a3 hD h1 h2 a1 a2 kD hnd ent hrun1;generalize X.enc w = s
  induction D generalizing s with
  | nil=>rfl
  | cons p r ih=>obtain ⟨i,d,D⟩:=p;simp only [SL,Nat.zero_testBit,cond];exact ih s
 have hpre:∀ L:Nat,(∀ j,j < m->L.testBit j = true)->SL L D (X.enc w) = sm:=fun L hL=>a3 _ fun p hp=>hL p.1 (ent p hp).choose_spec.2.2
 have hpre3:S3 T K A q (2 ^ m - 1) (A9 ops.toList) (X.enc w) = sm:=by
  conv=>lhs;rw [<- KY m (A9 ops.toList)]
  rw [A98,A43 hrun1 fun p hp=>by have:=tk p hp;rw [ZL];simpa using this]
  refine Le fun p hp=>?_;obtain ⟨k,hk⟩:=YX hp;rw [YC] at hk;have:=(Cc hk).1;rw [ZL];simp only [ZS];omega
 have hfull:(if 2 ^ ops.size - 1 < 2 ^ m then SL (2 ^ ops.size - 1) D (X.enc w) else S3 T K A q (2 ^ ops.size - 1) (A9 ops.toList) (X.enc w)) = s':=by
  have hS3:S3 T K A q (2 ^ ops.size - 1) (A9 ops.toList) (X.enc w) = s':=A43 hrun fun p hp=>by
   obtain ⟨j,hj⟩:=YX hp;have:=(Cc hj).1;have hlt:=(QO.1 hj).1;rw [ZL];simp only [QQ];omega
  split
  . rename_i hlt
    have hnm:ops.size <= m:=by
     rcases XF m ops.size with h | h
     . exfalso
       have h3:2 ^ (m + 1) <= 2 ^ ops.size:=JS (by omega) h
       have h4:0 < 2 ^ m:=Nat.pow_pos (by omega)
       have:2 ^ (m + 1) = 2 * 2 ^ m:=by rw [KP];omega
       omega
     . exact h
    rw [ZC (by omega)] at hrun2
    have e:sm = s':=hrun2;rw [<- e];refine a3 _ fun p hp=>?_;obtain ⟨o,ho,_,_⟩:=ent p hp;have:=(ZI.1 ho).1;rw [ZL];simpa using this
  . exact hS3
 have:=A7b (P:=P) hfol (K:=K) (id:=id) (ops:=ops) (S:=fun L=>(if L < 2 ^ m then SL L D (X.enc w) else S3 T K A q L (A9 ops.toList) (X.enc w)).st nt)
  (fun i o hi=>(chk (i,o) (QU (at_ i o hi))).2.1) (fun L i o hbig hcl hoi hbit hdep=>?_)
 . simp only [hfull,QL (show 0 < 2 ^ m from Nat.pow_pos (by omega)),h0] at this
   exact this
 . have hmem:=QU (at_ i o hoi);refine ⟨(chk (i,o) hmem).1,?_⟩
   have hAi:(OA.at A i).S P:=by
    unfold OA.at
    cases hl:A0 i A with
    | none=>exact ⟨(fun E h=>by cases h),(fun E h=>by cases h),(fun E h=>by cases h)⟩
    | some a=>exact hE i a hl
   have hRV:RV.S P (A0 i q):=by
    unfold RV.S;split
    . rename_i E z hz;exact hAi.2.1 E (WT.bx hw hz)
    . trivial
   have anc0:∀ r ∈ A21 (A9 ops.toList) [],L.testBit r.1 = true \/ r.1 = i->∀ k,r.2.testBit k = true->L.testBit k = true:=A6f (L:=L) (i0:=i) (l0:=A9 ops.toList) (fun p hp hpi e he hbe=>by
    rcases hpi with h3 | h3
    . exact hcl p.1 p.2 h3 (opsAt p hp) e he hbe
    . have q3:=opsAt p hp;rw [h3,hoi] at q3;obtain rfl:=QA q3
      exact hdep e he hbe) (l:=A9 ops.toList) (acc:=[]) (fun _ h=>h) (fun r h=>by simp at h)
   have inA:∀ j,j < ops.size->∃ mk,(j,mk) ∈ A21 (A9 ops.toList) []:=fun j hj=>by
    have:∀ (l:List (Nat × Oper)) (acc:List (Nat × Nat)),((∃ p ∈ l,p.1 = j) \/ ∃ mk,(j,mk) ∈ acc)->∃ mk,(j,mk) ∈ A21 l acc:=by
     intro l
     induction l with
     | nil=>intro acc h;rcases h with ⟨p,hp,_⟩ | h;simp at hp;exact h
     | cons p l ih =>
      intro acc h;obtain ⟨i1,o1⟩:=p;refine ih _ ?_;rcases h with ⟨p,hp,rfl⟩ | ⟨mk,h⟩
      . rcases QT.1 hp with rfl | hp
        . exact .inr ⟨_,YO⟩
        . exact .inl ⟨p,hp,rfl⟩
      . exact .inr ⟨mk,ZU _ h⟩
    exact this _ _ (.inl ⟨(j,ops[j]),QU (at_ j _ (Qaa hj)),rfl⟩)
   have all_:∀ j,m <= j->j < ops.size->(L.testBit j = true \/ j = i)->∀ k,k < j->L.testBit k = true:=fun j hmj hj hji k hk=>by
    obtain ⟨mk,hmk⟩:=inA j hj;have:=QM.1 hsuf _ hmk;simp only [XL] at this;rcases this with h3 | h3
    . rw [ZO] at h3;omega
    . exact anc0 _ hmk hji k (QM.1 h3 k (YL.2 hk))
   have hin:i < ops.size:=(ZI.1 hoi).1;rcases XF i m with him | him
   rotate_left
   . -- one of those that wait for all
     have hLi:L = 2 ^ i - 1:=by
      refine KO fun j=>?_;rw [ZL];rcases JN j i with c | c | c
      . rw [all_ i him hin (.inr rfl) j c];simp [c]
      . subst c;rw [hbit];simp
      . have e : L.testBit j = false := by
         cases hb:L.testBit j with
         | false=>rfl
         | true =>
          exfalso
          have hjn:j < ops.size:=by
           rcases XF j ops.size with h | h
           . exact h
           . rw [hbig j h] at hb;cases hb
          rw [all_ j (by omega) hjn (.inl hb) i c] at hbit;cases hbit
        rw [e];simp;omega
     have e1:L ||| 1 <<< i = 2 ^ (i + 1) - 1:=by
      refine KO fun j=>?_;rw [Vb,hLi,ZL,ZL];by_cases c:j = i
      . subst c;simp
      . by_cases c2:j < i
        . have:j < i + 1:=by omega
          simp [c2,this]
        . have:¬ j < i + 1:=by omega
          simp [c,c2,this]
     have e2:(if L < 2 ^ m then SL L D (X.enc w) else S3 T K A q L (A9 ops.toList) (X.enc w)) = S3 T K A q (2 ^ i - 1) (A9 ops.toList) (X.enc w):=by
      split
      . rename_i hlt
        have:i = m:=by
         rcases XF m i with h | h
         . exfalso
           have h3:2 ^ (m + 1) <= 2 ^ i:=JS (by omega) h
           have h4:0 < 2 ^ m:=Nat.pow_pos (by omega)
           have:2 ^ (m + 1) = 2 * 2 ^ m:=by rw [KP];omega
           omega
         . omega
        rw [this,hpre3]
        exact hpre L fun j hj=>by rw [hLi,ZL,this];simpa using hj
      . rw [hLi]
     have e3:¬ L ||| 1 <<< i < 2 ^ m:=by
      rw [e1]
      have h3:2 ^ (m + 1) <= 2 ^ (i + 1):=JS (by omega) (by omega)
      have h4:0 < 2 ^ m:=Nat.pow_pos (by omega)
      have:2 ^ (m + 1) = 2 * 2 ^ m:=by rw [KP];omega
      omega
     obtain ⟨av,b1,b2⟩:=F4.at2 (i0:=i) hrun (fun k p hk=>A26 hk) (i:=i) (o:=o) (by omega) (at_ i o hoi)
     rw [e2,QK e3,e1];exact Yg hT b1 rfl b2 hAi hRV
   have hLm:L < 2 ^ m:=Nat.lt_pow_two_of_testBit L fun j hj=>by
    cases hb:L.testBit j with
    | false=>rfl
    | true =>
     exfalso
     have hjn:j < ops.size:=by
      rcases XF j ops.size with h | h
      . exact h
      . rw [hbig j h] at hb;cases hb
     rw [all_ j hj hjn (.inl hb) i (by omega)] at hbit;cases hbit
   have hLm2:L ||| 1 <<< i < 2 ^ m:=Nat.lt_pow_two_of_testBit _ fun j hj=>by
    rw [Vb,Nat.testBit_lt_two_pow (ZQ hLm (JS (by omega) hj))]
    have:j ≠ i:=by omega
    simp [this]
   rw [QL hLm,QL hLm2]
   have hmemt:(i,o) ∈ (A9 ops.toList).take m:=QU (i:=i) (by rw [XC,QL him];exact at_ i o hoi)
   have hB:=QM.1 h1 (i,o) hmemt;unfold Axr at hB;simp only [QE] at hB;obtain ⟨⟨hnm,hK⟩,hB⟩:=hB
   cases hDi:Vk i D with
   | none=>rw [hDi] at hB;cases hB
   | some Di =>
   rw [hDi] at hB;simp only [QE] at hB;obtain ⟨hsep,hnew⟩:=hB;obtain ⟨d0,hm⟩:=A72 hDi;obtain ⟨o',ho',hd0,_⟩:=ent _ hm;simp only at ho' hd0;rw [hoi] at ho';obtain rfl:=QA ho';subst hd0;obtain ⟨g1,g2,g3⟩:=a2 _ hm;simp only at g1 g2 g3
   have nodep:∀ p ∈ D,L.testBit p.1 = true->∀ o',A0 p.1 ((A9 ops.toList).take m) = some o'->Rr o' i = false:=fun p hp hb o' ho'=>by
    obtain ⟨o2,ho2,_,hlt⟩:=ent p hp;rw [lk _ _ hlt ho2] at ho';obtain rfl:=QA ho'
    cases hd:Rr o2 i with
    | false=>rfl
    | true =>
     obtain ⟨e,he,hbe,rfl⟩:=A68 hd;rw [hcl p.1 o2 hb ho2 e he hbe] at hbit;cases hbit
   have depL:∀ j,Rr o j = true->L.testBit j = true:=fun j hd=>by
    obtain ⟨e,he,hbe,rfl⟩:=A68 hd;exact hdep e he hbe
   obtain ⟨mm,hm1,hm2⟩:=Aag L (V6 D)
   have inE:∀ x,(V6 D).any (Nat.beq x) = true ↔ x ∈ V6 D:=fun x=>by
    constructor
    . intro h;obtain ⟨y,hy,e⟩:=ZW.1 h;exact QC e ▸ hy
    . intro h;exact ZW.2 ⟨x,h,XD x⟩
   have hmask:mm ∈ Ajw ((A9 ops.toList).take m) D (i,o):=by
    refine JZ.2 ⟨hm1,?_⟩;simp only [QE];refine ⟨?_,?_⟩
    . rw [hm2,hbit];simp
    . refine QM.2 fun r hr=>?_
      have anc:=A6f (L:=L) (i0:=i) (l0:=(A9 ops.toList).take m) (fun p hp hpi e he hbe=>by
       have q3:=opsAt p (Qau hp);rcases hpi with h3 | h3
       . exact hcl p.1 p.2 h3 q3 e he hbe
       . rw [h3,hoi] at q3;obtain rfl:=QA q3
         exact hdep e he hbe) (l:=(A9 ops.toList).take m) (acc:=[]) (fun _ h=>h) (fun r h=>by simp at h) r hr
      have mL:mm.testBit r.1 = true->L.testBit r.1 = true:=fun h3=>by
       rw [hm2] at h3;simp only [QE] at h3;exact h3.2
      simp only [QE];refine ⟨?_,?_⟩
      . cases hmr:mm.testBit r.1 with
        | false=>rfl
        | true =>
         cases hd:r.2.testBit i with
         | false=>rfl
         | true=>rw [anc (.inl (mL hmr)) i hd] at hbit;cases hbit
      . cases hmr:(Nat.beq r.1 i || mm.testBit r.1) with
        | false=>rfl
        | true =>
         rw [ZX,YN];refine QM.2 fun k hk=>?_
         cases hd:r.2.testBit k with
         | false=>rfl
         | true =>
          have hri:L.testBit r.1 = true \/ r.1 = i:=by
           simp only [XL] at hmr;rcases hmr with h3 | h3
           . exact .inr (QC h3)
           . exact .inl (mL h3)
          rw [hm2,anc hri k hd,(inE k).2 hk];rfl
   have e1:=Qai.1 h2 (i,o) hmemt;have e2:=Qai.1 e1 mm hmask;simp only [hDi,B7b] at e2
   have hbx:(SL L D (X.enc w)).boxes = (SL mm D (X.enc w)).boxes:=Afe rfl fun p hp he=>by
    rw [hm2,(inE p.1).2 (ZN.2 ⟨p,JZ.2 ⟨hp,he⟩,rfl⟩),XT]
   have heff:No T (OA.at A i) (A0 i q) o (SL L D (X.enc w)) = some (Di.g,Di.av,Di.x,Di.e):=by
    unfold Agy at hnm
    cases hq:Hh o with
    | none=>rw [hq] at hnm;cases hnm
    | some xs =>
     rw [hq] at hnm;simp only at hnm;rw [<- e2];refine Amm hq (fun x hx=>Au9 fun t ht=>?_) hbx;refine Ajb rfl fun p hp hpt=>?_;have:=QM.1 (QM.1 hnm x hx) p hp;rw [ht,hpt] at this;simp only [eqO,XD,ZX,YN,QE] at this;rw [depL p.1 this.1,ZL]
     have h3:p.1 < i:=by simpa [ZO] using this.2
     simp [h3]
   have hstep:=An6 (K:=K) heff (fun t ht=>by rw [ht] at hK;exact hK) g3 (fun b k hb hk=>by
    rw [hb,hk] at hnew;simp only [QE] at hnew;obtain ⟨⟨⟨n1,n2⟩,n3⟩,n4⟩:=hnew
    have key:∀ p ∈ D,L.testBit p.1 = true->hdl p.2.1 p.2.2.e ≠ some k /\ p.2.2.x.men k = false /\ Ab8 k p.2.2.e = false:=fun p hp hpb=>by
     have:=QM.1 n4 p hp;simp only [XL] at this;rcases this with (h3 | h3) | h3
     . rw [QC h3,hbit] at hpb;cases hpb
     . simp only [QE,ZJ] at h3;exact ⟨V4 h3.1.1 k rfl,h3.1.2,h3.2⟩
     . exfalso;split at h3
       . rename_i o2 ho2;rw [nodep p hp hpb o2 ho2] at h3;cases h3
       . cases h3
    refine ⟨?_,n2,Afd n3 fun p hp hpb=>(key p hp hpb).2⟩
    rw [Afb (by simpa using n1) fun p hp hpb=>(key p hp hpb).1];rfl)
   have hadd:SL (L ||| 1 <<< i) D (X.enc w) = Fe o.dst Di (SL L D (X.enc w)):=Au4 hnd hm hbit fun p hp hlt hpb=>by
    have:=QM.1 hsep p hp;simp only [XL] at this;rcases this with h3 | h3
    . have:=QC h3;omega
    . simp only [QE,ZJ,XL] at h3;refine ⟨V4 h3.1,?_⟩;rcases h3.2 with h4 | h4
      . exact V4 h4
      . exfalso;obtain ⟨o2,ho2,_,hlt2⟩:=ent p hp;rw [lk _ _ hlt2 ho2] at h4;simp only [XL] at h4;rcases h4 with h4 | h4
        . rw [nodep p hp hpb o2 (lk _ _ hlt2 ho2)] at h4;cases h4
        . obtain ⟨e,he,hbe,h5⟩:=A68 h4;have:=(chk (i,o) hmem).2.1 e he hbe;simp only at this;omega
   have e5:(⟨Di.g,Di.av,Di.x,Di.e⟩:Dat) = Di:=rfl;rw [e5,<- hadd,g1] at hstep;exact Yg hT hstep rfl g2 hAi hRV
end Go.Ev

/- DERIVED. Regions that draw their order: both checks. -/
namespace Go.Ev
open Go
variable {P:Program} {T:Ty} {α:Type}
def B4 (T:Ty) (K:Ai) (A:List (Nat × OA)) (X:Tm) (ops:Array Oper):Prop :=
 Aoh A (A9 ops.toList) = true /\ ∀ w q,WT A (A9 ops.toList) q->Jc T K A (A9 ops.toList) (X.enc w) q \/ Ajc T K A (A9 ops.toList) (X.enc w) q
theorem B3n (hT:Ao P T) (hfol:P.follows .mixedOrders = true) {K:Ai} {A:List (Nat × OA)} {X:Tm} {id:Nat} {ops:Array Oper} {nt:Nat} (hE:∀ i a,A0 i A = some a->a.S P) (hF:B4 T K A X ops) {w:X.den} {k:St3->Option α} {r:α}
  (h:Gn T K ops.toList A (A9 ops.toList) (X.enc w) k = some r):∃ s',Code.Den P K (.region id ops true) ((X.enc w).st nt) .normal (s'.st nt) /\ k s' = some r:=by
 obtain ⟨hchk,hfam⟩:=hF
 have chk:∀ p ∈ A9 ops.toList,p.2.guard = none /\ (∀ e ∈ p.2.after,Region.binds .any e = true->e.on < p.1) /\ (OA.at A p.1).two = false:=fun p hp=>by
  have:=QM.1 hchk p hp;simp only [QE] at this;obtain ⟨⟨h1,h2⟩,h3⟩:=this
  refine ⟨?_,fun e he hb=>?_,by cases hx:(OA.at A p.1).two with | false=>rfl | true=>rw [hx] at h3;cases h3⟩
  . cases hg:p.2.guard with
    | none=>rfl
    | some _=>rw [hg] at h1;cases h1
  . have:=QM.1 h2 e (by simpa using he)
    rw [hb] at this;simpa [ZO] using this
 have hnod:((A9 ops.toList).map (·.1)).Nodup:=by
  have:(A9 ops.toList).map (·.1) = List.range ops.toList.length:=by
   apply JB;intro j;simp only [A9,XG,QJ,YW];by_cases hj:j < ops.toList.length
   . simp at hj;simp [hj]
   . simp at hj;simp [hj]
  rw [this];exact Qam
 obtain ⟨q,s',hw,hk,hrun⟩:=A28 _ _ _ _ hnod (fun p hp=>(chk p hp).1) (fun p hp=>(chk p hp).2.2) h;refine ⟨s',?_,hk⟩;rcases hfam w q hw with hfam | hlite
 rotate_left
 . exact Avf hT hfol hE hchk hw hlite hrun
 have hsz:(A9 ops.toList).length = ops.size:=by simp [A9]
 have at_:∀ (i:Nat) (o:Oper),ops[i]? = some o->(A9 ops.toList)[i]? = some (i,o):=fun i o hi=>by
  obtain ⟨h1,h2⟩:=ZI.1 hi;simp [A9,YW,h1,h2]
 have h0:S3 T K A q 0 (A9 ops.toList) (X.enc w) = X.enc w:=Le fun p _=>by simp
 have hfull:S3 T K A q (2 ^ ops.size - 1) (A9 ops.toList) (X.enc w) = s':=A43 hrun fun p hp=>by
  obtain ⟨j,hj⟩:=YX hp;have:=(Cc hj).1;have hlt:=(QO.1 hj).1;rw [ZL];simp only [QQ];omega
 have:=A7b (P:=P) hfol (K:=K) (id:=id) (ops:=ops) (S:=fun L=>(S3 T K A q L (A9 ops.toList) (X.enc w)).st nt)
  (fun i o hi=>(chk (i,o) (QU (at_ i o hi))).2.1) (fun L i o hbig hcl hoi hbit hdep=>?_)
 . simp only [h0,hfull] at this;exact this
 . have hmem:=QU (at_ i o hoi);refine ⟨(chk (i,o) hmem).1,?_⟩
   have hLd:L ∈ Kn (A9 ops.toList) [0]:=by
    have:=A6z (L:=L) (A9 ops.toList) 0 [0] (fun k p hk=>?_) (by simp [Nat.mod_one])
    . have e : L % 2 ^ (0 + (A9 ops.toList).length) = L := by
       refine KO fun j=>?_;rw [KF,hsz,YD];by_cases hj:j < ops.size
       . simp [hj]
       . rw [hbig j (by omega)];simp
      rw [e] at this;exact this
    . obtain ⟨h1,h2⟩:=Cc hk
      refine ⟨by omega,(chk p (QU hk)).2.1,fun hb e he hbe=>hcl p.1 p.2 hb ?_ e he hbe⟩
      rw [h1];simpa using h2
   have hrd:(i,o) ∈ rdy (A9 ops.toList) L:=by
    refine JZ.2 ⟨hmem,?_⟩;simp only [hbit,XI,XT];unfold A3o;refine QM.2 fun e he=>?_
    cases hbe:Region.binds .any e with
    | false=>rfl
    | true=>simpa using hdep e (by simpa using he) hbe
   have e1:=Qai.1 hfam L hLd;have e2:=Qai.1 e1 (i,o) hrd
   obtain ⟨av,s1,b1,b2⟩:=F4.at (i0:=i) hrun (fun k p hk=>A26 hk) (i:=i) (o:=o) (by omega) (at_ i o hoi)
   simp only [b1,QP] at e2
   have hAi:(OA.at A i).S P:=by
    unfold OA.at
    cases hl:A0 i A with
    | none=>exact ⟨(fun E h=>by cases h),(fun E h=>by cases h),(fun E h=>by cases h)⟩
    | some a=>exact hE i a hl
   refine Yg hT e2 rfl b2 hAi ?_;unfold RV.S;split
   . rename_i E z hz;exact hAi.2.1 E (WT.bx hw hz)
   . trivial
end Go.Ev

/- DERIVED. Code, loops and functions over shapes. -/
namespace Go.Ev
open Go
variable {P:Program} {T:Ty} {α:Type}
def LO.Sound (P:Program) (K:Ai) (L:LO α) (c:Code):Prop :=
 ∀ (nt:Nat) (v:L.H.den) (k:Exit->St3->Option α) (r:α),L.run v (Lq k L.outs) = some r->∃ x s',(Code.Den P K c ((L.H.enc v).st nt) x (s'.st nt) /\ ∀ c',c = .loop c'->F1 P K c' ((L.H.enc v).st nt) x (s'.st nt)) /\ k x s' = some r
def Af:Code->Array Oper
 | .region _ ops _=>ops
 | _=>#[]
structure D3.OK (P:Program) (T:Ty) (K:Ai) (D:D3 α) (c:Code):Prop where
 ent:∀ id A,A0 id D.reg = some A->∀ i a,A0 i A.ops = some a->a.S P
 loop:∀ p ∈ Aa c,∀ L,A0 p.1 D.loop = some L->L.Sound P K p.2
 any:∀ p ∈ Ax c,∀ X ∈ Se p.1 D.any,B4 T K ((A0 p.1 D.reg).getD {}).ops X p.2
def Ca:List (Nat × OA)->List (Ent ⊕ Ent3)
 | []=>[]
 | (_,a) :: r=>a.alt.map .inr ++ match a.ent with
  | some E=>.inl E :: (match a.entB with
   | some F=>.inr F :: Ca r
   | none=>Ca r)
  | none=>match a.entB with
   | some E=>.inr E :: Ca r
   | none=>Ca r
def Ah:List (Nat × RA)->List (Ent ⊕ Ent3)
 | []=>[]
 | (_,A) :: r=>Ca A.ops ++ Ah r
def B9d (P:Program):Ent ⊕ Ent3->Prop
 | .inl E=>E.Sound P
 | .inr E=>E.Sound P
def Al (P:Program):List (Ent ⊕ Ent3)->Prop
 | []=>True
 | .inl E :: r=>E.Sound P /\ Al P r
 | .inr E :: r=>E.Sound P /\ Al P r
def A6k (P:Program) (K:Ai) (D:D3 α):List (Nat × Code)->Prop
 | []=>True
 | p :: r=>(∀ L,A0 p.1 D.loop = some L->L.Sound P K p.2) /\ A6k P K D r
theorem Al.mem:∀ {l:List (Ent ⊕ Ent3)},Al P l->∀ E ∈ l,B9d P E
 | [],_,E,h=>by cases h
 | .inl F :: r,hs,E,h=>by
  rcases QT.1 h with rfl | h
  . exact hs.1
  . exact Al.mem hs.2 E h
 | .inr F :: r,hs,E,h=>by
  rcases QT.1 h with rfl | h
  . exact hs.1
  . exact Al.mem hs.2 E h
theorem A6k.mem {K:Ai} {D:D3 α}:∀ {l:List (Nat × Code)},A6k P K D l->∀ p ∈ l,∀ L,A0 p.1 D.loop = some L->L.Sound P K p.2
 | [],_,p,h=>by cases h
 | q :: r,hs,p,h=>by
  rcases QT.1 h with rfl | h
  . exact hs.1
  . exact A6k.mem hs.2 p h
theorem Dq:∀ {l:List (Nat × OA)} {i:Nat} {a:OA},A0 i l = some a->(∀ E,a.ent = some E->Sum.inl E ∈ Ca l) /\ (∀ E,a.entB = some E->Sum.inr E ∈ Ca l) /\ ∀ E,E ∈ a.alt->Sum.inr E ∈ Ca l
 | [],_,_,h=>by cases h
 | (j,b) :: r,i,a,h=>by
  simp only [A0] at h
  cases hb:Nat.beq j i with
  | true =>
   rw [hb] at h;obtain rfl:=QA h
   refine ⟨fun E he=>?_,fun E he=>?_,fun E he=>by simp only [Ca];exact QF.2 (.inl (ZN.2 ⟨E,he,rfl⟩))⟩
   . simp only [Ca,he];exact QF.2 (.inr YO)
   . simp only [Ca];refine QF.2 (.inr ?_)
     cases b.ent with
     | some F=>simp only [he];exact ZU _ YO
     | none=>simp only [he];exact YO
  | false =>
   rw [hb] at h;have:=Dq h
   have up:∀ x,x ∈ Ca r->x ∈ Ca ((j,b) :: r):=by
    intro x hx;simp only [Ca];refine QF.2 (.inr ?_);split
    . split
      . exact ZU _ (ZU _ hx)
      . exact ZU _ hx
    . split
      . exact ZU _ hx
      . exact hx
   exact ⟨fun E he=>up _ (this.1 E he),fun E he=>up _ (this.2.1 E he),fun E he=>up _ (this.2.2 E he)⟩
theorem Ek:∀ {l:List (Nat × RA)} {id:Nat} {A:RA} {E:Ent ⊕ Ent3},A0 id l = some A->E ∈ Ca A.ops->E ∈ Ah l
 | [],_,_,_,h,_=>by cases h
 | (j,B) :: r,id,A,E,h,he=>by
  simp only [A0] at h;simp only [Ah,QF]
  cases hb:Nat.beq j id with
  | true =>
   rw [hb] at h;obtain rfl:=QA h;exact .inl he
  | false =>
   rw [hb] at h;exact .inr (Ek h he)
def Afj (f:Tm->Prop):List Tm->Prop
 | []=>True
 | X :: r=>f X /\ Afj f r
theorem Afj.mem {f:Tm->Prop}:∀ {l:List Tm},Afj f l->∀ X ∈ l,f X
 | [],_,X,hX=>by cases hX
 | Y :: r,h,X,hX=>by
  rcases QT.1 hX with rfl | hX
  . exact h.1
  . exact Afj.mem h.2 X hX
def Afk (T:Ty) (K:Ai) (D:D3 α):List (Nat × Array Oper)->Prop
 | []=>True
 | p :: r=>Afj (fun X=>B4 T K ((A0 p.1 D.reg).getD {}).ops X p.2) (Se p.1 D.any) /\ Afk T K D r
theorem Afk.mem {K:Ai} {D:D3 α}:∀ {l:List (Nat × Array Oper)},Afk T K D l->∀ p ∈ l,∀ X ∈ Se p.1 D.any,B4 T K ((A0 p.1 D.reg).getD {}).ops X p.2
 | [],_,p,hp=>by cases hp
 | q :: r,h,p,hp=>by
  rcases QT.1 hp with rfl | hp
  . exact h.1.mem
  . exact Afk.mem h.2 p hp
theorem D3.OK.mk3a {K:Ai} {D:D3 α} {c:Code} {ls:List (Nat × Code)} {as:List (Nat × Array Oper)} (he:Al P (Ah D.reg)) (hl:Aa c = ls) (h:A6k P K D ls) (ha:Ax c = as) (h':Afk T K D as):D3.OK P T K D c :=
 ⟨fun _ _ hA _ _ ha'=>⟨fun E hE=>he.mem (.inl E) (Ek hA ((Dq ha').1 E hE)),fun E hE=>he.mem (.inr E) (Ek hA ((Dq ha').2.1 E hE)),fun E hE=>he.mem (.inr E) (Ek hA ((Dq ha').2.2 E hE))⟩,fun p hp=>h.mem p (by rw [<- hl];exact hp),fun p hp=>h'.mem p (by rw [<- ha];exact hp)⟩
theorem D3.OK.mk3 {K:Ai} {D:D3 α} {c:Code} {ls:List (Nat × Code)} (he:Al P (Ah D.reg)) (hl:Aa c = ls) (h:A6k P K D ls) (ha:D.any = []:=by rfl):D3.OK P T K D c :=
 ⟨fun _ _ hA _ _ ha'=>⟨fun E hE=>he.mem (.inl E) (Ek hA ((Dq ha').1 E hE)),fun E hE=>he.mem (.inr E) (Ek hA ((Dq ha').2.1 E hE)),fun E hE=>he.mem (.inr E) (Ek hA ((Dq ha').2.2 E hE))⟩,fun p hp=>h.mem p (by rw [<- hl];exact hp),fun p _ X hX=>by rw [ha] at hX;cases hX⟩
theorem Ab {K:Ai} {i:Nat} {l:List (Nat × LO α)} {L0:LO α} {c:Code} (h:A0 i l = some L0) (hs:L0.Sound P K c):∀ L,A0 i l = some L->L.Sound P K c:=fun L hL=>by
 rw [h] at hL;obtain rfl:=QA hL;exact hs
theorem Den.weakT {K:Ai} {c:Code} {s:St} {s1:St3} {x:Exit} {X:Tm} {w:X.den} {nt:Nat} (h:Code.Den P K c s x (s1.st nt)) (hd:X.dec s1 = some w):Code.Den P K c s x ((X.enc w).st nt) :=
 Den.weak h fun _ _ _ _ hs=>Tm.dec_ok hd hs
theorem Den.weakIn {K:Ai} {c:Code} {s:St3} {s':St} {x:Exit} {X:Tm} {w:X.den} {nt:Nat} (h:Code.Den P K c ((X.enc w).st nt) x s') (hd:X.dec s = some w):Code.Den P K c (s.st nt) x s':=by
 intro Γ wd E a ro n hK hdef hs;obtain ⟨E',hs'⟩:=Tm.dec_ok hd hs;exact h Γ wd E' a ro n hK hdef hs'
theorem D3.OK.left {K:Ai} {D:D3 α} {c d:Code} (h:D3.OK P T K D (.seq c d)):D3.OK P T K D c:=⟨h.ent,fun p hp=>h.loop p (QF.2 (.inl hp)),fun p hp=>h.any p (QF.2 (.inl hp))⟩
theorem D3.OK.right {K:Ai} {D:D3 α} {c d:Code} (h:D3.OK P T K D (.seq c d)):D3.OK P T K D d:=⟨h.ent,fun p hp=>h.loop p (QF.2 (.inr hp)),fun p hp=>h.any p (QF.2 (.inr hp))⟩
theorem Mg (hT:Ao P T) (hfol:P.follows .mixedOrders = true) {K:Ai} {D:D3 α} {nt:Nat}:∀ (c:Code) (s:St3) (k:Exit->St3->Option α) (r:α),D3.OK P T K D c->B8 P T K D c s k = some r ->
  ∃ x s',Code.Den P K c (s.st nt) x (s'.st nt) /\ k x s' = some r:=by
 intro c
 induction c with
 | skip=>intro s k r _ h;exact ⟨.normal,s,Den.skip,h⟩
 | region id ops draw =>
  intro s k r hD h;simp only [B8] at h
  have hEnt:∀ i a,A0 i ((A0 id D.reg).getD {}).ops = some a->a.S P:=fun i a hi=>by
   cases hl:A0 id D.reg with
   | none=>rw [hl] at hi;cases hi
   | some A=>rw [hl] at hi;exact hD.ent id A hl i a hi
  cases hA:Se id D.any with
  | nil =>
   rw [hA] at h;obtain ⟨s',h1,h2⟩:=Ayr (id:=id) (nt:=nt) hT hfol hEnt h;exact ⟨.normal,s',h1,h2⟩
  | cons X0 r0 =>
   rw [hA] at h
   cases draw with
   | false=>cases h
   | true =>
    simp only [cond] at h
    have key:∀ l:List Tm,(∀ X ∈ l,B4 T K ((A0 id D.reg).getD {}).ops X ops)->A9s s (fun X w=>Gn T K ops.toList ((A0 id D.reg).getD {}).ops (A9 ops.toList) (X.enc w) (k .normal)) l = some r->∃ x s',Code.Den P K (.region id ops true) (s.st nt) x (s'.st nt) /\ k x s' = some r:=by
     intro l
     induction l with
     | nil=>intro _ h;cases h
     | cons X l ih =>
      intro hl h;simp only [A9s] at h;split at h
      . rename_i w hw
        obtain ⟨s',h1,h2⟩:=B3n (id:=id) (nt:=nt) hT hfol hEnt (hl X (by simp)) h
        exact ⟨.normal,s',Den.weakIn h1 hw,h2⟩
      . exact ih (fun Y hY=>hl Y (by simp [hY])) h
    exact key _ (fun X hX=>hD.any (id,ops) (by simp [Ax]) X (by rw [hA];exact hX)) h
 | seq c d ihc ihd =>
  intro s k r hD h;simp only [B8] at h;split at h
  . obtain ⟨x,s1,h1,h2⟩:=ihc _ _ _ hD.left h
    cases x with
    | normal =>
     obtain ⟨y,s2,h3,h4⟩:=ihd _ _ _ hD.right h2;exact ⟨y,s2,Den.seq h1 h3,h4⟩
    | _=>exact ⟨_,s1,Den.seqX (by simp) h1,h2⟩
  . rename_i X hX;obtain ⟨x,s1,h1,h2⟩:=ihc _ _ _ hD.left h
    cases x with
    | normal =>
     simp only at h2;split at h2
     . rename_i w hw;obtain ⟨y,s2,h3,h4⟩:=ihd _ _ _ hD.right h2;exact ⟨y,s2,Den.seq (Den.weakT h1 hw) h3,h4⟩
     . cases h2
    | _=>exact ⟨_,s1,Den.seqX (by simp) h1,h2⟩
 | cond c a b iha ihb =>
  intro s k r hD h
  cases c with
  | tmp t =>
   simp only [B8] at h;split at h
   . rename_i y hl;have hl':=A6u (nt:=nt) hl
     cases y with
     | true =>
      simp only [cond] at h;obtain ⟨x,s',h1,h2⟩:=iha _ _ _ (D3.OK.left (d:=b) ⟨hD.ent,hD.loop,hD.any⟩) h;rw [I6 hl] at h1;exact ⟨x,s',Den.cond (b:=true) rfl hl' h1,h2⟩
     | false =>
      simp only [cond] at h;obtain ⟨x,s',h1,h2⟩:=ihb _ _ _ (D3.OK.right (c:=a) ⟨hD.ent,hD.loop,hD.any⟩) h;rw [I6 hl] at h1;exact ⟨x,s',Den.cond (b:=false) rfl hl' h1,h2⟩
   . cases h
  | const=>simp [B8] at h
  | global=>simp [B8] at h
  | func=>simp [B8] at h
 | block id c ih =>
  intro s k r hD h;simp only [B8] at h;obtain ⟨x,s',h1,h2⟩:=ih _ _ _ ⟨hD.ent,hD.loop,hD.any⟩ h
  cases x with
  | exit j =>
   simp only at h2
   cases hb:Nat.beq j id with
   | true =>
    rw [hb] at h2;obtain rfl:=QC hb;exact ⟨.normal,s',Den.blockX h1,h2⟩
   | false =>
    rw [hb] at h2
    exact ⟨.exit j,s',Den.block h1 (by intro e;injection e with e;subst e;simp at hb),h2⟩
  | _=>exact ⟨_,s',Den.block h1 (by simp),h2⟩
 | loop c ih =>
  intro s k r hD h;simp only [B8] at h;split at h
  . rename_i L hL;split at h
    . rename_i v hv;obtain ⟨x,s',⟨h1,_⟩,h2⟩:=hD.loop _ (QR.2 rfl) L hL nt v k r h;exact ⟨x,s',Den.weakIn h1 hv,h2⟩
    . cases hp:(Aa c).isEmpty with
      | false=>rw [hp] at h;cases h
      | true =>
        rw [hp] at h;simp only [cond] at h
        have hDc:D3.OK P T K D c:=⟨hD.ent,fun p hm=>(by rw [YI.1 hp] at hm;cases hm),fun p hm=>hD.any p hm⟩
        obtain ⟨x,s1,h1,h2⟩:=ih _ _ _ hDc h
        cases x with
        | normal =>
         simp only at h2;split at h2
         . rename_i v hv;obtain ⟨y,s',⟨_,h3⟩,h4⟩:=hD.loop _ (QR.2 rfl) L hL nt v k r h2;exact ⟨y,s',Den.loop (.round (Den.weakT h1 hv) (h3 c rfl)),h4⟩
         . cases h2
        | _=>exact ⟨_,s1,Den.loop (.last (by simp) h1),h2⟩
  . cases h
 | rangeFunc f ps a b _ _ =>
  intro s k r hD h;simp only [B8] at h;split at h
  . rename_i L hL;split at h
    . rename_i v hv;obtain ⟨x,s',⟨h1,_⟩,h2⟩:=hD.loop _ (QR.2 rfl) L hL nt v k r h;exact ⟨x,s',Den.weakIn h1 hv,h2⟩
    . cases h
  . cases h
 | exit id=>intro s k r _ h;exact ⟨.exit id,s,Den.exit,h⟩
 | ret=>intro s k r _ h;exact ⟨.ret,s,Den.ret,h⟩
 | scope c _=>intro s k r _ h;simp [B8] at h
 | label l=>intro s k r _ h;simp [B8] at h
 | goto l=>intro s k r _ h;simp [B8] at h
 | refuse w=>intro s k r _ h;simp [B8] at h
theorem Pp {k:Exit->St3->Option α} {y:Exit} {s:St3} {r:α}:∀ {l:List (Exit × Tm)},Ke l (Lq k l) y s = some r->∃ (X:Tm) (w:X.den),X.dec s = some w /\ k y (X.enc w) = some r
 | [],h=>by cases h
 | (x,X) :: l,h=>by
  simp only [Ke] at h
  cases hb:Exit.eqb x y with
  | true =>
   rw [hb] at h;obtain rfl:=Exit.eqb_eq hb;simp only [cond] at h;split at h
   . rename_i w hw;exact ⟨X,w,hw,h⟩
   . cases h
  | false =>
   rw [hb] at h;exact Pp h
theorem Ayu (hT:Ao P T) (hfol:P.follows .mixedOrders = true) {K:Ai} {D:D3 α} {c:Code} {H:Tm} {outs:List (Exit × Tm)} (B:H.den->(H.den->Option α)->KS α outs->Option α) (hD:D3.OK P T K D c)
  (hB:∀ v f ks,B8 P T K D c (H.enc v) (A3w H outs f ks) = B v f ks) (n:Nat):(⟨H,outs,A5 B n⟩:LO α).Sound P K (.loop c):=by
 intro nt v k r h
 have key:∀ (n:Nat) (v:H.den),A5 B n v (Lq k outs) = some r->∃ x s',F1 P K c ((H.enc v).st nt) x (s'.st nt) /\ k x s' = some r:=by
  intro n
  induction n with
  | zero=>intro v h;cases h
  | succ n ih =>
   intro v h;simp only [A5] at h;rw [<- hB] at h;obtain ⟨x,s1,h1,h2⟩:=Mg hT hfol (nt:=nt) _ _ _ _ hD h
   have out:∀ x,x ≠ .normal->Code.Den P K c ((H.enc v).st nt) x (s1.st nt)->Ke outs (Lq k outs) x s1 = some r->∃ x s',F1 P K c ((H.enc v).st nt) x (s'.st nt) /\ k x s' = some r:=by
    intro x hx hd hp;obtain ⟨X,w,hw,hk⟩:=Pp hp;exact ⟨x,X.enc w,.last hx (Den.weakT hd hw),hk⟩
   cases x with
   | normal =>
    simp only [A3w] at h2;split at h2
    . rename_i v' hv;obtain ⟨y,s2,h3,h4⟩:=ih v' h2;exact ⟨y,s2,.round (Den.weakT h1 hv) h3,h4⟩
    . cases h2
   | _=>exact out _ (by simp) h1 h2
 obtain ⟨x,s',h1,h2⟩:=key n v h
 exact ⟨x,s',⟨Den.loop h1,fun c' e=>by cases e;exact h1⟩,h2⟩
theorem Yh {s:St3} {nt:Nat} {rv:ResultVar} {v:SV} (h:A4f T s rv = some v) (hs:v.s (A3 s.boxes) = .v (v.v (A3 s.boxes))):∃ obs,Li T (s.st nt) rv = some (v.v (A3 s.boxes),obs) /\ ∀ p ∈ obs,p:=by
 unfold A4f at h;split at h
 . rename_i t
   refine ⟨[],?_,by simp⟩
   simp only [Li,St3.st,Ac,h,QP,hs]
 . rename_i a ty;split at h
   . rename_i hh row col ha;split at h
     . rename_i e hf fz cs hl;split at h
       . rename_i r hr;obtain rfl:=QA h;have hv:(s.st nt).val (.tmp a) = .v (.one (.hp hh row col)):=B5 ha rfl;unfold Vm at hr;split at hr
         . cases hr
         . rename_i ti hti;simp only [hl] at hr
           cases hb:(Nat.beq row 0 && Nat.ble (col + ti.size) cs.length && cs.all SV.cellB) with
           | false=>rw [hb] at hr;cases hr
           | true =>
            rw [hb] at hr;simp only [QE] at hb;obtain rfl:=QC hb.1.1;simp only [cond,QB] at hr;obtain ⟨z,hz,rfl⟩:=hr;obtain ⟨h1,h2⟩:=G0 (L:=A3 s.boxes) hz (Sf _ hb.2);rw [KI] at h1
            have hbx:(s.st nt).box hh = some ((B3.var e hf fz cs).box (A3 s.boxes)):=by
             show A0 hh (Ae (B3.box (A3 s.boxes)) s.boxes) = _;rw [Bi,hl];rfl
            refine ⟨[],?_,by simp⟩
            simp only [Li,hv,Et,hti,hbx,B3.box,ZG,hb.1.2,XI,XU,ZF,cond,h1,XZ]
       . cases h
     . cases h
   . cases h
theorem Agu {s:St3} {nt:Nat} {rv:ResultVar} {v:SV} {t:Sh} {q} (h:A4f T s rv = some v) (hc:V8 s.boxes t v = some (true,q)):∃ obs,Li T (s.st nt) rv = some (v.v (A3 s.boxes),obs) /\ ∀ p ∈ obs,p:=by
 obtain ⟨x,ks⟩:=q;exact Yh h (Nb hc rfl).1
theorem Ays {s:St3} {nt:Nat} {t:Sh} {rv:ResultVar} {g:Bool} {x:t.den} {ks:List Nat} (h:Tk T s rv t = some (g,x,ks)) (hg:g = true) :
  ∃ obs,Hg T (s.st nt) rv (some (t.v x)) = some (t.v x,obs,ks) /\ (∀ p ∈ obs,p) /\ ∀ k ∈ ks,k < 1000 /\ (A0 k s.boxes).isSome = true:=by
 subst hg;unfold Tk at h;split at h
 . rename_i v hv;obtain ⟨obs,h1,h2⟩:=Agu (nt:=nt) hv h;obtain ⟨_,⟨ob,h3,h4⟩,h5⟩:=Nb h rfl;have h3':Hu (s.st nt).box (v.v (A3 s.boxes)) (t.v x) = some (ob,ks):=h3;refine ⟨obs ++ ob,?_,fun p hp=>?_,h5⟩
   . simp only [Hg,h1,h3']
   . rcases QF.1 hp with hp | hp
     . exact h2 p hp
     . exact h4 p hp
 . cases h
theorem Aun {s:St3} {nt:Nat}:∀ {ts:List Sh} {rvs:List ResultVar} {x:HL ts} {g:Bool},Hf T s ts rvs = some (g,x)->g = true ->
  ∃ obs ks,Db T (s.st nt) rvs ((Au ts x).map some) = some (Au ts x,obs,ks) /\ (∀ p ∈ obs,p) /\ ∀ k ∈ ks,k < 1000 /\ (A0 k s.boxes).isSome = true:=by
 have one:∀ {t:Sh} {rv:ResultVar} {g:Bool} {x:t.den} {ks:List Nat},Tk T s rv t = some (g,x,ks)->g = true ->
   ∃ obs,Hg T (s.st nt) rv (some (t.v x)) = some (t.v x,obs,ks) /\ (∀ p ∈ obs,p) /\ ∀ k ∈ ks,k < 1000 /\ (A0 k s.boxes).isSome = true:=by
  intro t rv g x ks h hg;subst hg;unfold Tk at h;split at h
  . rename_i v hv;obtain ⟨obs,h1,h2⟩:=Agu (nt:=nt) hv h;obtain ⟨_,⟨ob,h3,h4⟩,h5⟩:=Nb h rfl;have h3':Hu (s.st nt).box (v.v (A3 s.boxes)) (t.v x) = some (ob,ks):=h3;refine ⟨obs ++ ob,?_,fun p hp=>?_,h5⟩
    . simp only [Hg,h1,h3']
    . rcases QF.1 hp with hp | hp
      . exact h2 p hp
      . exact h4 p hp
  . cases h
 intro ts
 induction ts with
 | nil =>
  intro rvs x g h hg
  cases rvs with
  | nil=>exact ⟨[],[],rfl,by simp,by simp⟩
  | cons=>simp [Hf] at h
 | cons t ts ih =>
  intro rvs x g h hg
  cases ts with
  | nil =>
   cases rvs with
   | nil=>simp [Hf] at h
   | cons rv rvs =>
    cases rvs with
    | nil =>
     simp only [Hf] at h;split at h
     . rename_i g1 y ks h1;simp only [QD,QG] at h;obtain ⟨rfl,rfl⟩:=h;obtain ⟨obs,o1,o2,o3⟩:=one h1 hg
       refine ⟨obs ++ [],ks ++ [],?_,by simpa using o2,by simpa using o3⟩
       simp only [Au,QV,YU,Db,Qav,o1]
     . cases h
    | cons=>simp [Hf] at h
  | cons u r =>
   cases rvs with
   | nil=>simp [Hf] at h
   | cons rv rvs =>
    simp only [Hf] at h;split at h
    . rename_i g1 y ks g2 ys h1 h2;simp only [QD,QG] at h;obtain ⟨rfl,rfl⟩:=h;simp only [QE] at hg;obtain ⟨obs,o1,o2,o3⟩:=one h1 hg.1;obtain ⟨obs',ks',p1,p2,p3⟩:=ih h2 hg.2;refine ⟨obs ++ obs',ks ++ ks',?_,fun p hp=>?_,fun k hk=>?_⟩
      . simp only [Au,QV,Db,Qav,List.tail_cons,o1];have:Db T (s.st nt) rvs ((Au (u :: r) ys).map some) = _:=p1;rw [this]
      . rcases QF.1 hp with hp | hp
        . exact o2 p hp
        . exact p2 p hp
      . rcases QF.1 hk with hk | hk
        . exact o3 k hk
        . exact p3 k hk
    . cases h
theorem Tj:∀ (vs:List SV) (L:Nat->Nat) (i:Nat),(∀ v ∈ vs,v.s L = .v (v.v L))->Ae (SV.s L) (Eg i vs) = params i (vs.map (SV.v L))
 | [],_,_,_=>rfl
 | v :: r,L,i,h=>by
  have ih:=Tj r L (i + 1) fun x hx=>h x (by simp [hx])
  simp only [Eg,Ae,QV,params] at ih ⊢
  rw [h v (by simp),ih]
theorem Amy {L:Nat->Nat}:∀ (ts:List Sh) (x:HL ts),∀ v ∈ Dv ts x,v.s L = .v (v.v L)
 | [],_,v,h=>by cases h
 | [t],x,v,h=>by
  simp only [Dv,QR] at h;subst h;rw [(Ha t x).2,(Ha t x).1]
 | t :: u :: r,x,v,h=>by
  simp only [Dv,QT] at h;rcases h with rfl | h
  . rw [(Ha t x.1).2,(Ha t x.1).1]
  . exact Amy (u :: r) x.2 v (by simpa [Dv] using h)
theorem Atf (ts:List Sh) (x:HL ts) (nt:Nat):(V5 ts x).st nt = { slots:=params 0 (Au ts x),boxes:=[],nt:=nt }:=by
 simp only [V5,St3.st];rw [Tj _ _ _ (Amy ts x),Yb];rfl
theorem B7z (hT:Ao P T) (hfol:P.follows .mixedOrders = true) {f:Nat} {fn:Func} {c:Code} {K:Ai} {ts rs:List Sh} {m:HL ts->Option (HL rs)} (D:D3 (HL rs))
  (hf : P.funcs[f]? = some fn) (hname : (fn.name == "runtime.NumGoroutine") = false) (hb : fn.body = some c) (hN : fn.ntmps = K.N) (hmv : K.mv = []) (hargs : ts.length <= K.N) (hD : D3.OK P T K D c)
  (h:∀ x,B8 P T K D c (V5 ts x) (Avd T rs fn.results.toList) = m x):(⟨f,ts,rs,m⟩:Ent).Sound P:=by
 intro nt x r hm;have hm:m x = some r:=hm;rw [<- h] at hm;obtain ⟨e,s',h1,h2⟩:=Mg hT hfol (nt:=nt) _ _ _ _ hD hm;rw [Atf] at h1
 have key:∀ e,e = .normal \/ e = .ret->Code.Den P K c { slots:=params 0 (Au ts x),boxes:=[],nt:=nt } e (s'.st nt)->(match Hf T s' rs fn.results.toList with | some (g,y)=>bif g then some y else none | none=>none) = some r->I2 P f nt [] [] (Au ts x) (I8 rs r) nt []:=by
  intro e he hd h2;split at h2
  . rename_i g y hy
    cases g with
    | false=>cases h2
    | true =>
     obtain rfl:=QA h2;obtain ⟨obs,ks,o1,o2,o3⟩:=Aun (nt:=nt) hy rfl
     exact Aog hT hf hname hb hN hmv (by rw [A6m];exact hargs) he hd o1 o2 (S7 o3) (Ya rs y)
  . cases h2
 cases e with
 | normal=>exact key _ (.inl rfl) h1 h2
 | ret=>exact key _ (.inr rfl) h1 h2
 | _=>cases h2
end Go.Ev

/- DERIVED. Functions that are handed boxes or hand out boxes, over shapes. -/
namespace Go.Ev
open Go
variable {P:Program} {T:Ty} {α:Type}
def Ig (T:Ty) (s:St3):List PK->List ResultVar->Option (Bool × List Nat)
 | [],[]=>some (true,[])
 | .im t :: r,rv :: rvs=>match Tk T s rv t,Ig T s r rvs with
  | some (g,_,ks),some (g',ks')=>some (g && g',ks ++ ks')
  | _,_=>none
 | _ :: r,_ :: rvs=>Ig T s r rvs
 | _,_=>none
def P8 (bs:List (Nat × B3)) (k:Nat):(c:CK)->SV->Option (c.den × List (Nat × Nat))
 | .im t,v=>bif t.one then (v.as false t).map fun x=>(x,[]) else none
 | .own e t,.hw h=>match A0 h bs with
  | some (.arr e' sh false xs)=>bif Nat.beq e e' then ((Sh.sl sh).to (.sl t) xs).map fun x=>(x,[(k,h)]) else none
  | _=>none
 | .ptr e t,.hp h 0 0=>match A0 h bs with
  | some (.var e' true false cs)=>bif Nat.beq e e' && cs.all SV.isD then (t.all false cs).map fun x=>(x,[(k,h)]) else none
  | _=>none
 | .back j,.hw h=>bif Nat.beq h j then some ((),[]) else none
 | .emp t,v=>match v.as false (.sl t) with
  | some []=>some ((),[])
  | _=>none
 | .tree e t,.hw h=>match A0 h bs with
  | some (.tree e' sh false xs)=>bif Nat.beq e e' then ((Sh.sl sh).to (.sl t) xs).map fun x=>(x,[(k,h)]) else none
  | _=>none
 | _,_=>none
def Fc (bs:List (Nat × B3)) (k:Nat):(cs:List CK)->List SV->Option (DC cs × List (Nat × Nat))
 | [],[]=>some ((),[])
 | [c],[v]=>P8 bs k c v
 | c :: d :: r,v :: vs=>match P8 bs k c v,Fc bs (k + 1) (d :: r) vs with
  | some (x,q),some (y,q')=>some ((x,y),q ++ q')
  | _,_=>none
 | _,_=>none
def A4d (T:Ty) (s:St3) (fbs:List (Nat × B3)) (k:Nat):(p:PK)->ResultVar->Option (p.den × List (Nat × Nat))
 | .im t,rv=>(Tk T s rv t).map fun q=>(q.2.1,[])
 | .one c,rv=>match A4f T s rv with
  | some v=>P8 fbs k c v
  | none=>none
 | .mix cs,rv=>match A4f T s rv with
  | some (.agg vs)=>Fc fbs k cs vs
  | _=>none
def Mr (T:Ty) (s:St3) (fbs:List (Nat × B3)) (k:Nat):(ps:List PK)->List ResultVar->Option (HP ps × List (Nat × Nat))
 | [],[]=>some ((),[])
 | [p],[rv]=>A4d T s fbs k p rv
 | p :: q :: r,rv :: rvs=>match A4d T s fbs k p rv,Mr T s fbs (k + p.n) (q :: r) rvs with
  | some (x,l),some (y,l')=>some ((x,y),l ++ l')
  | _,_=>none
 | _,_=>none
def Ajt (bs:List (Nat × B3)) (k:Nat):(c:CK)->Option c.den
 | .own e t=>match A0 k bs with
  | some (.arr e' sh false xs)=>bif Nat.beq e e' then (Sh.sl sh).to (.sl t) xs else none
  | _=>none
 | .ptr e t=>match A0 k bs with
  | some (.var e' true false cs)=>bif Nat.beq e e' && cs.all SV.isD then t.all false cs else none
  | _=>none
 | .tree e t=>match A0 k bs with
  | some (.tree e' sh false xs)=>bif Nat.beq e e' then (Sh.sl sh).to (.sl t) xs else none
  | _=>none
 | _=>none
def A9t (bs:List (Nat × B3)):(os:List (Nat × CK))->Option (DO os)
 | []=>some ()
 | [p]=>Ajt bs p.1 p.2
 | p :: q :: r=>match Ajt bs p.1 p.2,A9t bs (q :: r) with
  | some x,some y=>some (x,y)
  | _,_=>none
def Ajv {rs:List PK}:(os:List (Nat × CK))->HP rs->DO os->HR rs os
 | [],y,_=>y
 | _ :: _,y,z=>(y,z)
theorem Auv {rs:List PK}:∀ (os:List (Nat × CK)) (y:HP rs) (z:DO os),Kd (Ajv os y z) = y /\ Axn (Ajv os y z) = z
 | [],_,_=>⟨rfl,rfl⟩
 | _ :: _,_,_=>⟨rfl,rfl⟩
def Pw (os:List (Nat × CK)):List (Nat × Nat):=os.map fun p=>(p.1,p.1)
def Ak5 (T:Ty) (ts rs:List PK) (rvs:List ResultVar) (s:St3):Option (Bool × HR rs (Aj 1000 ts)) :=
 match Ig T s rs rvs with
 | some (g,ks)=>match Mr T s (Be s.boxes ks) 0 rs rvs,A9t (Be s.boxes ks) (Aj 1000 ts) with
  | some (y,q),some z=>bif Dz (q ++ Pw (Aj 1000 ts)) && Br (Ck 0 rs y ++ bxO (Aj 1000 ts) z) (q ++ Pw (Aj 1000 ts)) && (q.all (fun p=>Nat.blt p.2 1000) && (Aj 1000 ts).all (fun p=>Nat.blt p.1 2000)) && (rs.flatMap PK.backs).all (fun j=>(A0 j (Ck 0 rs y)).isNone && (Aj 1000 ts).any fun p=>Nat.beq p.1 j) then
    some (g,Ajv (Aj 1000 ts) y z) else none
  | _,_=>none
 | none=>none
def A4m (T:Ty) (ts:List PK) (rvs:List ResultVar) (s:St3):(fs:List (List PK))->Option (HF (Aj 1000 ts) fs)
 | []=>none
 | [rs]=>match Ak5 T ts rs rvs s with
  | some (g,y)=>bif g then some y else none
  | none=>none
 | rs :: r :: q=>match Ak5 T ts rs rvs s with
  | some (g,y)=>bif g then some (.inl y) else none
  | none=>match A4m T ts rvs s (r :: q) with
   | some z=>some (.inr z)
   | none=>none
def Avc (T:Ty) (ts:List PK) (fs:List (List PK)) (rvs:List ResultVar) (x:Exit) (s:St3):Option (HF (Aj 1000 ts) fs) :=
 match x with
 | .normal=>A4m T ts rvs s fs
 | .ret=>A4m T ts rvs s fs
 | _=>none
section
variable {bs:List (Nat × B3)} {ρ L0 L':Nat->Nat} {p:Nat->Bool}
theorem S0 {k:Nat} {c:CK} {v:SV} {x:c.den} {q:List (Nat × Nat)} (h:P8 bs k c v = some (x,q)) (hL0:A3 bs = L0)
  (hq:∀ r ∈ q,ρ r.2 = r.1 /\ p r.2 = true) (hbk:∀ j ∈ c.backs,ρ j = j /\ p j = true /\ L' j = L0 j) (hL:∀ k' b,(k',b) ∈ c.bx k x->L' k' = b.len) :
  v.cellB = true /\ (v.c L0).ren ρ = (c.sv k x).c L' /\ (v.c L0).okH p = true /\ (c.sv k x).cellB = true /\ Fj bs (c.bx k x) q:=by
 unfold P8 at h;split at h
 . rename_i t
   cases ht:t.one with
   | false=>rw [ht] at h;cases h
   | true =>
    rw [ht] at h;simp only [cond,QB,QG] at h;obtain ⟨y,hy,rfl,rfl⟩:=h;obtain rfl:=A1v hy
    exact ⟨ht,rfl,rfl,ht,fun k b hb=>by cases hb⟩
 . rename_i e t hh;split at h
   . rename_i e' sh xs hl
     cases he:Nat.beq e e' with
     | false=>rw [he] at h;cases h
     | true =>
      rw [he] at h;simp only [cond,QB,QG] at h;obtain ⟨y,hy,rfl,rfl⟩:=h;obtain ⟨rfl,rfl⟩:=Da hy;obtain rfl:=QC he
      have hle:L0 hh = xs.length:=by rw [<- hL0];simp [A3,hl,B3.len]
      have hk:L' k = xs.length:=hL k (.arr e sh false xs) (by simp [CK.bx])
      obtain ⟨r1,r2⟩:=hq (k,hh) (by simp)
      refine ⟨rfl,?_,r2,rfl,fun k' b hb=>?_⟩
      . simp only [SV.c,C.ren,CK.sv,hle,hk];rw [show ρ hh = k from r1]
      . simp only [CK.bx,QR,QG] at hb;obtain ⟨rfl,rfl⟩:=hb
        exact ⟨hh,_,by simp,hl,rfl,fun _ _=>rfl,fun _=>⟨rfl,rfl⟩⟩
   . cases h
 . rename_i e t hh;split at h
   . rename_i e' cs hl
     cases he:(Nat.beq e e' && cs.all SV.isD) with
     | false=>rw [he] at h;cases h
     | true =>
      rw [he] at h;simp only [cond,QB,QG] at h;obtain ⟨y,hy,rfl,rfl⟩:=h;simp only [QE] at he;obtain rfl:=QC he.1;obtain ⟨a1,_,_,a4⟩:=C6 hy
      obtain ⟨r1,r2⟩:=hq (k,hh) (by simp)
      refine ⟨rfl,?_,r2,rfl,fun k' b hb=>?_⟩
      . simp only [SV.c,C.ren,CK.sv];rw [show ρ hh = k from r1]
      . simp only [CK.bx,QR,QG] at hb;obtain ⟨rfl,rfl⟩:=hb
        refine ⟨hh,_,by simp,hl,rfl,fun L1 L2=>?_,fun _=>⟨rfl,rfl⟩⟩
        simp only [B3.box,a1,Hs,A65,a4]
   . cases h
 . rename_i j hh
   cases he:Nat.beq hh j with
   | false=>rw [he] at h;cases h
   | true =>
    rw [he] at h;simp only [cond,QD,QG] at h;obtain ⟨_,rfl⟩:=h;obtain rfl:=QC he
    obtain ⟨b1,b2,b3⟩:=hbk hh (by simp [CK.backs])
    refine ⟨rfl,?_,b2,rfl,fun k b hb=>by cases hb⟩
    simp only [SV.c,C.ren,CK.sv,b1,b3]
 . rename_i t;split at h
   . rename_i ha
     cases h;obtain rfl:=A1v ha
     exact ⟨rfl,rfl,rfl,rfl,fun k b hb=>by cases hb⟩
   . cases h
 . rename_i e t hh;split at h
   . rename_i e' sh xs hl
     cases he:Nat.beq e e' with
     | false=>rw [he] at h;cases h
     | true =>
      rw [he] at h;simp only [cond,QB,QG] at h;obtain ⟨y,hy,rfl,rfl⟩:=h;obtain ⟨rfl,rfl⟩:=Da hy;obtain rfl:=QC he
      have hle:L0 hh = xs.length:=by rw [<- hL0];simp [A3,hl,B3.len]
      have hk:L' k = xs.length:=hL k (.tree e sh false xs) (by simp [CK.bx])
      obtain ⟨r1,r2⟩:=hq (k,hh) (by simp)
      refine ⟨rfl,?_,r2,rfl,fun k' b hb=>?_⟩
      . simp only [SV.c,C.ren,CK.sv,hle,hk];rw [show ρ hh = k from r1]
      . simp only [CK.bx,QR,QG] at hb;obtain ⟨rfl,rfl⟩:=hb
        exact ⟨hh,_,by simp,hl,rfl,fun _ _=>rfl,fun _=>⟨rfl,rfl⟩⟩
   . cases h
 . cases h
theorem Y2:∀ {cs:List CK} {k:Nat} {vs:List SV} {x:DC cs} {q:List (Nat × Nat)},Fc bs k cs vs = some (x,q)->A3 bs = L0 ->
  (∀ r ∈ q,ρ r.2 = r.1 /\ p r.2 = true)->(∀ j ∈ cs.flatMap CK.backs,ρ j = j /\ p j = true /\ L' j = L0 j)->(∀ k' b,(k',b) ∈ K3 k cs x->L' k' = b.len) ->
  (vs.map (SV.c L0)).map (C.ren ρ) = (T5 k cs x).map (SV.c L') /\ (vs.map (SV.c L0)).all (C.okH p) = true /\ Fj bs (K3 k cs x) q
 | [],k,[],x,q,h,_,_,_,_=>⟨rfl,rfl,fun k b hb=>by cases hb⟩
 | [],k,_ :: _,_,_,h,_,_,_,_=>by simp [Fc] at h
 | [c],k,[],_,_,h,_,_,_,_=>by simp [Fc] at h
 | [c],k,[v],x,q,h,h0,hq,hbk,hL=>by
  obtain ⟨_,h1,h2,_,h3⟩:=S0 (x:=x) h h0 hq (by simpa using hbk) hL
  exact ⟨by simp only [QV,YU,T5,h1],by simp only [QV,YU,YA,List.all_nil,h2,ZF],h3⟩
 | [c],k,v :: w :: r,_,_,h,_,_,_,_=>by simp [Fc] at h
 | c :: d :: r,k,[],_,_,h,_,_,_,_=>by simp [Fc] at h
 | c :: d :: r,k,v :: vs,x,q,h,h0,hq,hbk,hL=>by
  simp only [Fc] at h;split at h
  . rename_i x1 q1 y1 q2 h1 h2;simp only [QD,QG] at h;obtain ⟨rfl,rfl⟩:=h
    obtain ⟨_,a1,a2,_,a3⟩:=S0 h1 h0 (fun r hr=>hq r (QF.2 (.inl hr))) (fun j hj=>hbk j (by simp only [Qaj,QF];exact .inl hj)) (fun k' b hb=>hL k' b (by simp only [K3];exact QF.2 (.inl hb)))
    obtain ⟨b1,b2,b3⟩:=Y2 h2 h0 (fun r hr=>hq r (QF.2 (.inr hr))) (fun j hj=>hbk j (by rw [Qaj];exact QF.2 (.inr hj))) (fun k' b hb=>hL k' b (by simp only [K3];exact QF.2 (.inr hb)))
    refine ⟨?_,?_,a3.app b3⟩
    . simp only [QV,T5,a1];rw [b1]
    . simp only [QV,YA,a2,b2,ZF]
  . cases h
theorem Agt {s:St3} {nt:Nat} {k:Nat} {pk:PK} {rv:ResultVar} {x:pk.den} {q:List (Nat × Nat)} (h:A4d T s bs k pk rv = some (x,q)) (hL0:A3 bs = A3 s.boxes)
  (hq:∀ r ∈ q,ρ r.2 = r.1 /\ p r.2 = true) (hbk:∀ j ∈ pk.backs,ρ j = j /\ p j = true /\ L' j = A3 s.boxes j) (hL:∀ k' b,(k',b) ∈ pk.bx k x->L' k' = b.len)
  {g:Bool} {ks:List Nat} (hk:Ig T s [pk] [rv] = some (g,ks)) (hg:g = true) :
  ∃ d xv obs,Hg T (s.st nt) rv d = some (xv,obs,ks) /\ (∀ p ∈ obs,p) /\ xv.ren ρ = (pk.sv k x).v L' /\ xv.okH p = true /\ Fj bs (pk.bx k x) q /\ (pk.sv k x).s L' = .v ((pk.sv k x).v L') /\ ∀ j ∈ ks,j < 1000 /\ (A0 j s.boxes).isSome = true:=by
 cases pk with
 | im t =>
  simp only [A4d,QB,QG] at h;obtain ⟨⟨g1,y,ks1⟩,h1,rfl,rfl⟩:=h;simp only [Ig,h1,QD,QG,XU,XA] at hk;obtain ⟨rfl,rfl⟩:=hk;obtain ⟨obs,a1,a2,a3⟩:=Ays (nt:=nt) h1 hg
  refine ⟨_,_,obs,a1,a2,?_,?_,(fun k b hb=>by cases hb),?_,a3⟩
  . rw [show (PK.im t).sv k y = t.sv y from rfl,(Ha t y).1];unfold Sh.v
    cases t.one with
    | true=>rfl
    | false =>
     simp only [cond,V.ren,XG];rfl
  . unfold Sh.v
    cases t.one with
    | true=>rfl
    | false=>simp [V.okH,C.okH]
  . exact (Ha t y).2.trans (by rw [show (PK.im t).sv k y = t.sv y from rfl,(Ha t y).1])
 | one c =>
  simp only [Ig,QD,QG] at hk;obtain ⟨rfl,rfl⟩:=hk;simp only [A4d] at h;split at h
  . rename_i v hv;obtain ⟨a1,a2,a3,a4,a5⟩:=S0 h hL0 hq hbk hL
    obtain ⟨obs,b1,b2⟩:=Yh (nt:=nt) hv (by rw [(F0 a1).1,(F0 a1).2])
    refine ⟨none,v.v (A3 s.boxes),obs,by simp only [Hg,b1],b2,?_,?_,a5,?_,by simp⟩
    . rw [(F0 a1).2];show V.one _ = (c.sv k x).v L';rw [(F0 a4).2,a2]
    . rw [(F0 a1).2];exact a3
    . show (c.sv k x).s L' = .v ((c.sv k x).v L');rw [(F0 a4).1,(F0 a4).2]
  . cases h
 | mix cs =>
  simp only [Ig,QD,QG] at hk;obtain ⟨rfl,rfl⟩:=hk;simp only [A4d] at h;split at h
  . rename_i vs hv;obtain ⟨a1,a2,a3⟩:=Y2 h hL0 hq hbk hL;obtain ⟨obs,b1,b2⟩:=Yh (nt:=nt) hv rfl
    refine ⟨none,(SV.agg vs).v (A3 s.boxes),obs,by simp only [Hg,b1],b2,?_,a2,a3,rfl,by simp⟩
    show V.agg _ = V.agg _;rw [a1]
  . cases h
theorem Aau {s:St3} {nt:Nat}:∀ {ps:List PK} {k:Nat} {rvs:List ResultVar} {x:HP ps} {q:List (Nat × Nat)},Mr T s bs k ps rvs = some (x,q)->A3 bs = A3 s.boxes ->
  (∀ r ∈ q,ρ r.2 = r.1 /\ p r.2 = true)->(∀ j ∈ ps.flatMap PK.backs,ρ j = j /\ p j = true /\ L' j = A3 s.boxes j)->(∀ k' b,(k',b) ∈ Ck k ps x->L' k' = b.len) ->
  ∀ {g:Bool} {ks:List Nat},Ig T s ps rvs = some (g,ks)->g = true ->
  ∃ ds xs obs,Db T (s.st nt) rvs ds = some (xs,obs,ks) /\ (∀ p ∈ obs,p) /\ xs.map (V.ren ρ) = (Bl k ps x).map (SV.v L') /\ xs.all (V.okH p) = true /\ Fj bs (Ck k ps x) q /\ (∀ v ∈ Bl k ps x,v.s L' = .v (v.v L')) /\ ∀ j ∈ ks,j < 1000 /\ (A0 j s.boxes).isSome = true
 | [],k,[],x,q,h,_,_,_,_,g,ks,hk,_=>by
  simp only [Ig,QD,QG] at hk;obtain ⟨_,rfl⟩:=hk
  exact ⟨[],[],[],rfl,by simp,rfl,rfl,(fun k b hb=>by cases hb),by simp [Bl],by simp⟩
 | [],k,_ :: _,_,_,h,_,_,_,_,_,_,_,_=>by simp [Mr] at h
 | [pk],k,[],_,_,h,_,_,_,_,_,_,_,_=>by simp [Mr] at h
 | [pk],k,[rv],x,q,h,h0,hq,hbk,hL,g,ks,hk,hg=>by
  obtain ⟨d,xv,obs,a1,a2,a3,a4,a5,a6,a7⟩:=Agt (nt:=nt) (x:=x) h h0 hq (by simpa using hbk) hL hk hg
  refine ⟨[d],[xv],obs ++ [],?_,by simpa using a2,?_,?_,a5,?_,a7⟩
  . simp only [Db,Qav,a1,XA]
  . simp only [QV,YU,Bl,a3]
  . simp [a4]
  . simpa [Bl] using a6
 | [pk],k,rv :: w :: r,_,_,h,_,_,_,_,_,_,_,_=>by simp [Mr] at h
 | pk :: p2 :: r,k,[],_,_,h,_,_,_,_,_,_,_,_=>by simp [Mr] at h
 | pk :: p2 :: r,k,rv :: rvs,x,q,h,h0,hq,hbk,hL,g,ks,hk,hg=>by
  simp only [Mr] at h;split at h
  . rename_i x1 q1 y1 q2 h1 h2;simp only [QD,QG] at h;obtain ⟨rfl,rfl⟩:=h
    obtain ⟨g1,ks1,g2,ks2,e1,e2,rfl,rfl⟩:∃ g1 ks1 g2 ks2,Ig T s [pk] [rv] = some (g1,ks1) /\ Ig T s (p2 :: r) rvs = some (g2,ks2) /\ g = (g1 && g2) /\ ks = ks1 ++ ks2:=by
     cases pk with
     | im t =>
      simp only [Ig] at hk;split at hk
      . rename_i g1 a ks1 g2 ks2 i1 i2;simp only [QD,QG] at hk
        exact ⟨g1,ks1,g2,ks2,by simp [Ig,i1],i2,hk.1.symm,hk.2.symm⟩
      . cases hk
     | one c=>exact ⟨true,[],g,ks,rfl,hk,by simp,rfl⟩
     | mix cs=>exact ⟨true,[],g,ks,rfl,hk,by simp,rfl⟩
    simp only [QE] at hg
    obtain ⟨d,xv,obs,a1,a2,a3,a4,a5,a6,a7⟩:=Agt (nt:=nt) h1 h0 (fun r hr=>hq r (QF.2 (.inl hr))) (fun j hj=>hbk j (by rw [Qaj];exact QF.2 (.inl hj))) (fun k' b hb=>hL k' b (by simp only [Ck];exact QF.2 (.inl hb))) e1 hg.1
    obtain ⟨ds,xs,obs',b1,b2,b3,b4,b5,b6,b7⟩:=Aau (nt:=nt) h2 h0 (fun r hr=>hq r (QF.2 (.inr hr))) (fun j hj=>hbk j (by rw [Qaj];exact QF.2 (.inr hj))) (fun k' b hb=>hL k' b (by simp only [Ck];exact QF.2 (.inr hb))) e2 hg.2
    refine ⟨d :: ds,xv :: xs,obs ++ obs',?_,fun p hp=>(QF.1 hp).elim (a2 p) (b2 p),?_,?_,a5.app b5,?_,fun j hj=>(QF.1 hj).elim (a7 j) (b7 j)⟩
    . simp only [Db,Qav,List.tail_cons,a1,b1]
    . simp only [QV,Bl,a3,b3]
    . simp only [YA,a4,b4,ZF]
    . simpa [Bl] using ⟨a6,b6⟩
  . cases h
end
end Go.Ev

/- DERIVED. THE USE for a function that is handed boxes or hands out boxes. -/
namespace Go.Ev
open Go
variable {P:Program} {T:Ty} {α:Type}
theorem Agx {bs:List (Nat × B3)} {k:Nat} {c:CK} {x:c.den} (h:Ajt bs k c = some x):Fj bs (c.bx k x) [(k,k)]:=by
 unfold Ajt at h;split at h
 . rename_i e t;split at h
   . rename_i e' sh xs hl
     cases he:Nat.beq e e' with
     | false=>rw [he] at h;cases h
     | true =>
      rw [he] at h;obtain ⟨rfl,rfl⟩:=Da h;obtain rfl:=QC he;intro k' b hb;simp only [CK.bx,QR,QG] at hb;obtain ⟨rfl,rfl⟩:=hb
      exact ⟨_,_,by simp,hl,rfl,fun _ _=>rfl,fun _=>⟨rfl,rfl⟩⟩
   . cases h
 . rename_i e t;split at h
   . rename_i e' cs hl
     cases he:(Nat.beq e e' && cs.all SV.isD) with
     | false=>rw [he] at h;cases h
     | true =>
      rw [he] at h;simp only [cond] at h;simp only [QE] at he;obtain rfl:=QC he.1;obtain ⟨a1,_,_,a4⟩:=C6 h;intro k' b hb;simp only [CK.bx,QR,QG] at hb;obtain ⟨rfl,rfl⟩:=hb
      refine ⟨_,_,by simp,hl,rfl,fun L1 L2=>?_,fun _=>⟨rfl,rfl⟩⟩
      simp only [B3.box,a1,Hs,A65,a4]
   . cases h
 . rename_i e t;split at h
   . rename_i e' sh xs hl
     cases he:Nat.beq e e' with
     | false=>rw [he] at h;cases h
     | true =>
      rw [he] at h;obtain ⟨rfl,rfl⟩:=Da h;obtain rfl:=QC he;intro k' b hb;simp only [CK.bx,QR,QG] at hb;obtain ⟨rfl,rfl⟩:=hb
      exact ⟨_,_,by simp,hl,rfl,fun _ _=>rfl,fun _=>⟨rfl,rfl⟩⟩
   . cases h
 . cases h
theorem Ab2 {bs:List (Nat × B3)}:∀ {os:List (Nat × CK)} {z:DO os},A9t bs os = some z->Fj bs (bxO os z) (Pw os)
 | [],z,_=>fun k b hb=>by cases hb
 | [p],z,h=>Agx (c:=p.2) h
 | p :: q :: r,z,h=>by
  simp only [A9t] at h;split at h
  . rename_i x y h1 h2;obtain rfl:=QA h;exact Fj.app (q:=[(p.1,p.1)]) (Agx h1) (Ab2 h2)
  . cases h
theorem Ax3:∀ {cs:List CK} {k:Nat} {x:DC cs} {k':Nat} {b:B3},(k',b) ∈ K3 k cs x->∃ c,(k',c) ∈ Ajs k cs:=by
 have one:∀ {c:CK} {k:Nat} {x:c.den} {k':Nat} {b:B3},(k',b) ∈ c.bx k x->∃ d,(k',d) ∈ c.owns k:=by
  intro c k x k' b h
  cases c <;> simp [CK.bx,CK.owns] at h ⊢ <;> exact h.1
 intro cs
 induction cs with
 | nil=>intro k x k' b h;cases h
 | cons c r ih =>
  intro k x k' b h
  cases r with
  | nil =>
   obtain ⟨d,hd⟩:=one (c:=c) h;exact ⟨d,QF.2 (.inl hd)⟩
  | cons d r =>
   simp only [K3] at h;rcases QF.1 h with h | h
   . obtain ⟨d,hd⟩:=one h;exact ⟨d,QF.2 (.inl hd)⟩
   . obtain ⟨d,hd⟩:=ih h;exact ⟨d,QF.2 (.inr hd)⟩
theorem Ax2:∀ {ps:List PK} {k:Nat} {x:HP ps} {k':Nat} {b:B3},(k',b) ∈ Ck k ps x->∃ c,(k',c) ∈ Aj k ps:=by
 have one:∀ {p:PK} {k:Nat} {x:p.den} {k':Nat} {b:B3},(k',b) ∈ p.bx k x->∃ d,(k',d) ∈ p.owns k:=by
  intro p k x k' b h
  cases p with
  | im t=>cases h
  | one c=>cases c <;> simp [PK.bx,PK.owns,CK.bx,CK.owns] at h ⊢ <;> exact h.1
  | mix cs=>exact Ax3 (cs:=cs) h
 intro ps
 induction ps with
 | nil=>intro k x k' b h;cases h
 | cons p r ih =>
  intro k x k' b h
  cases r with
  | nil =>
   obtain ⟨d,hd⟩:=one (p:=p) h;exact ⟨d,QF.2 (.inl hd)⟩
  | cons d r =>
   simp only [Ck] at h;rcases QF.1 h with h | h
   . obtain ⟨d,hd⟩:=one h;exact ⟨d,QF.2 (.inl hd)⟩
   . obtain ⟨d,hd⟩:=ih h;exact ⟨d,QF.2 (.inr hd)⟩
theorem B2y (L:Nat->Nat):∀ (ps:List PK) (k:Nat) (x:HP ps),∀ v ∈ Bl k ps x,v.s L = .v (v.v L):=by
 have one:∀ (p:PK) (k:Nat) (x:p.den),(p.sv k x).s L = .v ((p.sv k x).v L):=by
  intro p k x
  cases p with
  | im t=>exact (Ha t x).2.trans (by rw [show (PK.im t).sv k x = t.sv x from rfl,(Ha t x).1])
  | one c=>cases c <;> rfl
  | mix cs=>rfl
 intro ps
 induction ps with
 | nil=>intro k x v h;cases h
 | cons p r ih =>
  intro k x v h
  cases r with
  | nil =>
   simp only [Bl,QR] at h;subst h;exact one p k x
  | cons d r =>
   simp only [Bl,QT] at h;rcases h with rfl | h
   . exact one p k x.1
   . exact ih _ x.2 v (by simpa [Bl] using h)
theorem B3b {L:Nat->Nat} {vs:List SV} (h:∀ v ∈ vs,v.s L = .v (v.v L)):(G2 vs).s L = D2 (vs.map (SV.v L)):=by
 match vs,h with
 | [],_=>rfl
 | [x],h=>exact h x (by simp)
 | x :: y :: r,_=>rfl
theorem Av3 {ρ:Nat->Nat} (xs:List V):(D2 xs).ren ρ = D2 (xs.map (V.ren ρ)):=by
 match xs with
 | []=>rfl
 | [x]=>rfl
 | x :: y :: r=>rfl
theorem Av4 {p:Nat->Bool} {xs:List V} (h:xs.all (V.okH p) = true):(D2 xs).okH p = true:=by
 match xs,h with
 | [],_=>rfl
 | [x],h=>simpa [D2,S.okH] using h
 | x :: y :: r,h=>simpa [D2,S.okH] using h
def Sl (rn:List (Nat × Nat)) (h:Nat):Nat:=match Hz rn h with
 | some k=>k
 | none=>0
theorem Xu {β:Type}:∀ {l:List (Nat × β)} {k:Nat} {b:β},(k,b) ∈ l->(A0 k l).isSome = true
 | [],_,_,h=>by cases h
 | (k1,b1) :: r,k,b,h=>by
  simp only [A0]
  cases hb:Nat.beq k1 k with
  | true=>rfl
  | false =>
   rcases QT.1 h with h | h
   . obtain ⟨rfl,rfl⟩:=KE h;simp at hb
   . exact Xu h
theorem Abk (hT:Ao P T) {f:Nat} {fn:Func} {c:Code} {K:Ai} {nt:Nat} {ts rs:List PK} {x:HP ts} {e:Exit} {s:St3} {Y:HR rs (Aj 1000 ts)}
  (hf : P.funcs[f]? = some fn) (hname : (fn.name == "runtime.NumGoroutine") = false) (hb : fn.body = some c) (hN : fn.ntmps = K.N) (hmv : K.mv = []) (hargs : (Bl 1000 ts x).length <= K.N)
  (he:e = .normal \/ e = .ret) (hd:Code.Den P K c ((⟨Eg 0 (Bl 1000 ts x),Ck 1000 ts x⟩:St3).st nt) e (s.st nt)) (h:Ak5 T ts rs fn.results.toList s = some (true,Y)) :
  I3.Den P ⟨f,ts,rs⟩ nt x Y:=by
 unfold Ak5 at h;split at h
 case h_2=>cases h
 rename_i g ks hks;split at h
 case h_2=>cases h
 rename_i y q z hy hz
 cases hc:(Dz (q ++ Pw (Aj 1000 ts)) && Br (Ck 0 rs y ++ bxO (Aj 1000 ts) z) (q ++ Pw (Aj 1000 ts)) && (q.all (fun p=>Nat.blt p.2 1000) && (Aj 1000 ts).all (fun p=>Nat.blt p.1 2000)) && (rs.flatMap PK.backs).all (fun j=>(A0 j (Ck 0 rs y)).isNone && (Aj 1000 ts).any fun p=>Nat.beq p.1 j)) with
 | false=>rw [hc] at h;cases h
 | true =>
 rw [hc] at h;simp only [cond,QD,QG] at h;obtain ⟨rfl,rfl⟩:=h;simp only [QE] at hc;obtain ⟨⟨⟨c1,c2⟩,c3,c5⟩,c4⟩:=hc;generalize hrn:q ++ Pw (Aj 1000 ts) = rn at *;obtain ⟨m1,m2⟩:=Auv (rs:=rs) (Aj 1000 ts) y z
 have hB:Av ⟨f,ts,rs⟩ (Ajv (Aj 1000 ts) y z) = Ck 0 rs y ++ bxO (Aj 1000 ts) z:=by
  unfold Av;rw [m1,m2]
 generalize hBd:Ck 0 rs y ++ bxO (Aj 1000 ts) z = B at *
 have qrn:∀ p ∈ q,p ∈ rn:=fun p hp=>by rw [<- hrn];exact QF.2 (.inl hp)
 have irn:∀ p ∈ Pw (Aj 1000 ts),p ∈ rn:=fun p hp=>by rw [<- hrn];exact QF.2 (.inr hp)
 have fwdm:∀ k h,(k,h) ∈ rn->Hk rn k = h /\ Sl rn h = k /\ A0 k rn = some h:=fun k h hm=>by
  obtain ⟨e1,e2⟩:=Lo c1 hm
  exact ⟨by unfold Hk;rw [e1],by unfold Sl;rw [e2],e1⟩
 have outS:∀ k,(A0 k (Bm B)).isSome = (A0 k rn).isSome:=fun k=>by
  unfold Bm;rw [Ac,JC,Eh c2 k]
 have okP:∀ k h,(k,h) ∈ rn->((A0 (Sl rn h) (Bm B)).isSome && Nat.beq (Hk rn (Sl rn h)) h) = true:=fun k h hm=>by
  obtain ⟨e1,e2,e3⟩:=fwdm k h hm;rw [e2,outS k,e3,e1];simp
 have hL':∀ k b,(k,b) ∈ B->A3 B k = b.len:=fun k b hb=>by
  have:=Tn c2 c1 hb;unfold A3;rw [this]
 have hlf:A3 (Be s.boxes ks) = A3 s.boxes:=Ci ks s.boxes;have hout:=Ab2 hz
 have hIdm:∀ j,j ∈ rs.flatMap PK.backs->(j,j) ∈ Pw (Aj 1000 ts):=fun j hj=>by
  have h4:=QM.1 c4 j hj;simp only [QE] at h4;obtain ⟨p,hp,hpj⟩:=ZW.1 h4.2;obtain rfl:=QC hpj;exact ZN.2 ⟨p,hp,rfl⟩
 have lenB:∀ k h b,(k,b) ∈ B->(k,h) ∈ rn->∀ b',A0 h (Be s.boxes ks) = some b'->b'.len = b.len->A3 B k = A3 s.boxes h:=fun k h b hb _ b' hb' hl=>by
  rw [hL' k b hb,<- hl,<- hlf];unfold A3;rw [hb']
 have hInB:Fj (Be s.boxes ks) (bxO (Aj 1000 ts) z) (Pw (Aj 1000 ts)):=hout
 have hbk:∀ j ∈ rs.flatMap PK.backs,Sl rn j = j /\ ((A0 (Sl rn j) (Bm B)).isSome && Nat.beq (Hk rn (Sl rn j)) j) = true /\ A3 B j = A3 s.boxes j:=fun j hj=>by
  have hm:=irn _ (hIdm j hj);refine ⟨(fwdm j j hm).2.1,okP j j hm,?_⟩
  have hS:(A0 j B).isSome = true:=by rw [Eh c2 j,(fwdm j j hm).2.2];rfl
  obtain ⟨b,hb⟩:=ZB.1 hS;have hmem:=Bz hb;have hmem':=hmem;rw [<- hBd] at hmem';rcases QF.1 hmem' with hm1 | hm1
  . have h4:=QM.1 c4 j hj;simp only [QE,Option.isNone_iff_eq_none] at h4;have:=Xu hm1;rw [h4.1] at this;cases this
  . obtain ⟨h',b',i1,i2,i3,_,_⟩:=hInB j b hm1;obtain ⟨p,hp,hpe⟩:=ZN.1 i1;obtain ⟨rfl,rfl⟩:=KE hpe;exact lenB _ _ b hmem hm b' i2 i3
 obtain ⟨ds,xs,obs,a1,a2,a3,a4,a5,a6,a7⟩:=Aau (nt:=nt) (ρ:=Sl rn) (L':=A3 B) (p:=fun h=>(A0 (Sl rn h) (Bm B)).isSome && Nat.beq (Hk rn (Sl rn h)) h) hy hlf
  (fun r hr=>⟨(fwdm r.1 r.2 (qrn _ hr)).2.1,okP r.1 r.2 (qrn _ hr)⟩) hbk (fun k' b hb=>hL' k' b (by rw [<- hBd];exact QF.2 (.inl hb))) hks rfl
 have hIn:Fj (Be s.boxes ks) B rn:=by rw [<- hBd,<- hrn];exact a5.app hout
 have hr:(G2 (Bl 0 rs y)).s (A3 B) = (D2 xs).ren (Sl rn):=by
  rw [B3b a6,Av3,a3]
 have hst:(⟨Eg 0 (Bl 1000 ts x),Ck 1000 ts x⟩:St3).st nt = { slots:=params 0 ((Bl 1000 ts x).map (SV.v (A3 (Ck 1000 ts x)))),boxes:=Bm (Ck 1000 ts x),nt:=nt }:=by
  simp only [St3.st];rw [Tj _ _ _ (B2y _ ts 1000 x)];rfl
 rw [hst] at hd
 have hfin:=Ave hT (bs':=Bm B) hf hname hb hN hmv (by rw [ZG];exact hargs) he hd a1 a2 (S7 a7) (Hk rn) (Sl rn)
  (fun k b hb=>?_) (fun k k' hk hk' e=>?_) (Av4 a4) (fun k b hb=>?_)
 . unfold I3.Den;rw [m1,hB,hr];exact hfin
 . unfold Bm at hb;rw [Ac] at hb;obtain ⟨b3,hb3,rfl⟩:=QB.1 hb;obtain ⟨h',b',i1,i2,i3,i4,i5⟩:=hIn k b3 (Bz hb3);obtain ⟨e1,_,_⟩:=fwdm k h' i1;refine ⟨?_,(i5 _).1,(i5 _).2,?_⟩
   . show A0 (Hk rn k) (At (Ae (B3.box (A3 s.boxes)) s.boxes) ks) = _;rw [Fn,Ac,e1,i2];exact XR some (i4 _ _)
   . rw [e1];rw [<- hrn] at i1;rcases QF.1 i1 with i1 | i1
     . exact .inl (by simpa [ZO] using QM.1 c3 _ i1)
     . obtain ⟨p,hp5,hpe⟩:=ZN.1 i1;obtain ⟨rfl,rfl⟩:=KE hpe
       exact .inr ⟨rfl,by simpa [ZO] using QM.1 c5 _ hp5⟩
 . rw [outS k] at hk;rw [outS k'] at hk';obtain ⟨h1,e1⟩:=ZB.1 hk;obtain ⟨h2,e2⟩:=ZB.1 hk';obtain ⟨f1,f2,_⟩:=fwdm k h1 (C5 e1);obtain ⟨f3,f4,_⟩:=fwdm k' h2 (C5 e2);rw [f1,f3] at e;rw [<- f2,<- f4,e]
 . unfold Bm at hb;rw [Ac] at hb;obtain ⟨b3,hb3,_⟩:=QB.1 hb;obtain ⟨d,hd'⟩:=Ax2 (Bz hb3);have hm:=irn (k,k) (ZN.2 ⟨_,hd',rfl⟩);obtain ⟨e1,_,e3⟩:=fwdm k k hm
   exact ⟨e1,by rw [outS k,e3];rfl,by simpa [ZO] using QM.1 c5 _ hd'⟩
theorem B3m (hT:Ao P T) (hfol:P.follows .mixedOrders = true) {f:Nat} {fn:Func} {c:Code} {K:Ai} {ts:List PK} {forms:List (List PK)} {m:HP ts->Option (HF (Aj 1000 ts) forms)} (D:D3 (HF (Aj 1000 ts) forms))
  (hf : P.funcs[f]? = some fn) (hname : (fn.name == "runtime.NumGoroutine") = false) (hb : fn.body = some c) (hN : fn.ntmps = K.N) (hmv : K.mv = []) (hargs : ts.length <= K.N) (hD : D3.OK P T K D c)
  (h:∀ x,B8 P T K D c ⟨Eg 0 (Bl 1000 ts x),Ck 1000 ts x⟩ (Avc T ts forms fn.results.toList) = m x):(⟨f,ts,forms,m⟩:Ent3).Sound P:=by
 intro nt x z hm;have hm:m x = some z:=hm;rw [<- h] at hm;obtain ⟨e,s',h1,h2⟩:=Mg hT hfol (nt:=nt) _ _ _ _ hD hm
 have hlen:(Bl 1000 ts x).length <= K.N:=by
  have:∀ (ps:List PK) (k:Nat) (x:HP ps),(Bl k ps x).length = ps.length:=by
   intro ps
   induction ps with
   | nil=>intro k x;rfl
   | cons p r ih =>
    intro k x
    cases r with
    | nil=>rfl
    | cons d r=>simp only [Bl,ZA];rw [ih];rfl
  rw [this];exact hargs
 have key:∀ (fs:List (List PK)) (z:HF (Aj 1000 ts) fs),e = .normal \/ e = .ret->A4m T ts fn.results.toList s' fs = some z->A6l (Aj 1000 ts) fs z fun rs y=>I3.Den P ⟨f,ts,rs⟩ nt x y:=by
  intro fs
  induction fs with
  | nil=>intro z _ _;trivial
  | cons rs r ih =>
   intro z he hz
   cases r with
   | nil =>
    simp only [A4m] at hz;split at hz
    . rename_i g y hy
      cases g with
      | false=>cases hz
      | true =>
       obtain rfl:=QA hz;exact Abk hT hf hname hb hN hmv hlen he h1 hy
    . cases hz
   | cons r q =>
    simp only [A4m] at hz;split at hz
    . rename_i g y hy
      cases g with
      | false=>cases hz
      | true =>
       obtain rfl:=QA hz;exact Abk hT hf hname hb hN hmv hlen he h1 hy
    . split at hz
      . rename_i w hw;obtain rfl:=QA hz;exact ih w he hw
      . cases hz
 cases e with
 | normal=>exact key forms z (.inl rfl) h2
 | ret=>exact key forms z (.inr rfl) h2
 | _=>cases h2
end Go.Ev

/- DERIVED. A range over what slices.Backward hands back, over shapes. -/
namespace Go.Ev
open Go
variable {P:Program} {T:Ty} {α:Type}
def Aa6 (p0 p1 i:Nat) (z:Int) (s:St3):St3:={ s with slots:=Ag p1 (.d (.int .i64) z) (Ag p0 (.d (.int .i64) (i:Int)) s.slots) }
def Xa (wr:Nat->Bool) (p0 p1:Nat) (s:St3):St3:={ s with slots:=s.slots.filter fun p=>!(wr p.1 || (Nat.beq p.1 p0 || Nat.beq p.1 p1)) }
theorem Amx {p0 p1 i:Nat} {z:Int} {s:St3} {nt:Nat}:(Aa6 p0 p1 i z s).st nt = Mm p0 p1 i z (s.st nt):=by
 simp only [Aa6,St3.st,Mm,<- Co];rfl
theorem Xx {β γ:Type} (f:β->γ) (q:Nat->Bool):∀ l:List (Nat × β),Ae f (l.filter fun p=>q p.1) = (Ae f l).filter fun p=>q p.1
 | []=>rfl
 | (j,y) :: r=>by
  have ih:=Xx f q r;simp only [Ae] at ih;simp only [Ae,QV,YR]
  cases q j with
  | true=>simp [ih]
  | false=>simp [ih]
theorem Af0 {wr:Nat->Bool} {p0 p1:Nat} {s:St3} {nt:Nat}:(Xa wr p0 p1 s).st nt = Nh wr p0 p1 (s.st nt):=by
 simp only [Xa,St3.st,Nh]
 rw [Xx (q:=fun k=>!(wr k || (Nat.beq k p0 || Nat.beq k p1)))]
def Aj6 (H:Tm) (outs:List (Exit × Tm)) (wr:Nat->Bool) (p0 p1:Nat) (f:H.den->Option α) (ks:KS α outs) (x:Exit) (s:St3):Option α :=
 match x with
 | .normal=>match H.dec (Xa wr p0 p1 s) with
  | some v=>f v
  | none=>none
 | .ret=>Ke outs ks .ret (Xa wr p0 p1 s)
 | .exit id=>Ke outs ks (.exit id) (Xa wr p0 p1 s)
 | _=>none
def And (P:Program) (T:Ty) (K:Ai) (D:D3 α) (H:Tm) (outs:List (Exit × Tm)) (p0 p1:Nat) (asg body:Code) (i:Nat) (z:Int) (v:H.den) (f:H.den->Option α) (ks:KS α outs):Option α :=
 B8 P T K D asg (Aa6 p0 p1 i z (H.enc v)) fun x sA=>match x with
  | .normal=>B8 P T K D body sA (Aj6 H outs (fun t=>asg.wr t || body.wr t) p0 p1 f ks)
  | _=>none
def Ll {V Ks:Type} (zsOf:V->List Int) (B:Nat->Int->V->(V->Option α)->Ks->Option α) (zs:List Int):Nat->V->(V->Option α)->Ks->Option α
 | 0,v,d,_=>d v
 | i + 1,v,d,ks=>B i (zs.getD i 0) v (fun v'=>gd (decide (zsOf v' = zs)) (Ll zsOf B zs i v' d ks)) ks
def Lk {V Ks:Type} (zsOf:V->List Int) (B:Nat->Int->V->(V->Option α)->Ks->Option α) (Dn:V->Ks->Option α) (v:V) (ks:Ks):Option α :=
 gd (decide ((zsOf v).length <= 4611686018427387904)) (Ll zsOf B (zsOf v) (zsOf v).length v (fun v'=>Dn v' ks) ks)
theorem Ahb {g:Bool} {x:Option α} {r:α} (h:gd g x = some r):g = true /\ x = some r:=by cases g with | true=>exact ⟨rfl,h⟩ | false=>cases h
theorem Tm.dec_weak {X:Tm} {s:St3} {w:X.den} {nt:Nat} (h:X.dec s = some w):Bs (s.st nt) ((X.enc w).st nt):=fun _ _ _ _ hs=>Tm.dec_ok h hs
theorem Aay (hT:Ao P T) (hfol:P.follows .mixedOrders = true) {K:Ai} {D:D3 α} {g p0 p1 fB:Nat} {asg body:Code} {H:Tm} {outs:List (Exit × Tm)} (zsOf:H.den->List Int)
  (B:Nat->Int->H.den->(H.den->Option α)->KS α outs->Option α) (Dn:H.den->KS α outs->Option α) (hBk:Afi P fB) (hrA:asg.rf = false) (hrB:body.rf = false) (hp0:Nat.blt p0 K.N = true) (hp1:Nat.blt p1 K.N = true)
  (hDa:D3.OK P T K D asg) (hDb:D3.OK P T K D body) (hz:∀ v,A0 g (H.enc v).slots = some (.d (.clo fB (.ref (.sl (.int .i64)))) (zsOf v)))
  (hB:∀ i z v f ks,And P T K D H outs p0 p1 asg body i z v f ks = B i z v f ks) (hDn:∀ v ks,Ke outs ks .normal (H.enc v) = Dn v ks) :
  (⟨H,outs,Lk zsOf B Dn⟩:LO α).Sound P K (.rangeFunc (.tmp g) #[p0,p1] asg body):=by
 intro nt v k r h;obtain ⟨hlen,h⟩:=Ahb h;simp only [QQ] at hlen;obtain ⟨Z,hZ⟩:∃ Z,Z = zsOf v:=⟨_,rfl⟩;rw [<- hZ] at h hlen
 have clo:∀ v',zsOf v' = Z->A0 g ((H.enc v').st nt).slots = some (A6c fB Z):=fun v' e=>by
  simp only [St3.st,Ac,hz v',QP,e];rfl
 have key:∀ (i:Nat) (v:H.den),zsOf v = Z->Ll zsOf B Z i v (fun v'=>Dn v' (Lq k outs)) (Lq k outs) = some r ->
   ∃ x s1 X w,En P K g p0 p1 fB Z asg body i ((H.enc v).st nt) x (St3.st s1 nt) /\ Tm.dec X s1 = some w /\ k x (X.enc w) = some r:=by
  intro i
  induction i with
  | zero =>
   intro v hv h;simp only [Ll] at h;rw [<- hDn] at h;obtain ⟨X,w,h1,h2⟩:=Pp h;exact ⟨.normal,H.enc v,X,w,.done (clo v hv),h1,h2⟩
  | succ i ih =>
   intro v hv h;simp only [Ll] at h;rw [<- hB] at h;unfold And at h;obtain ⟨x,sA,a1,a2⟩:=Mg hT hfol (nt:=nt) _ _ _ _ hDa h;rw [Amx] at a1
   cases x with
   | normal =>
    simp only at a2;obtain ⟨y,s1,b1,b2⟩:=Mg hT hfol (nt:=nt) _ _ _ _ hDb a2
    have out:(y = .ret \/ ∃ id,y = .exit id)->Ke outs (Lq k outs) y (Xa (fun t=>asg.wr t || body.wr t) p0 p1 s1) = some r ->
      ∃ x s1 X w,En P K g p0 p1 fB Z asg body (i + 1) ((H.enc v).st nt) x (St3.st s1 nt) /\ Tm.dec X s1 = some w /\ k x (X.enc w) = some r:=by
     intro hy hp;obtain ⟨X,w,h1,h2⟩:=Pp hp;refine ⟨y,_,X,w,?_,h1,h2⟩;rw [Af0];exact .stop (clo v hv) hy a1 b1
    cases y with
    | normal =>
     simp only [Aj6] at b2;split at b2
     . rename_i v' hv';obtain ⟨e1,e2⟩:=Ahb b2
       obtain ⟨x,s2,X,w,c1,c2,c3⟩:=ih v' (by simpa using e1) e2
       exact ⟨x,s2,X,w,.round (clo v hv) a1 b1 (by rw [<- Af0];exact Tm.dec_weak hv') c1,c2,c3⟩
     . cases b2
    | ret=>exact out (.inl rfl) b2
    | exit id=>exact out (.inr ⟨id,rfl⟩) b2
    | goto l=>cases b2
    | panic c=>cases b2
    | outgrown=>cases b2
   | _=>cases a2
 obtain ⟨x,s1,X,w,c1,c2,c3⟩:=key Z.length v hZ.symm h
 have:=Den.range hBk hlen hrA hrB (by simpa [ZO] using hp0) (by simpa [ZO] using hp1) c1
 exact ⟨x,X.enc w,⟨Den.weak this (Tm.dec_weak c2),fun c' e=>by cases e⟩,c3⟩
end Go.Ev
