/- DERIVED. The evaluator over shapes of data: all paths of a function. -/
import Derived.Test.YtaebdcandpfmgaaGreatEd

set_option linter.all false
set_option linter.unusedVariables false
set_option linter.unusedSimpArgs false

/- DERIVED. Regions that draw their order, over shapes: each order gives the same. -/
namespace Go.Ev
open Go
variable {P:Program} {T:Ty} {α:Type}
inductive RV where
 | sv (x:SV)
 | bx (E:Ent3) (z:HF (Am 1000 E.ts) E.forms)
inductive AV where
 | none
 | im (E:Ent) (x:HL E.ts) (y:SV)
 | bx (E:Ent3) (x:HP E.ts) (z:HF (Am 1000 E.ts) E.forms)
def AV.ok:AV->Prop
 | .none=>True
 | .im E x y=>∃ r,E.m x = some r /\ y = Al E.rs r
 | .bx E x z=>E.m x = some z
def E6:List (Nat × Sh)->St3->Option (Bool × St3)
 | [],s=>some (true,s)
 | (t,sh) :: r,s=>match Lu s t sh with
  | some (g,s1)=>match E6 r s1 with
   | some (g',s2)=>some (g && g',s2)
   | none=>none
  | none=>none
def Dk (T:Ty) (K:Ak) (A:OA) (rv:Option RV) (o:Oper) (s:St3):Option (Bool × AV × St3) :=
 match E6 A.fz s with
 | none=>none
 | some (g0,s0)=>match A.ent with
  | some E=>match rv with
   | some (.sv y)=>match Ok E o s0 with
    | some (g,x)=>match s0.put3 K o.dst y with
     | some s'=>some (g0 && g,.im E x y,s')
     | none=>none
    | none=>none
   | _=>none
  | none=>match A.entB with
   | some _=>match rv with
    | some (.bx E z)=>match Is E.f E.ts o s0 with
     | some (g,x,bor,q)=>Ir (Am 1000 E.ts) E.forms z fun rs y =>
      bif Fw ⟨E.f,E.ts,rs⟩ A.hb s0 x bor q y then (match (B4 ⟨E.f,E.ts,rs⟩ A.hb s0 q y).2.put3 K o.dst (B4 ⟨E.f,E.ts,rs⟩ A.hb s0 q y).1 with
       | some s'=>some (g0 && (g && Fi (Ay ⟨E.f,E.ts,rs⟩ y) s0.boxes (D6 ⟨E.f,E.ts,rs⟩ (I4 ⟨E.f,E.ts,rs⟩ A.hb q)) q),.bx E x z,s')
       | none=>none) else none
     | none=>none
    | _=>none
   | none=>match Yy T K A o s0 with
    | some (g,s')=>some (g0 && g,.none,s')
    | none=>none
theorem Zd {nt:Nat}:∀ {l:List (Nat × Sh)} {s s':St3} {g:Bool},E6 l s = some (g,s')->g = true->Bx (s.st nt) (s'.st nt)
 | [],s,s',g,h,_=>by
  simp only [E6,QD,QG] at h;obtain ⟨_,rfl⟩:=h;exact fun _ _ E _ hs=>⟨E,hs⟩
 | (t,sh) :: r,s,s',g,h,hg=>by
  simp only [E6] at h;split at h
  . rename_i g1 s1 h1;split at h
    . rename_i g2 s2 h2;simp only [QD,QG] at h;obtain ⟨rfl,rfl⟩:=h;simp only [QE] at hg;intro Γ w E tmps hs;obtain ⟨x',ob,q1,q2⟩:=Qp (nt:=nt) h1 hg.1
      obtain ⟨E1,hs1⟩:=Dj [(t,x')] (s':=s1.st nt) (obs:=ob ++ []) hs (by simp only [Ej,q1]) (fun p hp=>by simp only [XE] at hp;exact q2 p hp)
      exact Zd h2 hg.2 Γ w E1 tmps hs1
    . cases h
  . cases h
def RV.S (P:Program):Option RV->Prop
 | some (.bx E _)=>E.Sound P
 | _=>True
theorem A04 (hT:As P T) {K:Ak} {A:OA} {rv:Option RV} {o:Oper} {s s':St3} {g:Bool} {av:AV} {nt:Nat} (h:Dk T K A rv o s = some (g,av,s')) (hg:g = true) (hav:av.ok) (hE:A.S P) (hrv:RV.S P rv):Z2 P K o (s.st nt) (s'.st nt):=by
 unfold Dk at h;split at h
 . cases h
 rename_i g0 s0 h0;have fin:∀ {D:F8} {obs:List Prop},g0 = true->C9 P T K o D (s0.st nt) = some (s'.st nt,obs)->(∀ p ∈ obs,p)->Z2 P K o (s.st nt) (s'.st nt):=fun hg0 hs ho=>⟨_,Zd h0 hg0,Cm hT hs ho⟩;split at h
 . rename_i E hent;split at h
   . rename_i y;split at h
     . rename_i g1 x hc;split at h
       . rename_i s2 hp;simp only [QD,QG] at h;obtain ⟨rfl,rfl,rfl⟩:=h;simp only [QE] at hg;obtain ⟨rfl,rfl⟩:=hg;obtain ⟨r,hm,rfl⟩:=hav;obtain ⟨obs,h1,h2⟩:=A3a (T:=T) (nt:=nt) hc hm (hE.1 E hent);have:=P8 (nt:=nt) hp;rw [A6e] at this;obtain ⟨D',obs',h3,h4⟩:=Qt h2 this;exact fin rfl h3 (h4 h1)
       . cases h
     . cases h
   . cases h
 . rename_i hent;split at h
   . rename_i F hF;split at h
     . rename_i E z;split at h
       . rename_i g1 x bor q hc;have hS:E.Sound P:=hrv
         have hm:∀ {r:Bool × AV × St3} ,Ir (Am 1000 E.ts) E.forms z (fun rs y =>
          bif Fw ⟨E.f,E.ts,rs⟩ A.hb s0 x bor q y then (match (B4 ⟨E.f,E.ts,rs⟩ A.hb s0 q y).2.put3 K o.dst (B4 ⟨E.f,E.ts,rs⟩ A.hb s0 q y).1 with
           | some s'=>some (g0 && (g1 && Fi (Ay ⟨E.f,E.ts,rs⟩ y) s0.boxes (D6 ⟨E.f,E.ts,rs⟩ (I4 ⟨E.f,E.ts,rs⟩ A.hb q)) q),AV.bx E x z,s')
           | none=>none) else none) = some r->r.2.1 = .bx E x z:=fun {r} hr=>by
          have key:∀ (fs:List (List PK)) (zz:HF (Am 1000 E.ts) fs),Ir (Am 1000 E.ts) fs zz (fun rs y =>
           bif Fw ⟨E.f,E.ts,rs⟩ A.hb s0 x bor q y then (match (B4 ⟨E.f,E.ts,rs⟩ A.hb s0 q y).2.put3 K o.dst (B4 ⟨E.f,E.ts,rs⟩ A.hb s0 q y).1 with
            | some s'=>some (g0 && (g1 && Fi (Ay ⟨E.f,E.ts,rs⟩ y) s0.boxes (D6 ⟨E.f,E.ts,rs⟩ (I4 ⟨E.f,E.ts,rs⟩ A.hb q)) q),AV.bx E x z,s')
            | none=>none) else none) = some r->r.2.1 = .bx E x z:=by
           intro fs zz hz
           have hall:A8w (Am 1000 E.ts) fs zz (fun _ _=>True):=by
            clear hz
            induction fs with
            | nil=>trivial
            | cons f fs ih =>
             cases fs with
             | nil=>trivial
             | cons f2 fs=>cases zz with
              | inl a=>trivial
              | inr b=>exact ih b
           obtain ⟨rs,y,h1,_⟩:=Lp hz hall
           cases hck:Fw ⟨E.f,E.ts,rs⟩ A.hb s0 x bor q y with
           | false=>rw [hck] at h1;cases h1
           | true =>
            rw [hck] at h1;simp only [cond] at h1;split at h1
            . obtain rfl:=QA h1;rfl
            . cases h1
          exact key E.forms z hr
         have e1:av = .bx E x z:=hm h;subst e1;have hav:E.m x = some z:=hav;obtain ⟨rs,y,h1,h2⟩:=Lp h (hS nt x z hav)
         cases hck:Fw ⟨E.f,E.ts,rs⟩ A.hb s0 x bor q y with
         | false=>rw [hck] at h1;cases h1
         | true =>
          rw [hck] at h1;simp only [cond] at h1;split at h1
          . rename_i s2 hp;simp only [QD,QG] at h1;obtain ⟨e,_,rfl⟩:=h1;rw [<- e] at hg;simp only [QE] at hg;obtain ⟨rfl,rfl,hl⟩:=hg;obtain ⟨D,obs,q1,q2⟩:=Ab4 (T:=T) (E:=⟨E.f,E.ts,rs⟩) hc hck hl h2 hp;exact fin rfl q1 q2
          . cases h1
       . cases h
     . cases h
   . split at h
     . rename_i g1 s2 hr;simp only [QD,QG] at h;obtain ⟨rfl,rfl,rfl⟩:=h;simp only [QE] at hg;obtain ⟨D,obs,h1,h2⟩:=Ahf (nt:=nt) hT hr hg.2;exact fin hg.1 h1 h2
     . cases h
abbrev OA.at (A:List (Nat × OA)) (i:Nat):OA:=(A0 i A).getD {}
def S3 (T:Ty) (K:Ak) (A:List (Nat × OA)) (q:List (Nat × RV)) (L:Nat):List (Nat × Oper)->St3->St3
 | [],s=>s
 | (i,o) :: l,s=>S3 T K A q L l (bif L.testBit i then (match Dk T K (OA.at A i) (A0 i q) o s with
  | some r=>r.2.2
  | none=>s) else s)
def WT (A:List (Nat × OA)):List (Nat × Oper)->List (Nat × RV)->Prop
 | [],q=>q = []
 | (i,_) :: l,q=>match (OA.at A i).ent with
  | some E=>∃ y q',q = (i,.sv (Al E.rs y)) :: q' /\ WT A l q'
  | none=>match (OA.at A i).entB with
   | some F=>∃ z q',q = (i,.bx F z) :: q' /\ WT A l q'
   | none=>WT A l q
def Fk (T:Ty) (K:Ak) (A:List (Nat × OA)) (q:List (Nat × RV)):List (Nat × Oper)->St3->St3->Prop
 | [],s,s'=>s = s'
 | (i,o) :: l,s,s'=>∃ av s1,Dk T K (OA.at A i) (A0 i q) o s = some (true,av,s1) /\ av.ok /\ Fk T K A q l s1 s'
theorem WT.keys {A:List (Nat × OA)}:∀ {l:List (Nat × Oper)} {q:List (Nat × RV)},WT A l q->∀ i,(∀ p ∈ l,p.1 ≠ i)->A0 i q = none
 | [],q,h,i,_=>by unfold WT at h;subst h;rfl
 | (j,o) :: l,q,h,i,hi=>by
  have ih:=fun q' (h':WT A l q')=>WT.keys h' i fun p hp=>hi p (by simp [hp])
  unfold WT at h;split at h
  . obtain ⟨y,q',rfl,h'⟩:=h
    rw [Az (hi (j,o) (by simp))]
    exact ih q' h'
  . split at h
    . obtain ⟨y,q',rfl,h'⟩:=h
      rw [Az (hi (j,o) (by simp))]
      exact ih q' h'
    . exact ih q h
theorem Fk.congr {K:Ak} {A:List (Nat × OA)} {q q':List (Nat × RV)}:∀ {l:List (Nat × Oper)} {s s':St3},(∀ p ∈ l,A0 p.1 q = A0 p.1 q')->Fk T K A q l s s'->Fk T K A q' l s s'
 | [],_,_,_,h=>h
 | (i,o) :: l,s,s',hq,h=>by
  obtain ⟨av,s1,h1,h2,h3⟩:=h
  exact ⟨av,s1,by rw [<- hq (i,o) (by simp)];exact h1,h2,Fk.congr (fun p hp=>hq p (by simp [hp])) h3⟩
theorem Ai6 {l:List (Nat × Sh)} {s:St3} {k:St3->Option α} {r:α} (h:Hf l s k = some r):∃ s',E6 l s = some (true,s') /\ k s' = some r:=by
 induction l generalizing s with
 | nil=>exact ⟨s,rfl,h⟩
 | cons p l ih =>
  obtain ⟨t,sh⟩:=p;simp only [Hf] at h;split at h
  . rename_i g s1 h1
    cases g with
    | false=>cases h
    | true =>
     obtain ⟨s2,h2,h3⟩:=ih h
     exact ⟨s2,by simp only [E6,h1,h2,ZD],h3⟩
  . cases h
theorem A3u {K:Ak} {ops:List Oper} {A:List (Nat × OA)}:∀ (l:List (Nat × Oper)) (s:St3) (k:St3->Option α) (r:α),(l.map (·.1)).Nodup->(∀ p ∈ l,p.2.guard = none)->(∀ p ∈ l,(OA.at A p.1).two = false) ->
  Hg T K ops A l s k = some r->∃ q s',WT A l q /\ k s' = some r /\ Fk T K A q l s s'
 | [],s,k,r,_,_,_,h=>⟨[],s,rfl,h,rfl⟩
 | (i,o) :: l,s,k,r,hn,hg,hx,h=>by
  simp only [QX,YV] at hn
  have hni:∀ p ∈ l,p.1 ≠ i:=fun p hp e=>hn.1 (by rw [<- e];exact ZS.2 ⟨p,hp,rfl⟩)
  simp only [Hg] at h;obtain ⟨s0,h0,h⟩:=Ai6 h
  have hgo:o.guard = none:=hg (i,o) (by simp)
  unfold V5 at h;rw [hgo] at h;simp only at h
  have ih:=fun s1 h'=>A3u (K:=K) (ops:=ops) (A:=A) l s1 k r hn.2 (fun p hp=>hg p (by simp [hp])) (fun p hp=>hx p (by simp [hp])) h'
  obtain ⟨hxi,hal,hbo,hsh⟩:=OA.two_false (hx (i,o) (by simp))
  unfold Qn P7 at h;simp only [OA.at] at hal hbo hsh;simp only [hal,hbo,hsh,Ahl] at h
  cases hent:(OA.at A i).ent with
  | some E =>
   have hB:(OA.at A i).entB = none:=by
    cases e:(OA.at A i).entB with
    | none=>rfl
    | some F=>rw [hent,e] at hxi;cases hxi
   simp only [OA.at] at hent hB;simp only [hent,hB] at h;split at h
   . rename_i g x hc
     cases g with
     | false=>cases h
     | true =>
      simp only [cond,ob] at h;split at h
      . rename_i y hm;split at h
        . rename_i s1 hp;obtain ⟨q,s',w1,w2,w3⟩:=ih s1 h;refine ⟨(i,.sv (Al E.rs y)) :: q,s',?_,w2,?_⟩
          . unfold WT;simp only [OA.at,hent];exact ⟨y,q,rfl,w1⟩
          . refine ⟨.im E x (Al E.rs y),s1,?_,⟨y,hm,rfl⟩,Fk.congr (fun p hp=>(Az (hni p hp).symm).symm) w3⟩;rw [Be];simp only [Dk,OA.at,h0,hent,hc,hp,ZD]
        . cases h
      . cases h
   . cases h
  | none =>
   cases hB:(OA.at A i).entB with
   | some F =>
    simp only [OA.at] at hent hB;simp only [hent,hB] at h;unfold P6 at h;split at h
    . rename_i g x bor qn hc
      cases g with
      | false=>cases h
      | true =>
       simp only [cond] at h;split at h
       . rename_i z hm
         have hall:∀ (fs:List (List PK)) (zz:HF (Am 1000 F.ts) fs),A8w (Am 1000 F.ts) fs zz (fun _ _=>True):=by
          intro fs
          induction fs with
          | nil=>intro _;trivial
          | cons f fs ih2 =>
           intro zz
           cases fs with
           | nil=>trivial
           | cons f2 fs=>cases zz with
            | inl a=>trivial
            | inr b=>exact ih2 b
         have key:∀ (fs:List (List PK)) (zz:HF (Am 1000 F.ts) fs),(Ir (Am 1000 F.ts) fs zz fun rs y=>onB K ⟨F.f,F.ts,rs⟩ ((A0 i A).getD {}).hb o s0 x bor qn y fun s2=>Hg T K ops A l s2 k) = some r ->
           ∃ s1,(Ir (Am 1000 F.ts) fs zz fun rs y =>
            bif Fw ⟨F.f,F.ts,rs⟩ ((A0 i A).getD {}).hb s0 x bor qn y then (match (B4 ⟨F.f,F.ts,rs⟩ ((A0 i A).getD {}).hb s0 qn y).2.put3 K o.dst (B4 ⟨F.f,F.ts,rs⟩ ((A0 i A).getD {}).hb s0 qn y).1 with
             | some s'=>some (true && (true && Fi (Ay ⟨F.f,F.ts,rs⟩ y) s0.boxes (D6 ⟨F.f,F.ts,rs⟩ (I4 ⟨F.f,F.ts,rs⟩ ((A0 i A).getD {}).hb qn)) qn),AV.bx F x z,s')
             | none=>none) else none) = some (true,.bx F x z,s1) /\ Hg T K ops A l s1 k = some r:=by
          intro fs
          induction fs with
          | nil=>intro _ h;cases h
          | cons f fs ih2 =>
           have one:∀ (y:HR f (Am 1000 F.ts)),(onB K ⟨F.f,F.ts,f⟩ ((A0 i A).getD {}).hb o s0 x bor qn y fun s2=>Hg T K ops A l s2 k) = some r ->
             ∃ s1,(bif Fw ⟨F.f,F.ts,f⟩ ((A0 i A).getD {}).hb s0 x bor qn y then (match (B4 ⟨F.f,F.ts,f⟩ ((A0 i A).getD {}).hb s0 qn y).2.put3 K o.dst (B4 ⟨F.f,F.ts,f⟩ ((A0 i A).getD {}).hb s0 qn y).1 with
             | some s'=>some (true && (true && Fi (Ay ⟨F.f,F.ts,f⟩ y) s0.boxes (D6 ⟨F.f,F.ts,f⟩ (I4 ⟨F.f,F.ts,f⟩ ((A0 i A).getD {}).hb qn)) qn),AV.bx F x z,s')
             | none=>none) else none) = some (true,.bx F x z,s1) /\ Hg T K ops A l s1 k = some r:=by
            intro y h;unfold onB at h
            cases hck:Fw ⟨F.f,F.ts,f⟩ ((A0 i A).getD {}).hb s0 x bor qn y with
            | false=>rw [hck] at h;cases h
            | true =>
             rw [hck] at h;simp only [cond] at h
             cases hl:Fi (Ay ⟨F.f,F.ts,f⟩ y) s0.boxes (D6 ⟨F.f,F.ts,f⟩ (I4 ⟨F.f,F.ts,f⟩ ((A0 i A).getD {}).hb qn)) qn with
             | false=>rw [hl] at h;cases h
             | true =>
              rw [hl] at h;simp only at h;split at h
              . rename_i s1 hp;refine ⟨s1,?_,h⟩;simp only [cond,hp,ZD]
              . cases h
           cases fs with
           | nil=>exact one
           | cons f2 fs =>
            intro zz h
            cases zz with
            | inl a=>exact one a h
            | inr b=>exact ih2 b h
         obtain ⟨s1,k1,k2⟩:=key F.forms z h;obtain ⟨q,s',w1,w2,w3⟩:=ih s1 k2;refine ⟨(i,.bx F z) :: q,s',?_,w2,?_⟩
         . unfold WT;simp only [OA.at,hent,hB];exact ⟨z,q,rfl,w1⟩
         . refine ⟨.bx F x z,s1,?_,hm,Fk.congr (fun p hp=>(Az (hni p hp).symm).symm) w3⟩;rw [Be];simp only [Dk,OA.at,h0,hent,hB,hc];exact k1
       . cases h
    . cases h
   | none =>
    simp only [OA.at] at hent hB;simp only [hent,hB] at h;split at h
    . rename_i gr s2 hr
      cases gr with
      | false=>cases h
      | true =>
       simp only [cond] at h;obtain ⟨q,s',w1,w2,w3⟩:=ih s2 h;refine ⟨q,s',?_,w2,?_⟩
       . unfold WT;simp only [OA.at,hent,hB];exact w1
       . refine ⟨.none,s2,?_,trivial,w3⟩;have hnone:A0 i q = none:=WT.keys w1 i hni;rw [hnone];simp only [Dk,OA.at,h0,hent,hB,hr,ZD]
    . cases h
def A5r (o:Oper) (L:Nat):Bool:=o.after.toList.all fun e=>!Region.binds .any e || L.testBit e.on
def Ln:List (Nat × Oper)->List Nat->List Nat
 | [],D=>D
 | (i,o) :: l,D=>Ln l (D ++ (D.filter (A5r o)).map fun L=>L ||| 1 <<< i)
def rdy (l:List (Nat × Oper)) (L:Nat):List (Nat × Oper):=l.filter fun p=>!L.testBit p.1 && A5r p.2 L
def Iw (T:Ty) (K:Ak) (A:List (Nat × OA)) (l:List (Nat × Oper)) (s:St3) (q:List (Nat × RV)):Prop :=
 (Ln l [0]).map (fun L=>(rdy l L).map fun p=>Dk T K (OA.at A p.1) (A0 p.1 q) p.2 (S3 T K A q L l s)) =
 (Ln l [0]).map (fun L=>(rdy l L).map fun p=>(Dk T K (OA.at A p.1) (A0 p.1 q) p.2 (S3 T K A q (2 ^ p.1 - 1) l s)).map fun r=>(r.1,r.2.1,S3 T K A q (L ||| 1 <<< p.1) l s))
theorem Iw.mk {K:Ak} {A:List (Nat × OA)} {l:List (Nat × Oper)} {s:St3} {q:List (Nat × RV)}
  (h:(Ln l [0]).map (fun L=>(rdy l L).map fun p=>Dk T K (OA.at A p.1) (A0 p.1 q) p.2 (S3 T K A q L l s)) =
   (Ln l [0]).map (fun L=>(rdy l L).map fun p=>(Dk T K (OA.at A p.1) (A0 p.1 q) p.2 (S3 T K A q (2 ^ p.1 - 1) l s)).map fun r=>(r.1,r.2.1,S3 T K A q (L ||| 1 <<< p.1) l s))):Iw T K A l s q:=h
def Ar9 (A:List (Nat × OA)) (l:List (Nat × Oper)):Bool :=
 l.all fun p=>(match p.2.guard with | none=>true | some _=>false) && p.2.after.toList.all (fun e=>!Region.binds .any e || Nat.blt e.on p.1) && !(OA.at A p.1).two
theorem A3w (L i:Nat):(L.testBit i = true->L % 2 ^ (i + 1) = L % 2 ^ i ||| 1 <<< i) /\ (L.testBit i = false->L % 2 ^ (i + 1) = L % 2 ^ i):=by
 constructor
 . intro h;refine KK fun j=>?_;rw [KA,Qad,KA,KP];by_cases e:j = i
   . subst e;simp [h]
   . by_cases h1:j < i
     . have h2:j < i + 1:=by omega
       have h3:¬ i <= j:=by omega
       simp [h1,h2,h3]
     . have h2:¬ j < i + 1:=by omega
       obtain ⟨d,hd⟩:∃ d,j - i = d + 1:=⟨j - i - 1,by omega⟩
       simp [h1,h2,hd,JO]
 . intro h;refine KK fun j=>?_;rw [KA,KA];by_cases e:j = i
   . subst e;simp [h]
   . by_cases h1:j < i
     . have h2:j < i + 1:=by omega
       simp [h1,h2]
     . have h2:¬ j < i + 1:=by omega
       simp [h1,h2]
theorem A9a {L:Nat}:∀ (l:List (Nat × Oper)) (i:Nat) (D:List Nat),(∀ k p,l[k]? = some p->p.1 = i + k /\ (∀ e ∈ p.2.after,Region.binds .any e = true->e.on < p.1) /\ (L.testBit p.1 = true->∀ e ∈ p.2.after,Region.binds .any e = true->L.testBit e.on = true)) ->
  L % 2 ^ i ∈ D->L % 2 ^ (i + l.length) ∈ Ln l D
 | [],i,D,_,h=>by simpa [Ln] using h
 | (j,o) :: l,i,D,hl,h=>by
  obtain ⟨h1,h2,h3⟩:=hl 0 (j,o) rfl;simp only [YY] at h1;subst h1;simp only [Ln,QU]
  rw [show j + (l.length + 1) = j + 1 + l.length by omega]
  refine A9a l (j + 1) _ (fun k p hk=>?_) ?_
  . obtain ⟨a,b⟩:=hl (k + 1) p (by simpa using hk)
    exact ⟨by omega,b⟩
  . cases hb:L.testBit j with
    | false =>
     rw [(A3w L j).2 hb];exact QF.2 (.inl h)
    | true =>
     rw [(A3w L j).1 hb];refine QF.2 (.inr (ZS.2 ⟨_,JW.2 ⟨h,?_⟩,rfl⟩));unfold A5r;refine QM.2 fun e he=>?_
     cases hbe:Region.binds .any e with
     | false=>rfl
     | true =>
      have he':e ∈ o.after:=by simpa using he
      have:=h2 e he' hbe;simp only [KA,this,decide_true,XY,ZO,YJ];exact h3 hb e he' hbe
theorem A65 {K:Ak} {A:List (Nat × OA)} {q:List (Nat × RV)} {L:Nat}:∀ {l:List (Nat × Oper)} {s s':St3},Fk T K A q l s s'->(∀ p ∈ l,L.testBit p.1 = true)->S3 T K A q L l s = s'
 | [],s,s',h,_=>h
 | (i,o) :: l,s,s',h,hL=>by
  obtain ⟨av,s1,h1,_,h3⟩:=h
  simp only [S3,hL (i,o) (by simp),cond,h1]
  exact A65 h3 fun p hp=>hL p (by simp [hp])
theorem M9 {K:Ak} {A:List (Nat × OA)} {q:List (Nat × RV)} {L:Nat}:∀ {l:List (Nat × Oper)} {s:St3},(∀ p ∈ l,L.testBit p.1 = false)->S3 T K A q L l s = s
 | [],s,_=>rfl
 | (i,o) :: l,s,hL=>by
  simp only [S3,hL (i,o) (by simp),cond]
  exact M9 fun p hp=>hL p (by simp [hp])
theorem Fk.at {K:Ak} {A:List (Nat × OA)} {q:List (Nat × RV)} {i0:Nat}:∀ {l:List (Nat × Oper)} {s s':St3} {b:Nat},Fk T K A q l s s'->(∀ k p,l[k]? = some p->p.1 = b + k)->∀ {i:Nat} {o:Oper},i = b + i0->l[i0]? = some (i,o) ->
  ∃ av s1,Dk T K (OA.at A i) (A0 i q) o (S3 T K A q (2 ^ i - 1) l s) = some (true,av,s1) /\ av.ok:=by
 induction i0 with
 | zero =>
  intro l s s' b h hl i o hi ho
  match l,h with
  | [],_=>simp at ho
  | (j,o') :: l,h =>
   simp only [JC,QD,QG] at ho;obtain ⟨rfl,rfl⟩:=ho;obtain ⟨av,s1,h1,h2,_⟩:=h;refine ⟨av,s1,?_,h2⟩;rw [M9 (fun p hp=>?_)]
   . exact h1
   . obtain ⟨k,hk⟩:=YS hp;have:=hl k p hk;rw [ZK];simp only [ZU];omega
 | succ i0 ih =>
  intro l s s' b h hl i o hi ho
  match l,h with
  | [],_=>simp at ho
  | (j,o') :: l,h =>
   obtain ⟨av,s1,h1,_,h3⟩:=h;have hj:=hl 0 (j,o') rfl;simp only [YY] at hj
   obtain ⟨av2,s2,q1,q2⟩:=ih (b:=b + 1) h3 (fun k p hk=>by have:=hl (k + 1) p (by simpa using hk);omega) (i:=i) (o:=o) (by omega) (by simpa using ho)
   refine ⟨av2,s2,?_,q2⟩
   have hb:(2 ^ i - 1).testBit j = true:=by
    rw [ZK];simp only [QR];omega
   simp only [S3,hb,cond,h1];exact q1
theorem WT.bx {A:List (Nat × OA)}:∀ {l:List (Nat × Oper)} {q:List (Nat × RV)},WT A l q->∀ {i:Nat} {E:Ent3} {z:HF (Am 1000 E.ts) E.forms},A0 i q = some (.bx E z)->(OA.at A i).entB = some E
 | [],q,h,i,E,z,hi=>by unfold WT at h;subst h;cases hi
 | (j,o) :: l,q,h,i,E,z,hi=>by
  unfold WT at h;split at h
  . obtain ⟨y,q',rfl,h'⟩:=h;simp only [A0] at hi
    cases hb:Nat.beq j i with
    | true=>rw [hb] at hi;cases hi
    | false=>rw [hb] at hi;exact WT.bx h' hi
  . split at h
    . rename_i F hF;obtain ⟨y,q',rfl,h'⟩:=h;simp only [A0] at hi
      cases hb:Nat.beq j i with
      | true =>
       rw [hb] at hi;have:=QC hb;subst this;simp only [cond,QD,RV.bx.injEq] at hi;obtain ⟨rfl,_⟩:=hi;exact hF
      | false=>rw [hb] at hi;exact WT.bx h' hi
    . exact WT.bx h hi
theorem A3m {l:List Oper} {k:Nat} {p:Nat × Oper} (h:(A8 l)[k]? = some p):p.1 = 0 + k:=by
 rw [XS];exact (Cl h).1
end Go.Ev

/- DERIVED. Regions that draw their order: what an operation does hangs on what it names, and on the boxes. -/
namespace Go.Ev
open Go
variable {P:Program} {T:Ty} {α:Type}
def I7 (o:Oper):Option (List Operand):=match o.op with
 | .move x=>some [x]
 | .assign x=>some [x]
 | .pick c a b=>some [c,a,b]
 | .load _ a=>some [a]
 | .nilCheck x=>some [x]
 | .binOp _ _ x y _=>some [x,y]
 | .unOp _ _ x=>some [x]
 | .convert _ _ x=>some [x]
 | .fieldAddr _ x _=>some [x]
 | .indexAddr _ x i=>some [x,i]
 | .extract x _=>some [x]
 | .store _ a x=>some [a,x]
 | .alloc _=>some []
 | .box _ x=>some [x]
 | .call c=>match c.callee with
  | .value f=>some (f :: c.args.toList)
  | .builtin .len=>some c.args.toList
  | .builtin .max=>some c.args.toList
  | .builtin .min=>some c.args.toList
  | _=>none
 | .slice _ x lo hi none=>some (x :: (lo.toList ++ hi.toList))
 | .build _ ps=>some (ps.toList.map (·.2))
 | .buildSlice _ _ ps=>some (ps.toList.map (·.2))
 | _=>none
theorem L3 {s s2:St3}:∀ {l:List Operand},(∀ x ∈ l,s.val x = s2.val x)->l.map s.val = l.map s2.val
 | [],_=>rfl
 | x :: l,h=>by rw [QX,QX,h x (by simp),L3 fun y hy=>h y (by simp [hy])]
theorem Tw {s s2:St3}:∀ {o:Option Operand},(∀ x ∈ o.toList,s.val x = s2.val x)->o.map s.val = o.map s2.val
 | none,_=>rfl
 | some x,h=>by rw [QP,QP,h x (by simp)]
theorem Ur {s s2:St3} {ps:Array (Nat × Operand)} (h:∀ x ∈ ps.toList.map (·.2),s.val x = s2.val x):D4 s ps = D4 s2 ps:=by
 unfold D4
 exact ZE fun p hp=>by rw [h p.2 (ZS.2 ⟨p,hp,rfl⟩)]
theorem Aj1 {hint:Option Sh} {o:Oper} {xs:List Operand} {s s2:St3} (hq:I7 o = some xs) (hx:∀ x ∈ xs,s.val x = s2.val x) (hb:s.boxes = s2.boxes):K4 T hint o s = K4 T hint o s2:=by
 unfold I7 at hq;unfold K4;split at hq
 case h_15 c e =>
  rw [e];dsimp only;split at hq
  . rename_i f hc;rw [hc]
  . rename_i hc;rw [hc];obtain rfl:=QA hq;dsimp only;split
    . rename_i x t h1 h2
      rw [hx x (by rw [h1];simp),hb]
    . rfl
  . rename_i hc;rw [hc];obtain rfl:=QA hq;dsimp only;split
    . rename_i x y h1
      rw [hx x (by rw [h1];simp),hx y (by rw [h1];simp)]
    . rfl
  . rename_i hc;rw [hc];obtain rfl:=QA hq;dsimp only;split
    . rename_i x y h1
      rw [hx x (by rw [h1];simp),hx y (by rw [h1];simp)]
    . rfl
  . cases hq
 case h_2 x e =>
  obtain rfl:=QA hq;rw [e]
  cases x with
  | tmp t =>
   show Ha (s.val (.tmp t)) = Ha (s2.val (.tmp t))
   rw [hx _ (by simp)]
  | const v=>cases v <;> first | rfl | (rename_i a;cases a <;> rfl)
  | func f=>rfl
  | global g=>rfl
 case h_16 t x lo hi e =>
  obtain rfl:=QA hq;rw [e];dsimp only
  rw [hx x (by simp),Tw (o:=lo) fun y hy=>hx y (by simp [hy]),Tw (o:=hi) fun y hy=>hx y (by simp [hy]),hb]
 case h_17 t ps e =>
  obtain rfl:=QA hq;rw [e];dsimp only;rw [Ur hx]
 case h_18 t n ps e =>
  obtain rfl:=QA hq;rw [e];dsimp only;rw [Ur hx]
 all_goals first
  | (cases hq;done)
  | (rename_i e
     obtain rfl:=QA hq;simp only [QT,YE,or_false,forall_eq_or_imp,forall_eq] at hx
     first
      | (rw [e];done)
      | (rw [e];simp only [hx,hb]))
theorem Aj4 {E:Ent} {o:Oper} {xs:List Operand} {s s2:St3} (hq:I7 o = some xs) (hx:∀ x ∈ xs,s.val x = s2.val x) (hb:s.boxes = s2.boxes):Ok E o s = Ok E o s2:=by
 unfold I7 at hq;unfold Ok;split at hq
 case h_15 c e =>
  rw [e];dsimp only;split at hq
  . rename_i f hc;rw [hc];obtain rfl:=QA hq;dsimp only
    rw [hx f (by simp),L3 (s:=s) (s2:=s2) (l:=c.args.toList) (fun y hy=>hx y (by simp [hy])),hb]
  . rename_i hc;rw [hc]
  . rename_i hc;rw [hc]
  . rename_i hc;rw [hc]
  . cases hq
 all_goals first
  | (cases hq;done)
  | (rename_i e;rw [e])
theorem Ahd {f0:Nat} {ts:List PK} {o:Oper} {xs:List Operand} {s s2:St3} (hq:I7 o = some xs) (hx:∀ x ∈ xs,s.val x = s2.val x) (hb:s.boxes = s2.boxes):Is f0 ts o s = Is f0 ts o s2:=by
 unfold I7 at hq;unfold Is;split at hq
 case h_15 c e =>
  rw [e];dsimp only;split at hq
  . rename_i f hc;rw [hc];obtain rfl:=QA hq;dsimp only
    rw [hx f (by simp),L3 (s:=s) (s2:=s2) (l:=c.args.toList) (fun y hy=>hx y (by simp [hy])),hb]
  . rename_i hc;rw [hc]
  . rename_i hc;rw [hc]
  . rename_i hc;rw [hc]
  . cases hq
 all_goals first
  | (cases hq;done)
  | (rename_i e;rw [e])
def B12 (A:OA) (E:Ent3) (bs:List (Nat × B3)) (g:Bool) (x:HP E.ts) (bor:List Nat) (q:List (Nat × Nat)) (z:HF (Am 1000 E.ts) E.forms):Option (Bool × AV × SV × E3) :=
 Ir (Am 1000 E.ts) E.forms z fun rs y =>
  bif (rs.flatMap PK.backs).isEmpty && (Xc rs).isEmpty && Fw ⟨E.f,E.ts,rs⟩ A.hb ⟨[],bs⟩ x bor q y then (match Ay ⟨E.f,E.ts,rs⟩ y,q with
   | [(_,b)],[(_,h)]=>some (true && (g && Fi (Ay ⟨E.f,E.ts,rs⟩ y) bs [] q),.bx E x z,(B4 ⟨E.f,E.ts,rs⟩ A.hb ⟨[],bs⟩ q y).1,.set h b)
   | _,_=>none) else none
theorem Zs {α:Type} {os:List (Nat × CK)}:∀ {fs:List (List PK)} {z:HF os fs} {k:(rs:List PK)->HR rs os->Option α} {r:α},Ir os fs z k = some r->∃ rs y,k rs y = some r /\ ∀ {β:Type} (k':(rs:List PK)->HR rs os->Option β),Ir os fs z k' = k' rs y
 | [],_,_,_,h=>by cases h
 | [rs],y,k,r,h=>⟨rs,y,h,fun _=>rfl⟩
 | rs :: r0 :: q,.inl y,k,r,h=>⟨rs,y,h,fun _=>rfl⟩
 | rs :: r0 :: q,.inr z,k,r,h=>by
  obtain ⟨rs',y,h1,h2⟩:=Zs (fs:=r0 :: q) (z:=z) (k:=k) h;exact ⟨rs',y,h1,fun k'=>h2 k'⟩
theorem Ajo {f:SV->SV} (h:∀ x,f x = x):∀ l:List (Nat × SV),Ag f l = l
 | []=>rfl
 | (i,x) :: r=>by
  have ih:=Ajo h r;simp only [Ag,QX,h] at ih ⊢;rw [ih]
def Ow (T:Ty) (A:OA) (rv:Option RV) (o:Oper) (s:St3):Option (Bool × AV × SV × E3) :=
 match A.fz,A.entB,A.ent,A.tr with
 | [],none,some E,_=>match rv with
  | some (.sv y)=>match Ok E o s with
   | some (g,x)=>some (true && g,.im E x y,y,.none)
   | none=>none
  | _=>none
 | [],none,none,none=>match K4 T A.sh o s with
  | some r=>some (true && r.g,.none,r.val,r.eff)
  | none=>none
 | [],some _,none,_=>match rv with
  | some (.bx E z)=>match Is E.f E.ts o s with
   | some (g,x,bor,q)=>B12 A E s.boxes g x bor q z
   | none=>none
  | _=>none
 | _,_,_,_=>none
theorem Ap9 {A:OA} {rv:Option RV} {o:Oper} {xs:List Operand} {s s2:St3} (hq:I7 o = some xs) (hx:∀ x ∈ xs,s.val x = s2.val x) (hb:s.boxes = s2.boxes):Ow T A rv o s = Ow T A rv o s2:=by
 unfold Ow;rw [Aj1 hq hx hb];split
 . rw [Aj4 hq hx hb]
 . rfl
 . split
   . rw [Ahd hq hx hb,hb]
   . rfl
 . rfl
theorem A91 {K:Ak} {A:OA} {rv:Option RV} {o:Oper} {s:St3} {g:Bool} {av:AV} {x:SV} {e:E3} (h:Ow T A rv o s = some (g,av,x,e)) :
  Dk T K A rv o s = (s.eff3 K o.dst e).bind fun s1=>(s1.put3 K o.dst x).map fun s'=>(g,av,s'):=by
 unfold Ow at h;unfold Dk;split at h
 . rename_i h1 h2 h3;rw [h1,h3];simp only [E6];split at h
   . rename_i y;split at h
     . rename_i g' x' hc;simp only [QD,QG] at h;obtain ⟨rfl,rfl,rfl,rfl⟩:=h;try rw [hc]
       simp only [St3.eff3,YA]
       cases s.put3 K o.dst y <;> rfl
     . cases h
   . cases h
 . rename_i h0 h1 h2 h3;rw [h0,h1,h2];simp only [E6];unfold Yy;rw [h3];split at h
   . rename_i r hc;try rw [hc]
     simp only [QD,QG] at h;obtain ⟨rfl,rfl,rfl,rfl⟩:=h;dsimp only
     cases s.eff3 K o.dst r.eff with
     | none=>rfl
     | some s1 =>
      simp only [YA]
      cases s1.put3 K o.dst r.val <;> rfl
   . cases h
 . rename_i EB h0 h1 h2;rw [h0,h1,h2];simp only [E6];split at h
   . rename_i E z;split at h
     . rename_i g' x' bor q hc;unfold B12 at h;obtain ⟨rs,y,e1,e2⟩:=Zs h;simp only [hc,e2]
       cases hk:(rs.flatMap PK.backs).isEmpty with
       | false=>rw [hk] at e1;cases e1
       | true =>
        cases hk2:(Xc rs).isEmpty with
        | false=>rw [hk,hk2] at e1;cases e1
        | true =>
         have b1:rs.flatMap PK.backs = []:=YF.1 hk;have b2:Xc rs = []:=YF.1 hk2
         have b3:I4 ⟨E.f,E.ts,rs⟩ A.hb q = q:=by simp only [I4,b2];rfl
         have b4:∀ rn,D6 ⟨E.f,E.ts,rs⟩ rn = []:=fun rn=>by simp only [D6,b1];rfl
         have b5:Fw ⟨E.f,E.ts,rs⟩ A.hb s x' bor q y = Fw ⟨E.f,E.ts,rs⟩ A.hb ⟨[],s.boxes⟩ x' bor q y:=by
          simp only [Fw,b2,Qas]
         rw [hk,hk2,XY,XY] at e1;rw [b5]
         cases hck:Fw ⟨E.f,E.ts,rs⟩ A.hb ⟨[],s.boxes⟩ x' bor q y with
         | false=>rw [hck] at e1;cases e1
         | true =>
          rw [hck] at e1;simp only [cond] at e1 ⊢;split at e1
          . rename_i k1 b k2 hh he;simp only [QD,QG] at e1;obtain ⟨rfl,rfl,rfl,rfl⟩:=e1
            have b6:(B4 ⟨E.f,E.ts,rs⟩ A.hb s [(k2,hh)] y) = ((B4 ⟨E.f,E.ts,rs⟩ A.hb ⟨[],s.boxes⟩ [(k2,hh)] y).1,⟨s.slots,Ah hh b s.boxes⟩):=by
             unfold B4;rw [b4,b3,he];simp only [List.any_nil,cond,V3];rw [Ajo fun _=>rfl]
            rw [b6,b3,b4];simp only [St3.eff3,YA]
            cases St3.put3 K _ o.dst _ <;> rfl
          . cases e1
     . cases h
   . cases h
 . cases h
theorem Ja {β:Type} (k i:Nat) (x z:β) (l:List (Nat × β)):Ah k x ((i,z) :: l) = if k < i then (k,x) :: (i,z) :: l else if i = k then (k,x) :: l else (i,z) :: Ah k x l:=by
 have bl:Nat.blt k i = decide (k < i):=by
  cases e:Nat.blt k i with
  | true=>rw [ZQ] at e;simp [e]
  | false =>
   have:¬ k < i:=fun hh=>by rw [<- ZQ] at hh;rw [hh] at e;cases e
   simp [this]
 have be:Nat.beq i k = decide (i = k):=by
  cases e:Nat.beq i k with
  | true=>simp [QC e]
  | false =>
   have:i ≠ k:=fun hh=>by subst hh;simp at e
   simp [this]
 simp only [Ah,bl,be,QJ]
theorem A0b {β:Type} {k j:Nat} (x y:β) (h:k ≠ j):∀ l:List (Nat × β),Ah k x (Ah j y l) = Ah j y (Ah k x l)
 | []=>by
  have e:∀ (a:Nat) (b:β),Ah a b [] = [(a,b)]:=fun _ _=>rfl;rw [e,e,Ja,Ja,e,e];grind
 | (i,z) :: l=>by
  have ih:=A0b x y h l;rw [Ja,Ja];by_cases h2:j < i <;> by_cases h4:i = j <;> by_cases h1:k < i <;> by_cases h3:i = k <;> simp only [h1,h2,h3,h4,if_true,if_false,Ja] <;> grind [Ja]
end Go.Ev

/- DERIVED. Regions that draw their order: a light check, one A0 at each operation for each set of operations with effects. -/
namespace Go.Ev
open Go
variable {P:Program} {T:Ty} {α:Type}
structure Dat where
 g:Bool
 av:AV
 x:SV
 e:E3
def T6 (k:Option Tmp) (e:E3) (bs:List (Nat × B3)):List (Nat × B3):=match e with
 | .new b=>match k with
  | some k=>Ah k b bs
  | none=>bs
 | .set h b=>Ah h b bs
 | _=>bs
def Qv (k:Option Tmp) (x:SV) (sl:List (Nat × SV)):List (Nat × SV):=match k with
 | some t=>Ah t x sl
 | none=>sl
def Fz (d:Option Tmp) (D:Dat) (s:St3):St3:=⟨Qv d D.x s.slots,T6 d D.e s.boxes⟩
def okE (d:Option Tmp):E3->Bool
 | .none=>true
 | .new _=>d.isSome
 | .set _ _=>true
 | _=>false
def isE:E3->Bool
 | .none=>false
 | _=>true
def hdl (d:Option Tmp):E3->Option Nat
 | .new _=>d
 | .set h _=>some h
 | _=>none
def Add (k:Nat):E3->Bool
 | .new b=>b.men k
 | .set _ b=>b.men k
 | _=>false
def eqO:Option Nat->Option Nat->Bool
 | some a,some b=>Nat.beq a b
 | _,_=>false
theorem Wv {a b:Option Nat} (h:eqO a b = false):∀ t,a = some t->b ≠ some t:=by
 rintro t rfl rfl
 simp [eqO] at h
abbrev F1:=List (Nat × Option Tmp × Dat)
def SL (L:Nat):F1->St3->St3
 | [],s=>s
 | (i,d,D) :: r,s=>SL L r (bif L.testBit i then Fz d D s else s)
def Un (T:Ty) (A:List (Nat × OA)) (q:List (Nat × RV)):List (Nat × Oper)->St3->Option F1
 | [],_=>some []
 | (i,o) :: l,s=>match Ow T (OA.at A i) (A0 i q) o s with
  | some (g,av,x,e)=>bif okE o.dst e then (match Un T A q l (Fz o.dst ⟨g,av,x,e⟩ s) with
   | some r=>some ((i,o.dst,⟨g,av,x,e⟩) :: r)
   | none=>none) else none
  | none=>none
def T8 (o:Oper) (j:Nat):Bool:=o.after.toList.any fun e=>Region.binds .any e && Nat.beq e.on j
def opT:Operand->Option Nat
 | .tmp t=>some t
 | _=>none
def Aji (D:F1) (i:Nat) (o:Oper):Bool:=match I7 o with
 | none=>false
 | some xs=>xs.all fun x=>D.all fun p=>!eqO (opT x) p.2.1 || (T8 o p.1 && Nat.blt p.1 i)
def X9 (i:Nat):F1->Option Dat
 | []=>none
 | (j,_,D) :: r=>bif Nat.beq j i then some D else X9 i r
def B0f (K:Ak) (l:List (Nat × Oper)) (D:F1) (s:St3) (p:Nat × Oper):Bool :=
 Aji D p.1 p.2 && (match p.2.dst with
  | some t=>Nat.blt t K.N
  | none=>true) && (match X9 p.1 D with
  | some Di=>D.all (fun r=>Nat.beq r.1 p.1 || (!eqO p.2.dst r.2.1 && (!eqO (hdl p.2.dst Di.e) (hdl r.2.1 r.2.2.e) || (match A0 r.1 l with
    | some o=>T8 o p.1 || T8 p.2 r.1
    | none=>false)))) && (match Di.e with
   | .new _=>match p.2.dst with
    | some k=>(A0 k s.boxes).isNone && Nat.blt k 1000 && s.clean k && D.all (fun r=>Nat.beq r.1 p.1 || (!eqO (some k) (hdl r.2.1 r.2.2.e) && !r.2.2.x.men k && !Add k r.2.2.e) || (match A0 r.1 l with
     | some o=>T8 o p.1
     | none=>false))
    | none=>false
   | _=>true)
  | none=>false)
def Bbc (K:Ak) (l:List (Nat × Oper)) (D:F1) (s:St3):Bool:=l.all (B0f K l D s)
def A3n:List Nat->List Nat
 | []=>[0]
 | e :: r=>A3n r ++ (A3n r).map (· ||| 1 <<< e)
theorem Aci (L:Nat):∀ E:List Nat,∃ m ∈ A3n E,∀ x,m.testBit x = (E.any (Nat.beq x) && L.testBit x)
 | []=>⟨0,by simp [A3n],fun x=>by simp⟩
 | e :: r=>by
  obtain ⟨m,hm,h⟩:=Aci L r
  cases hb:L.testBit e with
  | true =>
   refine ⟨m ||| 1 <<< e,QF.2 (.inr (ZS.2 ⟨m,hm,rfl⟩)),fun x=>?_⟩;rw [Qad,h];by_cases c:x = e
   . subst c;simp [hb]
   . have e1 : (1 <<< e).testBit x = false := by
      rw [KP];by_cases c2:e <= x
      . obtain ⟨d,hd⟩:∃ d,x - e = d + 1:=⟨x - e - 1,by omega⟩
        rw [hd];simp [JO]
      . simp [c2]
     have e2:Nat.beq x e = false:=by cases e3:Nat.beq x e with | false=>rfl | true=>exact absurd (QC e3) c
     rw [e1,KM,e2,Qai,YJ]
  | false =>
   refine ⟨m,QF.2 (.inl hm),fun x=>?_⟩;rw [h,KM];by_cases c:x = e
   . subst c;simp [hb]
   . have e2:Nat.beq x e = false:=by cases e3:Nat.beq x e with | false=>rfl | true=>exact absurd (QC e3) c
     rw [e2,YJ]
def Wx (D:F1):List Nat:=(D.filter fun p=>isE p.2.2.e).map (·.1)
def A8p (acc:List (Nat × Nat)):List Go.Edge->Nat
 | []=>0
 | e :: r=>bif Region.binds .any e then A8p acc r ||| 1 <<< e.on ||| (A0 e.on acc).getD 0 else A8p acc r
def A3h:List (Nat × Oper)->List (Nat × Nat)->List (Nat × Nat)
 | [],acc=>acc
 | (i,o) :: l,acc=>A3h l ((i,A8p acc o.after.toList) :: acc)
def Am9 (l:List (Nat × Oper)) (D:F1) (p:Nat × Oper):List Nat :=
 (A3n (Wx D)).filter fun m=>!m.testBit p.1 && ((A3h l []).all fun r=>!(m.testBit r.1 && r.2.testBit p.1) && (!(Nat.beq r.1 p.1 || m.testBit r.1) || (Wx D).all (fun k=>!r.2.testBit k || m.testBit k)))
theorem Alj {L:Nat} {acc:List (Nat × Nat)} (ha:∀ j m,A0 j acc = some m->L.testBit j = true->∀ k,m.testBit k = true->L.testBit k = true):∀ {es:List Go.Edge},(∀ e ∈ es,Region.binds .any e = true->L.testBit e.on = true)->∀ k,(A8p acc es).testBit k = true->L.testBit k = true
 | [],_,k,h=>by simp [A8p] at h
 | e :: r,he,k,h=>by
  simp only [A8p] at h
  have ih:=Alj ha (es:=r) (fun e h=>he e (by simp [h])) k
  cases hb:Region.binds .any e with
  | false=>rw [hb] at h;exact ih h
  | true =>
   rw [hb] at h
   have hL:=he e (by simp) hb
   simp only [cond,Qad,XL] at h;rcases h with (h | h) | h
   . exact ih h
   . rw [KP] at h
     have:k = e.on:=by
      rcases JI k e.on with c | c | c
      . have:¬ k >= e.on:=by omega
        simp [this] at h
      . exact c
      . obtain ⟨d,hd⟩:∃ d,k - e.on = d + 1:=⟨k - e.on - 1,by omega⟩
        rw [hd] at h;simp [JO] at h
     rw [this];exact hL
   . cases hl:A0 e.on acc with
     | none=>rw [hl] at h;simp at h
     | some m=>rw [hl] at h;exact ha _ m hl hL k h
theorem A8o {L i0:Nat} {l0:List (Nat × Oper)} (hr:∀ p ∈ l0,L.testBit p.1 = true \/ p.1 = i0->∀ e ∈ p.2.after,Region.binds .any e = true->L.testBit e.on = true):∀ {l:List (Nat × Oper)} {acc:List (Nat × Nat)},(∀ p ∈ l,p ∈ l0) ->
  (∀ r ∈ acc,L.testBit r.1 = true \/ r.1 = i0->∀ k,r.2.testBit k = true->L.testBit k = true)->∀ r ∈ A3h l acc,L.testBit r.1 = true \/ r.1 = i0->∀ k,r.2.testBit k = true->L.testBit k = true
 | [],acc,_,ha,r,h=>ha r h
 | (i,o) :: l,acc,hl,ha,r,h=>by
  refine A8o hr (l:=l) (fun p hp=>hl p (by simp [hp])) (fun r hr'=>?_) r h
  rcases QT.1 hr' with rfl | hr'
  . intro hi k hk
    refine Alj (fun j m hj hL k hk=>ha (j,m) (C4 hj) (.inl hL) k hk) (fun e he hb=>hr (i,o) (hl _ (by simp)) hi e (by simpa using he) hb) k hk
  . exact ha r hr'
abbrev B02:=Option (Bool × AV × SV × E3)
def B9d:Option Dat->B02
 | some D=>some (D.g,D.av,D.x,D.e)
 | none=>none
def Bbb (T:Ty) (A:List (Nat × OA)) (q:List (Nat × RV)) (l:List (Nat × Oper)) (D:F1) (s:St3):List (List B02) :=
 l.map fun p=>(Am9 l D p).map fun m=>Ow T (OA.at A p.1) (A0 p.1 q) p.2 ⟨(SL (2 ^ p.1 - 1) D s).slots,(SL m D s).boxes⟩
def Bba (l:List (Nat × Oper)) (D:F1):List (List B02) :=
 l.map fun p=>(Am9 l D p).map fun _=>B9d (X9 p.1 D)
def B5p (m:Nat) (l:List (Nat × Oper)):Bool:=(A3h l []).all fun r=>Nat.blt r.1 m || (List.range r.1).all fun k=>r.2.testBit k
def Aln (T:Ty) (K:Ak) (A:List (Nat × OA)) (l:List (Nat × Oper)) (s:St3) (q:List (Nat × RV)):Prop :=
 ∃ m,B5p m l = true /\ (match Un T A q (l.take m) s with
  | some D=>Bbc K (l.take m) D s
  | none=>false) = true /\ Bbb T A q (l.take m) ((Un T A q (l.take m) s).getD []) s = Bba (l.take m) ((Un T A q (l.take m) s).getD [])
theorem Avq {d d':Option Tmp} {e e':E3} (h:∀ t,hdl d e = some t->hdl d' e' ≠ some t) (bs:List (Nat × B3)):T6 d e (T6 d' e' bs) = T6 d' e' (T6 d e bs):=by
 cases e <;> cases e' <;> first | rfl | skip;all_goals cases d <;> cases d' <;> first | rfl | skip
 all_goals (simp only [T6];first | rfl | (refine A0b _ _ (fun c=>?_) _;subst c;exact h _ rfl rfl))
theorem Aqd {d d':Option Tmp} {x x':SV} (h:∀ t,d = some t->d' ≠ some t) (sl:List (Nat × SV)):Qv d x (Qv d' x' sl) = Qv d' x' (Qv d x sl):=by
 cases d <;> cases d' <;> first | rfl | skip;simp only [Qv];refine A0b _ _ (fun c=>?_) _;subst c;exact h _ rfl rfl
theorem Aw8 {d d':Option Tmp} {D D':Dat} (h1:∀ t,d = some t->d' ≠ some t) (h2:∀ t,hdl d D.e = some t->hdl d' D'.e ≠ some t) (s:St3):Fz d D (Fz d' D' s) = Fz d' D' (Fz d D s):=by
 simp only [Fz,Aqd h1,Avq h2]
theorem Ahq {L L':Nat}:∀ {D:F1} {s:St3},(∀ p ∈ D,L.testBit p.1 = L'.testBit p.1)->SL L D s = SL L' D s
 | [],_,_=>rfl
 | (i,d,D) :: r,s,h=>by
  simp only [SL,h (i,d,D) (by simp)]
  exact Ahq fun p hp=>h p (by simp [hp])
theorem X2 (L i j:Nat):(L ||| 1 <<< i).testBit j = (L.testBit j || decide (j = i)):=by
 rw [Qad];congr 1;rw [KP];by_cases c:j = i
 . subst c;simp
 . by_cases c2:i <= j
   . obtain ⟨d,hd⟩:∃ d,j - i = d + 1:=⟨j - i - 1,by omega⟩
     rw [hd];simp [JO,c]
   . simp [c2,c]
theorem Awe {L:Nat} {d:Option Tmp} {D0:Dat}:∀ {D:F1} {s:St3},(∀ p ∈ D,L.testBit p.1 = true->(∀ t,d = some t->p.2.1 ≠ some t) /\ (∀ t,hdl d D0.e = some t->hdl p.2.1 p.2.2.e ≠ some t)) ->
  SL L D (Fz d D0 s) = Fz d D0 (SL L D s)
 | [],_,_=>rfl
 | (j,d',D') :: r,s,h=>by
  simp only [SL]
  have ih:=fun s=>Awe (L:=L) (d:=d) (D0:=D0) (D:=r) (s:=s) fun p hp=>h p (by simp [hp])
  cases hb:L.testBit j with
  | false=>simp only [cond];exact ih s
  | true =>
   simp only [cond]
   obtain ⟨h1,h2⟩:=h (j,d',D') (by simp) hb
   rw [<- Aw8 h1 h2,ih]
theorem Awf {L i:Nat} {d:Option Tmp} {D0:Dat}:∀ {D:F1} {s:St3},(D.map (·.1)).Pairwise (· < ·)->(i,d,D0) ∈ D->L.testBit i = false->(∀ p ∈ D,i < p.1->L.testBit p.1 = true->(∀ t,d = some t->p.2.1 ≠ some t) /\ (∀ t,hdl d D0.e = some t->hdl p.2.1 p.2.2.e ≠ some t)) ->
  SL (L ||| 1 <<< i) D s = Fz d D0 (SL L D s)
 | [],_,_,h,_,_=>by simp at h
 | (j,d',D') :: r,s,hn,hm,hb,h=>by
  simp only [QX,List.pairwise_cons] at hn;have hlt:∀ p ∈ r,j < p.1:=fun p hp=>hn.1 p.1 (ZS.2 ⟨p,hp,rfl⟩);rcases QT.1 hm with e | hm
  . simp only [QG] at e;obtain ⟨rfl,rfl,rfl⟩:=e;simp only [SL,hb,X2,decide_true,Bool.or_true,cond]
    rw [Ahq (L':=L) fun p hp=>by rw [X2];have:=hlt p hp;simp [show p.1 ≠ i by omega]]
    exact Awe fun p hp=>h p (by simp [hp]) (hlt p hp)
  . have hne:j ≠ i:=fun c=>by have:=hlt _ hm;simp only at this;omega
    simp only [SL,X2,hne,decide_false,Qai]
    exact Awf hn.2 hm hb fun p hp=>h p (by simp [hp])
theorem Alm {L L' t:Nat}:∀ {D:F1} {s s':St3},A0 t s.slots = A0 t s'.slots->(∀ p ∈ D,p.2.1 = some t->L.testBit p.1 = L'.testBit p.1)->A0 t (SL L D s).slots = A0 t (SL L' D s').slots
 | [],_,_,h,_=>h
 | (i,d,D) :: r,s,s',h,hp=>by
  simp only [SL]
  refine Alm ?_ fun p hq=>hp p (by simp [hq])
  have key:∀ s,d ≠ some t->A0 t (Fz d D s).slots = A0 t s.slots:=fun s hd=>by
   cases d with
   | none=>rfl
   | some u=>exact A9 _ _ fun c=>hd (by rw [c])
  by_cases hd:d = some t
  . rw [hp (i,d,D) (by simp) hd]
    cases L'.testBit i with
    | false=>exact h
    | true=>subst hd;simp only [cond,Fz,Qv,A7]
  . cases L.testBit i <;> cases L'.testBit i <;> simp only [cond,key _ hd,h]
theorem Avp {d:Option Tmp} {e:E3} (h:isE e = false) (bs:List (Nat × B3)):T6 d e bs = bs:=by cases e <;> first | rfl | cases h
theorem Ahs {L L':Nat}:∀ {D:F1} {s s':St3},s.boxes = s'.boxes->(∀ p ∈ D,isE p.2.2.e = true->L.testBit p.1 = L'.testBit p.1)->(SL L D s).boxes = (SL L' D s').boxes
 | [],_,_,h,_=>h
 | (i,d,D) :: r,s,s',h,hp=>by
  simp only [SL]
  refine Ahs ?_ fun p hq=>hp p (by simp [hq])
  cases he:isE D.e with
  | true =>
   rw [hp (i,d,D) (by simp) he]
   cases L'.testBit i <;> simp only [cond,Fz,h]
  | false=>cases L.testBit i <;> cases L'.testBit i <;> simp only [cond,Fz,Avp he,h]
theorem A8q {β:Type} {f:Nat × β->Bool} {k:Nat} {x:β} {l:List (Nat × β)} (h:l.all f = true) (hx:f (k,x) = true):(Ah k x l).all f = true:=by
 refine QM.2 fun p hp=>?_;rcases Qa hp with rfl | hp
 . exact hx
 . exact QM.1 h p hp
theorem Ahr {L k:Nat}:∀ {D:F1} {s:St3},s.clean k = true->(∀ p ∈ D,L.testBit p.1 = true->p.2.2.x.men k = false /\ Add k p.2.2.e = false)->(SL L D s).clean k = true
 | [],_,h,_=>h
 | (i,d,D) :: r,s,h,hp=>by
  simp only [SL]
  refine Ahr ?_ fun p hq=>hp p (by simp [hq])
  cases hb:L.testBit i with
  | false=>exact h
  | true =>
   obtain ⟨h1,h2⟩:=hp (i,d,D) (by simp) hb
   simp only [cond];unfold St3.clean at h ⊢;simp only [QE] at h ⊢;refine ⟨?_,?_⟩
   . cases d with
     | none=>exact h.1
     | some t=>exact A8q h.1 (by simp only at h1;simp [h1])
   . show List.all (T6 d D.e s.boxes) _ = true;simp only at h2
     cases he:D.e with
     | new b =>
      rw [he] at h2
      cases d with
      | none=>exact h.2
      | some t=>exact A8q h.2 (by simp only [Add] at h2;simp [h2])
     | set hh b =>
      rw [he] at h2
      exact A8q h.2 (by simp only [Add] at h2;simp [h2])
     | none=>exact h.2
     | app hh b=>exact h.2
     | frz ks=>exact h.2
theorem Ahp {L k:Nat}:∀ {D:F1} {s:St3},A0 k s.boxes = none->(∀ p ∈ D,L.testBit p.1 = true->hdl p.2.1 p.2.2.e ≠ some k)->A0 k (SL L D s).boxes = none
 | [],_,h,_=>h
 | (i,d,D) :: r,s,h,hp=>by
  simp only [SL]
  refine Ahp ?_ fun p hq=>hp p (by simp [hq])
  cases hb:L.testBit i with
  | false=>exact h
  | true =>
   have h1:=hp (i,d,D) (by simp) hb
   simp only at h1;simp only [cond];show A0 k (T6 d D.e s.boxes) = none
   cases he:D.e with
   | new b =>
    rw [he] at h1
    cases d with
    | none=>exact h
    | some t=>exact (A9 _ _ fun c=>h1 (by simp only [hdl];rw [c])).trans h
   | set hh b =>
    rw [he] at h1
    exact (A9 _ _ fun c=>h1 (by simp only [hdl];rw [c])).trans h
   | none=>exact h
   | app hh b=>exact h
   | frz ks=>exact h
theorem Apv {K:Ak} {A:OA} {rv:Option RV} {o:Oper} {s:St3} {g:Bool} {av:AV} {x:SV} {e:E3} (h:Ow T A rv o s = some (g,av,x,e)) (hK:∀ t,o.dst = some t->Nat.blt t K.N = true) (he:okE o.dst e = true)
  (hnew:∀ b k,e = .new b->o.dst = some k->(A0 k s.boxes).isNone = true /\ Nat.blt k 1000 = true /\ s.clean k = true):Dk T K A rv o s = some (g,av,Fz o.dst ⟨g,av,x,e⟩ s):=by
 rw [A91 h]
 have put:∀ s1:St3,s1.put3 K o.dst x = some ⟨Qv o.dst x s1.slots,s1.boxes⟩:=fun s1=>by
  unfold St3.put3
  cases hd:o.dst with
  | none=>rfl
  | some t=>simp only [hK t hd,cond];rfl
 cases e with
 | none=>simp only [St3.eff3,YA,put,QP];rfl
 | set hh b=>simp only [St3.eff3,YA,put,QP];rfl
 | new b =>
  cases hd:o.dst with
  | none=>rw [hd] at he;cases he
  | some k =>
   obtain ⟨q1,q2,q3⟩:=hnew b k rfl hd;rw [hd] at put;simp only [St3.eff3,q1,q2,q3,ZD,cond,YA,put,QP];rfl
 | app hh b=>cases he
 | frz ks=>cases he
theorem Apu {K:Ak} {A:OA} {rv:Option RV} {o:Oper} {s s1:St3} {g g1:Bool} {av av1:AV} {x:SV} {e:E3} (h:Ow T A rv o s = some (g,av,x,e)) (he:okE o.dst e = true) (hs:Dk T K A rv o s = some (g1,av1,s1)) :
  g1 = g /\ av1 = av /\ s1 = Fz o.dst ⟨g,av,x,e⟩ s:=by
 rw [A91 h] at hs
 have put:∀ {s0:St3},(s0.put3 K o.dst x).map (fun s'=>(g,av,s')) = some (g1,av1,s1)->g1 = g /\ av1 = av /\ s1 = ⟨Qv o.dst x s0.slots,s0.boxes⟩:=fun {s0} hp=>by
  unfold St3.put3 at hp
  cases hd:o.dst with
  | none =>
   rw [hd] at hp;simp only [QP,QD,QG] at hp;obtain ⟨rfl,rfl,rfl⟩:=hp;exact ⟨rfl,rfl,rfl⟩
  | some t =>
   rw [hd] at hp;simp only at hp
   cases hb:Nat.blt t K.N with
   | false=>rw [hb] at hp;cases hp
   | true =>
    rw [hb] at hp;simp only [cond,QP,QD,QG] at hp;obtain ⟨rfl,rfl,rfl⟩:=hp;exact ⟨rfl,rfl,rfl⟩
 cases e with
 | none=>exact put hs
 | set hh b=>exact put hs
 | new b =>
  cases hd:o.dst with
  | none=>rw [hd] at he;cases he
  | some k =>
   rw [hd] at hs put;simp only [St3.eff3] at hs
   cases hb:((A0 k s.boxes).isNone && Nat.blt k 1000 && s.clean k) with
   | false=>rw [hb] at hs;cases hs
   | true=>rw [hb] at hs;exact put hs
 | app hh b=>cases he
 | frz ks=>cases he
theorem Acx {K:Ak} {A:List (Nat × OA)} {q:List (Nat × RV)}:∀ {l:List (Nat × Oper)} {s s':St3} {D:F1},Fk T K A q l s s'->Un T A q l s = some D ->
  D.map (fun p=>(p.1,p.2.1)) = l.map (fun p=>(p.1,p.2.dst)) /\ (∀ p ∈ D,p.2.2.g = true /\ p.2.2.av.ok /\ okE p.2.1 p.2.2.e = true) /\ ∀ L:Nat,(∀ p ∈ D,L.testBit p.1 = true)->SL L D s = s'
 | [],s,s',D,h,hd=>by
  simp only [Un,QD] at hd;subst hd
  exact ⟨rfl,fun p hp=>by simp at hp,fun _ _=>h⟩
 | (i,o) :: l,s,s',D,h,hd=>by
  obtain ⟨av,s1,h1,h2,h3⟩:=h;simp only [Un] at hd;split at hd
  . rename_i g av' x e he
    cases hok:okE o.dst e with
    | false=>rw [hok] at hd;cases hd
    | true =>
     rw [hok] at hd;simp only [cond] at hd;split at hd
     . rename_i r hr;obtain rfl:=QA hd;obtain ⟨rfl,rfl,rfl⟩:=Apu he hok h1;obtain ⟨a1,a2,a3⟩:=Acx h3 hr
       refine ⟨by simp only [QX,a1],fun p hp=>?_,fun L hL=>?_⟩
       . rcases QT.1 hp with rfl | hp
         . exact ⟨rfl,h2,hok⟩
         . exact a2 p hp
       . have hi:=hL (i,o.dst,⟨true,av,x,e⟩) (by simp)
         simp only at hi;simp only [SL,hi,cond]
         exact a3 L fun p hp=>hL p (by simp [hp])
     . cases hd
  . cases hd
theorem A9d {i:Nat} {D0:Dat}:∀ {D:F1},X9 i D = some D0->∃ d,(i,d,D0) ∈ D
 | [],h=>by cases h
 | (j,d,D1) :: r,h=>by
  simp only [X9] at h
  cases hb:Nat.beq j i with
  | true =>
   rw [hb] at h;obtain rfl:=QA h;obtain rfl:=QC hb
   exact ⟨d,by simp⟩
  | false =>
   rw [hb] at h;obtain ⟨d',h'⟩:=A9d h
   exact ⟨d',by simp [h']⟩
theorem Awk {s s2:St3} {x:Operand} (h:∀ t,opT x = some t->A0 t s.slots = A0 t s2.slots):s.val x = s2.val x:=by
 cases x with
 | tmp t=>simp only [St3.val,h t rfl]
 | _=>rfl
theorem A8h {o:Oper} {j:Nat} (h:T8 o j = true):∃ e ∈ o.after,Region.binds .any e = true /\ e.on = j:=by
 unfold T8 at h;obtain ⟨e,he,h2⟩:=XB.1 h;simp only [QE] at h2
 exact ⟨e,by simpa using he,h2.1,QC h2.2⟩
theorem Fk.split {K:Ak} {A:List (Nat × OA)} {q:List (Nat × RV)}:∀ (m:Nat) {l:List (Nat × Oper)} {s s':St3},Fk T K A q l s s'->∃ s1,Fk T K A q (l.take m) s s1 /\ Fk T K A q (l.drop m) s1 s'
 | 0,l,s,s',h=>⟨s,by simp [Fk],by simpa using h⟩
 | m + 1,[],s,s',h=>⟨s',by simpa using h,by simp [Fk]⟩
 | m + 1,(i,o) :: l,s,s',h=>by
  obtain ⟨av,s1,h1,h2,h3⟩:=h;obtain ⟨s2,k1,k2⟩:=Fk.split m h3;exact ⟨s2,⟨av,s1,h1,h2,k1⟩,k2⟩
theorem Ab9 {K:Ak} {A:List (Nat × OA)} {q:List (Nat × RV)} {L:Nat}:∀ {a b:List (Nat × Oper)} {s:St3},S3 T K A q L (a ++ b) s = S3 T K A q L b (S3 T K A q L a s)
 | [],_,_=>rfl
 | (i,o) :: a,b,s=>by simp only [YK,S3];exact Ab9
theorem Fk.at2 {K:Ak} {A:List (Nat × OA)} {q:List (Nat × RV)} {i0:Nat}:∀ {l:List (Nat × Oper)} {s s':St3} {b:Nat},Fk T K A q l s s'->(∀ k p,l[k]? = some p->p.1 = b + k)->∀ {i:Nat} {o:Oper},i = b + i0->l[i0]? = some (i,o) ->
  ∃ av,Dk T K (OA.at A i) (A0 i q) o (S3 T K A q (2 ^ i - 1) l s) = some (true,av,S3 T K A q (2 ^ (i + 1) - 1) l s) /\ av.ok:=by
 induction i0 with
 | zero =>
  intro l s s' b h hl i o hi ho
  match l,h with
  | [],_=>simp at ho
  | (j,o') :: l,h =>
   simp only [JC,QD,QG] at ho;obtain ⟨rfl,rfl⟩:=ho;obtain ⟨av,s1,h1,h2,_⟩:=h
   have hgt:∀ p ∈ l,j < p.1:=fun p hp=>by
    obtain ⟨k,hk⟩:=YS hp
    have:=hl (k + 1) p (by simpa using hk)
    omega
   refine ⟨av,?_,h2⟩;rw [M9 (fun p hp=>?_)]
   . have hb:(2 ^ (j + 1) - 1).testBit j = true:=by rw [ZK];simp
     simp only [S3,hb,cond,h1]
     rw [M9 fun p hp=>by have:=hgt p hp;rw [ZK];simp only [ZU];omega]
   . obtain ⟨k,hk⟩:=YS hp;have:=hl k p hk;rw [ZK];simp only [ZU];omega
 | succ i0 ih =>
  intro l s s' b h hl i o hi ho
  match l,h with
  | [],_=>simp at ho
  | (j,o') :: l,h =>
   obtain ⟨av,s1,h1,_,h3⟩:=h;have hj:=hl 0 (j,o') rfl;simp only [YY] at hj
   obtain ⟨av2,q1,q2⟩:=ih (b:=b + 1) h3 (fun k p hk=>by have:=hl (k + 1) p (by simpa using hk);omega) (i:=i) (o:=o) (by omega) (by simpa using ho)
   refine ⟨av2,?_,q2⟩
   have hb:(2 ^ i - 1).testBit j = true:=by
    rw [ZK];simp only [QR];omega
   have hb2:(2 ^ (i + 1) - 1).testBit j = true:=by
    rw [ZK];simp only [QR];omega
   simp only [S3,hb,hb2,cond,h1];exact q1
theorem Axo (hT:As P T) (hfol:P.follows .mixedOrders = true) {K:Ak} {A:List (Nat × OA)} {X:Tm} {id:Nat} {ops:Array Oper} {nt:Nat} (hE:∀ i a,A0 i A = some a->a.S P) (hchk:Ar9 A (A8 ops.toList) = true)
  {w:X.den} {q:List (Nat × RV)} {s':St3} (hw:WT A (A8 ops.toList) q) (hF:Aln T K A (A8 ops.toList) (X.enc w) q) (hrun:Fk T K A q (A8 ops.toList) (X.enc w) s') :
  Code.Den P K (.region id ops true) ((X.enc w).st nt) .normal (s'.st nt):=by
 obtain ⟨m,hsuf,h1,h2⟩:=hF;obtain ⟨sm,hrun1,hrun2⟩:=hrun.split m
 cases hD:Un T A q ((A8 ops.toList).take m) (X.enc w) with
 | none=>rw [hD] at h1;cases h1
 | some D =>
 rw [hD] at h1 h2;simp only [XP] at h1 h2;obtain ⟨a1,a2,a3⟩:=Acx hrun1 hD
 have chk:∀ p ∈ A8 ops.toList,p.2.guard = none /\ (∀ e ∈ p.2.after,Region.binds .any e = true->e.on < p.1) /\ (OA.at A p.1).two = false:=fun p hp=>by
  have:=QM.1 hchk p hp;simp only [QE] at this;obtain ⟨⟨h1,h2⟩,h3⟩:=this
  refine ⟨?_,fun e he hb=>?_,by cases hx:(OA.at A p.1).two with | false=>rfl | true=>rw [hx] at h3;cases h3⟩
  . cases hg:p.2.guard with
    | none=>rfl
    | some _=>rw [hg] at h1;cases h1
  . have:=QM.1 h2 e (by simpa using he)
    rw [hb] at this;simpa [ZQ] using this
 have hsz:(A8 ops.toList).length = ops.size:=by simp [A8]
 have at_:∀ (i:Nat) (o:Oper),ops[i]? = some o->(A8 ops.toList)[i]? = some (i,o):=fun i o hi=>by
  obtain ⟨h1,h2⟩:=ZI.1 hi;simp [A8,YR,h1,h2]
 have opsAt:∀ p ∈ A8 ops.toList,ops[p.1]? = some p.2:=fun p hp=>by
  obtain ⟨k,hk⟩:=YS hp;obtain ⟨q1,q2⟩:=Cl hk;rw [q1];simpa using q2
 have key:((A8 ops.toList).map (·.1)) = List.range ops.toList.length:=by
  apply KT;intro j;simp only [A8,XH,QL,YR];by_cases hj:j < ops.toList.length
  . simp at hj;simp [hj]
  . simp at hj;simp [hj]
 have kD:D.map (·.1) = ((A8 ops.toList).take m).map (·.1):=by
  have:=XU (List.map (·.1)) a1;simpa [XH,Function.comp_def] using this
 have hnd:(D.map (·.1)).Pairwise (· < ·):=by
  rw [kD,JD,key];exact List.pairwise_lt_range.sublist (List.take_sublist _ _)
 have tk:∀ p ∈ (A8 ops.toList).take m,p.1 < m:=fun p hp=>by
  obtain ⟨k,hk⟩:=YS hp;rw [XD] at hk;split at hk
  . rename_i hlt;have:=(Cl hk).1;omega
  . cases hk
 have ent:∀ p ∈ D,∃ o,ops[p.1]? = some o /\ p.2.1 = o.dst /\ p.1 < m:=fun p hp=>by
  have:(p.1,p.2.1) ∈ ((A8 ops.toList).take m).map (fun p=>(p.1,p.2.dst)):=by rw [<- a1];exact ZS.2 ⟨p,hp,rfl⟩
  obtain ⟨r,hr,e⟩:=ZS.1 this;simp only [QG] at e
  exact ⟨r.2,by rw [<- e.1];exact opsAt r (Qat hr),e.2.symm,by rw [<- e.1];exact tk r hr⟩
 have lk:∀ (i:Nat) (o:Oper),i < m->ops[i]? = some o->A0 i ((A8 ops.toList).take m) = some o:=fun i o him hi=>by
  have hm:(i,o) ∈ (A8 ops.toList).take m:=QV (i:=i) (by rw [XD,QK him];exact at_ i o hi)
  have nd:(((A8 ops.toList).take m).map (·.1)).Nodup:=(F3 ops.toList).sublist ((List.take_sublist _ _).map _);generalize (A8 ops.toList).take m = l at hm nd
  induction l with
  | nil=>simp at hm
  | cons r l ih =>
   obtain ⟨j,o'⟩:=r;simp only [QX,YV] at nd;rcases QT.1 hm with e | hm
   . simp only [QG] at e;obtain ⟨rfl,rfl⟩:=e;exact Be
   . rw [Az fun c=>nd.1 (by rw [c];exact ZS.2 ⟨_,hm,rfl⟩)]
     exact ih hm nd.2
 have h0:SL 0 D (X.enc w) = X.enc w:=by
  clear a3 hD h1 h2 a1 a2 kD hnd ent hrun1;generalize X.enc w = s
  induction D generalizing s with
  | nil=>rfl
  | cons p r ih=>obtain ⟨i,d,D⟩:=p;simp only [SL,Nat.zero_testBit,cond];exact ih s
 have hpre:∀ L:Nat,(∀ j,j < m->L.testBit j = true)->SL L D (X.enc w) = sm:=fun L hL=>a3 _ fun p hp=>hL p.1 (ent p hp).choose_spec.2.2
 have hpre3:S3 T K A q (2 ^ m - 1) (A8 ops.toList) (X.enc w) = sm:=by
  conv=>lhs;rw [<- JL m (A8 ops.toList)]
  rw [Ab9,A65 hrun1 fun p hp=>by have:=tk p hp;rw [ZK];simpa using this]
  refine M9 fun p hp=>?_;obtain ⟨k,hk⟩:=YS hp;rw [YC] at hk;have:=(Cl hk).1;rw [ZK];simp only [ZU];omega
 have hfull:(if 2 ^ ops.size - 1 < 2 ^ m then SL (2 ^ ops.size - 1) D (X.enc w) else S3 T K A q (2 ^ ops.size - 1) (A8 ops.toList) (X.enc w)) = s':=by
  have hS3:S3 T K A q (2 ^ ops.size - 1) (A8 ops.toList) (X.enc w) = s':=A65 hrun fun p hp=>by
   obtain ⟨j,hj⟩:=YS hp;have:=(Cl hj).1;have hlt:=(QO.1 hj).1;rw [ZK];simp only [QR];omega
  split
  . rename_i hlt
    have hnm:ops.size <= m:=by
     rcases XN m ops.size with h | h
     . exfalso
       have h3:2 ^ (m + 1) <= 2 ^ ops.size:=JP (by omega) h
       have h4:0 < 2 ^ m:=Nat.pow_pos (by omega)
       have:2 ^ (m + 1) = 2 * 2 ^ m:=by rw [KL];omega
       omega
     . exact h
    rw [ZF (by omega)] at hrun2
    have e:sm = s':=hrun2;rw [<- e];refine a3 _ fun p hp=>?_;obtain ⟨o,ho,_,_⟩:=ent p hp;have:=(ZI.1 ho).1;rw [ZK];simpa using this
  . exact hS3
 have:=A9m (P:=P) hfol (K:=K) (id:=id) (ops:=ops) (S:=fun L=>(if L < 2 ^ m then SL L D (X.enc w) else S3 T K A q L (A8 ops.toList) (X.enc w)).st nt)
  (fun i o hi=>(chk (i,o) (QV (at_ i o hi))).2.1) (fun L i o hbig hcl hoi hbit hdep=>?_)
 . simp only [hfull,QK (show 0 < 2 ^ m from Nat.pow_pos (by omega)),h0] at this
   exact this
 . have hmem:=QV (at_ i o hoi);refine ⟨(chk (i,o) hmem).1,?_⟩
   have hAi:(OA.at A i).S P:=by
    unfold OA.at
    cases hl:A0 i A with
    | none=>exact ⟨(fun E h=>by cases h),(fun E h=>by cases h),(fun E h=>by cases h)⟩
    | some a=>exact hE i a hl
   have hRV:RV.S P (A0 i q):=by
    unfold RV.S;split
    . rename_i E z hz;exact hAi.2.1 E (WT.bx hw hz)
    . trivial
   have anc0:∀ r ∈ A3h (A8 ops.toList) [],L.testBit r.1 = true \/ r.1 = i->∀ k,r.2.testBit k = true->L.testBit k = true:=A8o (L:=L) (i0:=i) (l0:=A8 ops.toList) (fun p hp hpi e he hbe=>by
    rcases hpi with h3 | h3
    . exact hcl p.1 p.2 h3 (opsAt p hp) e he hbe
    . have q3:=opsAt p hp;rw [h3,hoi] at q3;obtain rfl:=QA q3
      exact hdep e he hbe) (l:=A8 ops.toList) (acc:=[]) (fun _ h=>h) (fun r h=>by simp at h)
   have inA:∀ j,j < ops.size->∃ mk,(j,mk) ∈ A3h (A8 ops.toList) []:=fun j hj=>by
    have:∀ (l:List (Nat × Oper)) (acc:List (Nat × Nat)),((∃ p ∈ l,p.1 = j) \/ ∃ mk,(j,mk) ∈ acc)->∃ mk,(j,mk) ∈ A3h l acc:=by
     intro l
     induction l with
     | nil=>intro acc h;rcases h with ⟨p,hp,_⟩ | h;simp at hp;exact h
     | cons p l ih =>
      intro acc h;obtain ⟨i1,o1⟩:=p;refine ih _ ?_;rcases h with ⟨p,hp,rfl⟩ | ⟨mk,h⟩
      . rcases QT.1 hp with rfl | hp
        . exact .inr ⟨_,YM⟩
        . exact .inl ⟨p,hp,rfl⟩
      . exact .inr ⟨mk,ZW _ h⟩
    exact this _ _ (.inl ⟨(j,ops[j]),QV (at_ j _ (JX hj)),rfl⟩)
   have all_:∀ j,m <= j->j < ops.size->(L.testBit j = true \/ j = i)->∀ k,k < j->L.testBit k = true:=fun j hmj hj hji k hk=>by
    obtain ⟨mk,hmk⟩:=inA j hj;have:=QM.1 hsuf _ hmk;simp only [XL] at this;rcases this with h3 | h3
    . rw [ZQ] at h3;omega
    . exact anc0 _ hmk hji k (QM.1 h3 k (YI.2 hk))
   have hin:i < ops.size:=(ZI.1 hoi).1;rcases XN i m with him | him
   rotate_left
   . -- one of those that wait for all
     have hLi:L = 2 ^ i - 1:=by
      refine KK fun j=>?_;rw [ZK];rcases JI j i with c | c | c
      . rw [all_ i him hin (.inr rfl) j c];simp [c]
      . subst c;rw [hbit];simp
      . have e : L.testBit j = false := by
         cases hb:L.testBit j with
         | false=>rfl
         | true =>
          exfalso
          have hjn:j < ops.size:=by
           rcases XN j ops.size with h | h
           . exact h
           . rw [hbig j h] at hb;cases hb
          rw [all_ j (by omega) hjn (.inl hb) i c] at hbit;cases hbit
        rw [e];simp;omega
     have e1:L ||| 1 <<< i = 2 ^ (i + 1) - 1:=by
      refine KK fun j=>?_;rw [X2,hLi,ZK,ZK];by_cases c:j = i
      . subst c;simp
      . by_cases c2:j < i
        . have:j < i + 1:=by omega
          simp [c2,this]
        . have:¬ j < i + 1:=by omega
          simp [c,c2,this]
     have e2:(if L < 2 ^ m then SL L D (X.enc w) else S3 T K A q L (A8 ops.toList) (X.enc w)) = S3 T K A q (2 ^ i - 1) (A8 ops.toList) (X.enc w):=by
      split
      . rename_i hlt
        have:i = m:=by
         rcases XN m i with h | h
         . exfalso
           have h3:2 ^ (m + 1) <= 2 ^ i:=JP (by omega) h
           have h4:0 < 2 ^ m:=Nat.pow_pos (by omega)
           have:2 ^ (m + 1) = 2 * 2 ^ m:=by rw [KL];omega
           omega
         . omega
        rw [this,hpre3]
        exact hpre L fun j hj=>by rw [hLi,ZK,this];simpa using hj
      . rw [hLi]
     have e3:¬ L ||| 1 <<< i < 2 ^ m:=by
      rw [e1]
      have h3:2 ^ (m + 1) <= 2 ^ (i + 1):=JP (by omega) (by omega)
      have h4:0 < 2 ^ m:=Nat.pow_pos (by omega)
      have:2 ^ (m + 1) = 2 * 2 ^ m:=by rw [KL];omega
      omega
     obtain ⟨av,b1,b2⟩:=Fk.at2 (i0:=i) hrun (fun k p hk=>A3m hk) (i:=i) (o:=o) (by omega) (at_ i o hoi)
     rw [e2,QH e3,e1];exact A04 hT b1 rfl b2 hAi hRV
   have hLm:L < 2 ^ m:=Nat.lt_pow_two_of_testBit L fun j hj=>by
    cases hb:L.testBit j with
    | false=>rfl
    | true =>
     exfalso
     have hjn:j < ops.size:=by
      rcases XN j ops.size with h | h
      . exact h
      . rw [hbig j h] at hb;cases hb
     rw [all_ j hj hjn (.inl hb) i (by omega)] at hbit;cases hbit
   have hLm2:L ||| 1 <<< i < 2 ^ m:=Nat.lt_pow_two_of_testBit _ fun j hj=>by
    rw [X2,Nat.testBit_lt_two_pow (ZT hLm (JP (by omega) hj))]
    have:j ≠ i:=by omega
    simp [this]
   rw [QK hLm,QK hLm2]
   have hmemt:(i,o) ∈ (A8 ops.toList).take m:=QV (i:=i) (by rw [XD,QK him];exact at_ i o hoi)
   have hB:=QM.1 h1 (i,o) hmemt;unfold B0f at hB;simp only [QE] at hB;obtain ⟨⟨hnm,hK⟩,hB⟩:=hB
   cases hDi:X9 i D with
   | none=>rw [hDi] at hB;cases hB
   | some Di =>
   rw [hDi] at hB;simp only [QE] at hB;obtain ⟨hsep,hnew⟩:=hB;obtain ⟨d0,hm⟩:=A9d hDi;obtain ⟨o',ho',hd0,_⟩:=ent _ hm;simp only at ho' hd0;rw [hoi] at ho';obtain rfl:=QA ho';subst hd0;obtain ⟨g1,g2,g3⟩:=a2 _ hm;simp only at g1 g2 g3
   have nodep:∀ p ∈ D,L.testBit p.1 = true->∀ o',A0 p.1 ((A8 ops.toList).take m) = some o'->T8 o' i = false:=fun p hp hb o' ho'=>by
    obtain ⟨o2,ho2,_,hlt⟩:=ent p hp;rw [lk _ _ hlt ho2] at ho';obtain rfl:=QA ho'
    cases hd:T8 o2 i with
    | false=>rfl
    | true =>
     obtain ⟨e,he,hbe,rfl⟩:=A8h hd;rw [hcl p.1 o2 hb ho2 e he hbe] at hbit;cases hbit
   have depL:∀ j,T8 o j = true->L.testBit j = true:=fun j hd=>by
    obtain ⟨e,he,hbe,rfl⟩:=A8h hd;exact hdep e he hbe
   obtain ⟨mm,hm1,hm2⟩:=Aci L (Wx D)
   have inE:∀ x,(Wx D).any (Nat.beq x) = true ↔ x ∈ Wx D:=fun x=>by
    constructor
    . intro h;obtain ⟨y,hy,e⟩:=XB.1 h;exact QC e ▸ hy
    . intro h;exact XB.2 ⟨x,h,XA x⟩
   have hmask:mm ∈ Am9 ((A8 ops.toList).take m) D (i,o):=by
    refine JW.2 ⟨hm1,?_⟩;simp only [QE];refine ⟨?_,?_⟩
    . rw [hm2,hbit];simp
    . refine QM.2 fun r hr=>?_
      have anc:=A8o (L:=L) (i0:=i) (l0:=(A8 ops.toList).take m) (fun p hp hpi e he hbe=>by
       have q3:=opsAt p (Qat hp);rcases hpi with h3 | h3
       . exact hcl p.1 p.2 h3 q3 e he hbe
       . rw [h3,hoi] at q3;obtain rfl:=QA q3
         exact hdep e he hbe) (l:=(A8 ops.toList).take m) (acc:=[]) (fun _ h=>h) (fun r h=>by simp at h) r hr
      have mL:mm.testBit r.1 = true->L.testBit r.1 = true:=fun h3=>by
       rw [hm2] at h3;simp only [QE] at h3;exact h3.2
      simp only [QE];refine ⟨?_,?_⟩
      . cases hmr:mm.testBit r.1 with
        | false=>rfl
        | true =>
         cases hd:r.2.testBit i with
         | false=>rfl
         | true=>rw [anc (.inl (mL hmr)) i hd] at hbit;cases hbit
      . cases hmr:(Nat.beq r.1 i || mm.testBit r.1) with
        | false=>rfl
        | true =>
         rw [ZO,YJ];refine QM.2 fun k hk=>?_
         cases hd:r.2.testBit k with
         | false=>rfl
         | true =>
          have hri:L.testBit r.1 = true \/ r.1 = i:=by
           simp only [XL] at hmr;rcases hmr with h3 | h3
           . exact .inr (QC h3)
           . exact .inl (mL h3)
          rw [hm2,anc hri k hd,(inE k).2 hk];rfl
   have e1:=Qaf.1 h2 (i,o) hmemt;have e2:=Qaf.1 e1 mm hmask;simp only [hDi,B9d] at e2
   have hbx:(SL L D (X.enc w)).boxes = (SL mm D (X.enc w)).boxes:=Ahs rfl fun p hp he=>by
    rw [hm2,(inE p.1).2 (ZS.2 ⟨p,JW.2 ⟨hp,he⟩,rfl⟩),XY]
   have heff:Ow T (OA.at A i) (A0 i q) o (SL L D (X.enc w)) = some (Di.g,Di.av,Di.x,Di.e):=by
    unfold Aji at hnm
    cases hq:I7 o with
    | none=>rw [hq] at hnm;cases hnm
    | some xs =>
     rw [hq] at hnm;simp only at hnm;rw [<- e2];refine Ap9 hq (fun x hx=>Awk fun t ht=>?_) hbx;refine Alm rfl fun p hp hpt=>?_;have:=QM.1 (QM.1 hnm x hx) p hp;rw [ht,hpt] at this;simp only [eqO,XA,ZO,YJ,QE] at this;rw [depL p.1 this.1,ZK]
     have h3:p.1 < i:=by simpa [ZQ] using this.2
     simp [h3]
   have hstep:=Apv (K:=K) heff (fun t ht=>by rw [ht] at hK;exact hK) g3 (fun b k hb hk=>by
    rw [hb,hk] at hnew;simp only [QE] at hnew;obtain ⟨⟨⟨n1,n2⟩,n3⟩,n4⟩:=hnew
    have key:∀ p ∈ D,L.testBit p.1 = true->hdl p.2.1 p.2.2.e ≠ some k /\ p.2.2.x.men k = false /\ Add k p.2.2.e = false:=fun p hp hpb=>by
     have:=QM.1 n4 p hp;simp only [XL] at this;rcases this with (h3 | h3) | h3
     . rw [QC h3,hbit] at hpb;cases hpb
     . simp only [QE,ZJ] at h3;exact ⟨Wv h3.1.1 k rfl,h3.1.2,h3.2⟩
     . exfalso;split at h3
       . rename_i o2 ho2;rw [nodep p hp hpb o2 ho2] at h3;cases h3
       . cases h3
    refine ⟨?_,n2,Ahr n3 fun p hp hpb=>(key p hp hpb).2⟩
    rw [Ahp (by simpa using n1) fun p hp hpb=>(key p hp hpb).1];rfl)
   have hadd:SL (L ||| 1 <<< i) D (X.enc w) = Fz o.dst Di (SL L D (X.enc w)):=Awf hnd hm hbit fun p hp hlt hpb=>by
    have:=QM.1 hsep p hp;simp only [XL] at this;rcases this with h3 | h3
    . have:=QC h3;omega
    . simp only [QE,ZJ,XL] at h3;refine ⟨Wv h3.1,?_⟩;rcases h3.2 with h4 | h4
      . exact Wv h4
      . exfalso;obtain ⟨o2,ho2,_,hlt2⟩:=ent p hp;rw [lk _ _ hlt2 ho2] at h4;simp only [XL] at h4;rcases h4 with h4 | h4
        . rw [nodep p hp hpb o2 (lk _ _ hlt2 ho2)] at h4;cases h4
        . obtain ⟨e,he,hbe,h5⟩:=A8h h4;have:=(chk (i,o) hmem).2.1 e he hbe;simp only at this;omega
   have e5:(⟨Di.g,Di.av,Di.x,Di.e⟩:Dat) = Di:=rfl;rw [e5,<- hadd,g1] at hstep;exact A04 hT hstep rfl g2 hAi hRV
end Go.Ev

/- DERIVED. Regions that draw their order: both checks. -/
namespace Go.Ev
open Go
variable {P:Program} {T:Ty} {α:Type}
def Ar (T:Ty) (K:Ak) (A:List (Nat × OA)) (X:Tm) (ops:Array Oper):Prop :=
 Ar9 A (A8 ops.toList) = true /\ ∀ w q,WT A (A8 ops.toList) q->Iw T K A (A8 ops.toList) (X.enc w) q \/ Aln T K A (A8 ops.toList) (X.enc w) q
theorem B62 (hT:As P T) (hfol:P.follows .mixedOrders = true) {K:Ak} {A:List (Nat × OA)} {X:Tm} {id:Nat} {ops:Array Oper} {nt:Nat} (hE:∀ i a,A0 i A = some a->a.S P) (hF:Ar T K A X ops) {w:X.den} {k:St3->Option α} {r:α}
  (h:Hg T K ops.toList A (A8 ops.toList) (X.enc w) k = some r):∃ s',Code.Den P K (.region id ops true) ((X.enc w).st nt) .normal (s'.st nt) /\ k s' = some r:=by
 obtain ⟨hchk,hfam⟩:=hF
 have chk:∀ p ∈ A8 ops.toList,p.2.guard = none /\ (∀ e ∈ p.2.after,Region.binds .any e = true->e.on < p.1) /\ (OA.at A p.1).two = false:=fun p hp=>by
  have:=QM.1 hchk p hp;simp only [QE] at this;obtain ⟨⟨h1,h2⟩,h3⟩:=this
  refine ⟨?_,fun e he hb=>?_,by cases hx:(OA.at A p.1).two with | false=>rfl | true=>rw [hx] at h3;cases h3⟩
  . cases hg:p.2.guard with
    | none=>rfl
    | some _=>rw [hg] at h1;cases h1
  . have:=QM.1 h2 e (by simpa using he)
    rw [hb] at this;simpa [ZQ] using this
 have hnod:((A8 ops.toList).map (·.1)).Nodup:=by
  have:(A8 ops.toList).map (·.1) = List.range ops.toList.length:=by
   apply KT;intro j;simp only [A8,XH,QL,YR];by_cases hj:j < ops.toList.length
   . simp at hj;simp [hj]
   . simp at hj;simp [hj]
  rw [this];exact Qak
 obtain ⟨q,s',hw,hk,hrun⟩:=A3u _ _ _ _ hnod (fun p hp=>(chk p hp).1) (fun p hp=>(chk p hp).2.2) h;refine ⟨s',?_,hk⟩;rcases hfam w q hw with hfam | hlite
 rotate_left
 . exact Axo hT hfol hE hchk hw hlite hrun
 have hsz:(A8 ops.toList).length = ops.size:=by simp [A8]
 have at_:∀ (i:Nat) (o:Oper),ops[i]? = some o->(A8 ops.toList)[i]? = some (i,o):=fun i o hi=>by
  obtain ⟨h1,h2⟩:=ZI.1 hi;simp [A8,YR,h1,h2]
 have h0:S3 T K A q 0 (A8 ops.toList) (X.enc w) = X.enc w:=M9 fun p _=>by simp
 have hfull:S3 T K A q (2 ^ ops.size - 1) (A8 ops.toList) (X.enc w) = s':=A65 hrun fun p hp=>by
  obtain ⟨j,hj⟩:=YS hp;have:=(Cl hj).1;have hlt:=(QO.1 hj).1;rw [ZK];simp only [QR];omega
 have:=A9m (P:=P) hfol (K:=K) (id:=id) (ops:=ops) (S:=fun L=>(S3 T K A q L (A8 ops.toList) (X.enc w)).st nt)
  (fun i o hi=>(chk (i,o) (QV (at_ i o hi))).2.1) (fun L i o hbig hcl hoi hbit hdep=>?_)
 . simp only [h0,hfull] at this;exact this
 . have hmem:=QV (at_ i o hoi);refine ⟨(chk (i,o) hmem).1,?_⟩
   have hLd:L ∈ Ln (A8 ops.toList) [0]:=by
    have:=A9a (L:=L) (A8 ops.toList) 0 [0] (fun k p hk=>?_) (by simp [Nat.mod_one])
    . have e : L % 2 ^ (0 + (A8 ops.toList).length) = L := by
       refine KK fun j=>?_;rw [KA,hsz,XS];by_cases hj:j < ops.size
       . simp [hj]
       . rw [hbig j (by omega)];simp
      rw [e] at this;exact this
    . obtain ⟨h1,h2⟩:=Cl hk
      refine ⟨by omega,(chk p (QV hk)).2.1,fun hb e he hbe=>hcl p.1 p.2 hb ?_ e he hbe⟩
      rw [h1];simpa using h2
   have hrd:(i,o) ∈ rdy (A8 ops.toList) L:=by
    refine JW.2 ⟨hmem,?_⟩;simp only [hbit,ZX,XY];unfold A5r;refine QM.2 fun e he=>?_
    cases hbe:Region.binds .any e with
    | false=>rfl
    | true=>simpa using hdep e (by simpa using he) hbe
   have e1:=Qaf.1 hfam L hLd;have e2:=Qaf.1 e1 (i,o) hrd
   obtain ⟨av,s1,b1,b2⟩:=Fk.at (i0:=i) hrun (fun k p hk=>A3m hk) (i:=i) (o:=o) (by omega) (at_ i o hoi)
   simp only [b1,QP] at e2
   have hAi:(OA.at A i).S P:=by
    unfold OA.at
    cases hl:A0 i A with
    | none=>exact ⟨(fun E h=>by cases h),(fun E h=>by cases h),(fun E h=>by cases h)⟩
    | some a=>exact hE i a hl
   refine A04 hT e2 rfl b2 hAi ?_;unfold RV.S;split
   . rename_i E z hz;exact hAi.2.1 E (WT.bx hw hz)
   . trivial
end Go.Ev

/- DERIVED. Code, loops and functions over shapes. -/
namespace Go.Ev
open Go
variable {P:Program} {T:Ty} {α:Type}
def LO.Sound (P:Program) (K:Ak) (L:LO α) (c:Code):Prop :=
 ∀ (nt:Nat) (v:L.H.den) (k:Exit->St3->Option α) (r:α),L.run v (Mk k L.outs) = some r->∃ x s',(Code.Den P K c ((L.H.enc v).st nt) x (s'.st nt) /\ ∀ c',c = .loop c'->Fh P K c' ((L.H.enc v).st nt) x (s'.st nt)) /\ k x s' = some r
def Aa:Code->Array Oper
 | .region _ ops _=>ops
 | _=>#[]
structure D3.OK (P:Program) (T:Ty) (K:Ak) (D:D3 α) (c:Code):Prop where
 ent:∀ id A,A0 id D.reg = some A->∀ i a,A0 i A.ops = some a->a.S P
 loop:∀ p ∈ Ab c,∀ L,A0 p.1 D.loop = some L->L.Sound P K p.2
 any:∀ p ∈ Av c,∀ X ∈ Tp p.1 D.any,Ar T K ((A0 p.1 D.reg).getD {}).ops X p.2
def Cj:List (Nat × OA)->List (Ent ⊕ Ent3)
 | []=>[]
 | (_,a) :: r=>a.alt.map .inr ++ match a.ent with
  | some E=>.inl E :: (match a.entB with
   | some F=>.inr F :: Cj r
   | none=>Cj r)
  | none=>match a.entB with
   | some E=>.inr E :: Cj r
   | none=>Cj r
def Ai:List (Nat × RA)->List (Ent ⊕ Ent3)
 | []=>[]
 | (_,A) :: r=>Cj A.ops ++ Ai r
def Bbi (P:Program):Ent ⊕ Ent3->Prop
 | .inl E=>E.Sound P
 | .inr E=>E.Sound P
def Ao (P:Program):List (Ent ⊕ Ent3)->Prop
 | []=>True
 | .inl E :: r=>E.Sound P /\ Ao P r
 | .inr E :: r=>E.Sound P /\ Ao P r
def A8v (P:Program) (K:Ak) (D:D3 α):List (Nat × Code)->Prop
 | []=>True
 | p :: r=>(∀ L,A0 p.1 D.loop = some L->L.Sound P K p.2) /\ A8v P K D r
theorem Ao.mem:∀ {l:List (Ent ⊕ Ent3)},Ao P l->∀ E ∈ l,Bbi P E
 | [],_,E,h=>by cases h
 | .inl F :: r,hs,E,h=>by
  rcases QT.1 h with rfl | h
  . exact hs.1
  . exact Ao.mem hs.2 E h
 | .inr F :: r,hs,E,h=>by
  rcases QT.1 h with rfl | h
  . exact hs.1
  . exact Ao.mem hs.2 E h
theorem A8v.mem {K:Ak} {D:D3 α}:∀ {l:List (Nat × Code)},A8v P K D l->∀ p ∈ l,∀ L,A0 p.1 D.loop = some L->L.Sound P K p.2
 | [],_,p,h=>by cases h
 | q :: r,hs,p,h=>by
  rcases QT.1 h with rfl | h
  . exact hs.1
  . exact A8v.mem hs.2 p h
theorem E8:∀ {l:List (Nat × OA)} {i:Nat} {a:OA},A0 i l = some a->(∀ E,a.ent = some E->Sum.inl E ∈ Cj l) /\ (∀ E,a.entB = some E->Sum.inr E ∈ Cj l) /\ ∀ E,E ∈ a.alt->Sum.inr E ∈ Cj l
 | [],_,_,h=>by cases h
 | (j,b) :: r,i,a,h=>by
  simp only [A0] at h
  cases hb:Nat.beq j i with
  | true =>
   rw [hb] at h;obtain rfl:=QA h
   refine ⟨fun E he=>?_,fun E he=>?_,fun E he=>by simp only [Cj];exact QF.2 (.inl (ZS.2 ⟨E,he,rfl⟩))⟩
   . simp only [Cj,he];exact QF.2 (.inr YM)
   . simp only [Cj];refine QF.2 (.inr ?_)
     cases b.ent with
     | some F=>simp only [he];exact ZW _ YM
     | none=>simp only [he];exact YM
  | false =>
   rw [hb] at h;have:=E8 h
   have up:∀ x,x ∈ Cj r->x ∈ Cj ((j,b) :: r):=by
    intro x hx;simp only [Cj];refine QF.2 (.inr ?_);split
    . split
      . exact ZW _ (ZW _ hx)
      . exact ZW _ hx
    . split
      . exact ZW _ hx
      . exact hx
   exact ⟨fun E he=>up _ (this.1 E he),fun E he=>up _ (this.2.1 E he),fun E he=>up _ (this.2.2 E he)⟩
theorem Ey:∀ {l:List (Nat × RA)} {id:Nat} {A:RA} {E:Ent ⊕ Ent3},A0 id l = some A->E ∈ Cj A.ops->E ∈ Ai l
 | [],_,_,_,h,_=>by cases h
 | (j,B) :: r,id,A,E,h,he=>by
  simp only [A0] at h;simp only [Ai,QF]
  cases hb:Nat.beq j id with
  | true =>
   rw [hb] at h;obtain rfl:=QA h;exact .inl he
  | false =>
   rw [hb] at h;exact .inr (Ey h he)
def Ahy (f:Tm->Prop):List Tm->Prop
 | []=>True
 | X :: r=>f X /\ Ahy f r
theorem Ahy.mem {f:Tm->Prop}:∀ {l:List Tm},Ahy f l->∀ X ∈ l,f X
 | [],_,X,hX=>by cases hX
 | Y :: r,h,X,hX=>by
  rcases QT.1 hX with rfl | hX
  . exact h.1
  . exact Ahy.mem h.2 X hX
def Ahz (T:Ty) (K:Ak) (D:D3 α):List (Nat × Array Oper)->Prop
 | []=>True
 | p :: r=>Ahy (fun X=>Ar T K ((A0 p.1 D.reg).getD {}).ops X p.2) (Tp p.1 D.any) /\ Ahz T K D r
theorem Ahz.mem {K:Ak} {D:D3 α}:∀ {l:List (Nat × Array Oper)},Ahz T K D l->∀ p ∈ l,∀ X ∈ Tp p.1 D.any,Ar T K ((A0 p.1 D.reg).getD {}).ops X p.2
 | [],_,p,hp=>by cases hp
 | q :: r,h,p,hp=>by
  rcases QT.1 hp with rfl | hp
  . exact h.1.mem
  . exact Ahz.mem h.2 p hp
theorem D3.OK.mk3a {K:Ak} {D:D3 α} {c:Code} {ls:List (Nat × Code)} {as:List (Nat × Array Oper)} (he:Ao P (Ai D.reg)) (hl:Ab c = ls) (h:A8v P K D ls) (ha:Av c = as) (h':Ahz T K D as):D3.OK P T K D c :=
 ⟨fun _ _ hA _ _ ha'=>⟨fun E hE=>he.mem (.inl E) (Ey hA ((E8 ha').1 E hE)),fun E hE=>he.mem (.inr E) (Ey hA ((E8 ha').2.1 E hE)),fun E hE=>he.mem (.inr E) (Ey hA ((E8 ha').2.2 E hE))⟩,fun p hp=>h.mem p (by rw [<- hl];exact hp),fun p hp=>h'.mem p (by rw [<- ha];exact hp)⟩
theorem D3.OK.mk3 {K:Ak} {D:D3 α} {c:Code} {ls:List (Nat × Code)} (he:Ao P (Ai D.reg)) (hl:Ab c = ls) (h:A8v P K D ls) (ha:D.any = []:=by rfl):D3.OK P T K D c :=
 ⟨fun _ _ hA _ _ ha'=>⟨fun E hE=>he.mem (.inl E) (Ey hA ((E8 ha').1 E hE)),fun E hE=>he.mem (.inr E) (Ey hA ((E8 ha').2.1 E hE)),fun E hE=>he.mem (.inr E) (Ey hA ((E8 ha').2.2 E hE))⟩,fun p hp=>h.mem p (by rw [<- hl];exact hp),fun p _ X hX=>by rw [ha] at hX;cases hX⟩
theorem Ad {K:Ak} {i:Nat} {l:List (Nat × LO α)} {L0:LO α} {c:Code} (h:A0 i l = some L0) (hs:L0.Sound P K c):∀ L,A0 i l = some L->L.Sound P K c:=fun L hL=>by
 rw [h] at hL;obtain rfl:=QA hL;exact hs
theorem Den.weakT {K:Ak} {c:Code} {s:St} {s1:St3} {x:Exit} {X:Tm} {w:X.den} {nt:Nat} (h:Code.Den P K c s x (s1.st nt)) (hd:X.dec s1 = some w):Code.Den P K c s x ((X.enc w).st nt) :=
 Den.weak h fun _ _ _ _ hs=>Tm.dec_ok hd hs
theorem Den.weakIn {K:Ak} {c:Code} {s:St3} {s':St} {x:Exit} {X:Tm} {w:X.den} {nt:Nat} (h:Code.Den P K c ((X.enc w).st nt) x s') (hd:X.dec s = some w):Code.Den P K c (s.st nt) x s':=by
 intro Γ wd E a ro n hK hdef hs;obtain ⟨E',hs'⟩:=Tm.dec_ok hd hs;exact h Γ wd E' a ro n hK hdef hs'
theorem D3.OK.left {K:Ak} {D:D3 α} {c d:Code} (h:D3.OK P T K D (.seq c d)):D3.OK P T K D c:=⟨h.ent,fun p hp=>h.loop p (QF.2 (.inl hp)),fun p hp=>h.any p (QF.2 (.inl hp))⟩
theorem D3.OK.right {K:Ak} {D:D3 α} {c d:Code} (h:D3.OK P T K D (.seq c d)):D3.OK P T K D d:=⟨h.ent,fun p hp=>h.loop p (QF.2 (.inr hp)),fun p hp=>h.any p (QF.2 (.inr hp))⟩
theorem Nn (hT:As P T) (hfol:P.follows .mixedOrders = true) {K:Ak} {D:D3 α} {nt:Nat}:∀ (c:Code) (s:St3) (k:Exit->St3->Option α) (r:α),D3.OK P T K D c->Bb P T K D c s k = some r ->
  ∃ x s',Code.Den P K c (s.st nt) x (s'.st nt) /\ k x s' = some r:=by
 intro c
 induction c with
 | skip=>intro s k r _ h;exact ⟨.normal,s,Den.skip,h⟩
 | region id ops draw =>
  intro s k r hD h;simp only [Bb] at h
  have hEnt:∀ i a,A0 i ((A0 id D.reg).getD {}).ops = some a->a.S P:=fun i a hi=>by
   cases hl:A0 id D.reg with
   | none=>rw [hl] at hi;cases hi
   | some A=>rw [hl] at hi;exact hD.ent id A hl i a hi
  cases hA:Tp id D.any with
  | nil =>
   rw [hA] at h;obtain ⟨s',h1,h2⟩:=B1k (id:=id) (nt:=nt) hT hfol hEnt h;exact ⟨.normal,s',h1,h2⟩
  | cons X0 r0 =>
   rw [hA] at h
   cases draw with
   | false=>cases h
   | true =>
    simp only [cond] at h
    have key:∀ l:List Tm,(∀ X ∈ l,Ar T K ((A0 id D.reg).getD {}).ops X ops)->Abt s (fun X w=>Hg T K ops.toList ((A0 id D.reg).getD {}).ops (A8 ops.toList) (X.enc w) (k .normal)) l = some r->∃ x s',Code.Den P K (.region id ops true) (s.st nt) x (s'.st nt) /\ k x s' = some r:=by
     intro l
     induction l with
     | nil=>intro _ h;cases h
     | cons X l ih =>
      intro hl h;simp only [Abt] at h;split at h
      . rename_i w hw
        obtain ⟨s',h1,h2⟩:=B62 (id:=id) (nt:=nt) hT hfol hEnt (hl X (by simp)) h
        exact ⟨.normal,s',Den.weakIn h1 hw,h2⟩
      . exact ih (fun Y hY=>hl Y (by simp [hY])) h
    exact key _ (fun X hX=>hD.any (id,ops) (by simp [Av]) X (by rw [hA];exact hX)) h
 | seq c d ihc ihd =>
  intro s k r hD h;simp only [Bb] at h;split at h
  . obtain ⟨x,s1,h1,h2⟩:=ihc _ _ _ hD.left h
    cases x with
    | normal =>
     obtain ⟨y,s2,h3,h4⟩:=ihd _ _ _ hD.right h2;exact ⟨y,s2,Den.seq h1 h3,h4⟩
    | _=>exact ⟨_,s1,Den.seqX (by simp) h1,h2⟩
  . rename_i X hX;obtain ⟨x,s1,h1,h2⟩:=ihc _ _ _ hD.left h
    cases x with
    | normal =>
     simp only at h2;split at h2
     . rename_i w hw;obtain ⟨y,s2,h3,h4⟩:=ihd _ _ _ hD.right h2;exact ⟨y,s2,Den.seq (Den.weakT h1 hw) h3,h4⟩
     . cases h2
    | _=>exact ⟨_,s1,Den.seqX (by simp) h1,h2⟩
 | cond c a b iha ihb =>
  intro s k r hD h
  cases c with
  | tmp t =>
   simp only [Bb] at h;split at h
   . rename_i y hl;have hl':=A95 (nt:=nt) hl
     cases y with
     | true =>
      simp only [cond] at h;obtain ⟨x,s',h1,h2⟩:=iha _ _ _ (D3.OK.left (d:=b) ⟨hD.ent,hD.loop,hD.any⟩) h;rw [J1 hl] at h1;exact ⟨x,s',Den.cond (b:=true) rfl hl' h1,h2⟩
     | false =>
      simp only [cond] at h;obtain ⟨x,s',h1,h2⟩:=ihb _ _ _ (D3.OK.right (c:=a) ⟨hD.ent,hD.loop,hD.any⟩) h;rw [J1 hl] at h1;exact ⟨x,s',Den.cond (b:=false) rfl hl' h1,h2⟩
   . cases h
  | const=>simp [Bb] at h
  | global=>simp [Bb] at h
  | func=>simp [Bb] at h
 | block id c ih =>
  intro s k r hD h;simp only [Bb] at h;obtain ⟨x,s',h1,h2⟩:=ih _ _ _ ⟨hD.ent,hD.loop,hD.any⟩ h
  cases x with
  | exit j =>
   simp only at h2
   cases hb:Nat.beq j id with
   | true =>
    rw [hb] at h2;obtain rfl:=QC hb;exact ⟨.normal,s',Den.blockX h1,h2⟩
   | false =>
    rw [hb] at h2
    exact ⟨.exit j,s',Den.block h1 (by intro e;injection e with e;subst e;simp at hb),h2⟩
  | _=>exact ⟨_,s',Den.block h1 (by simp),h2⟩
 | loop c ih =>
  intro s k r hD h;simp only [Bb] at h;split at h
  . rename_i L hL;split at h
    . rename_i v hv;obtain ⟨x,s',⟨h1,_⟩,h2⟩:=hD.loop _ (QQ.2 rfl) L hL nt v k r h;exact ⟨x,s',Den.weakIn h1 hv,h2⟩
    . cases hp:(Ab c).isEmpty with
      | false=>rw [hp] at h;cases h
      | true =>
        rw [hp] at h;simp only [cond] at h
        have hDc:D3.OK P T K D c:=⟨hD.ent,fun p hm=>(by rw [YF.1 hp] at hm;cases hm),fun p hm=>hD.any p hm⟩
        obtain ⟨x,s1,h1,h2⟩:=ih _ _ _ hDc h
        cases x with
        | normal =>
         simp only at h2;split at h2
         . rename_i v hv;obtain ⟨y,s',⟨_,h3⟩,h4⟩:=hD.loop _ (QQ.2 rfl) L hL nt v k r h2;exact ⟨y,s',Den.loop (.round (Den.weakT h1 hv) (h3 c rfl)),h4⟩
         . cases h2
        | _=>exact ⟨_,s1,Den.loop (.last (by simp) h1),h2⟩
  . cases h
 | rangeFunc f ps a b _ _ =>
  intro s k r hD h;simp only [Bb] at h;split at h
  . rename_i L hL;split at h
    . rename_i v hv;obtain ⟨x,s',⟨h1,_⟩,h2⟩:=hD.loop _ (QQ.2 rfl) L hL nt v k r h;exact ⟨x,s',Den.weakIn h1 hv,h2⟩
    . cases h
  . cases h
 | exit id=>intro s k r _ h;exact ⟨.exit id,s,Den.exit,h⟩
 | ret=>intro s k r _ h;exact ⟨.ret,s,Den.ret,h⟩
 | scope c _=>intro s k r _ h;simp [Bb] at h
 | label l=>intro s k r _ h;simp [Bb] at h
 | goto l=>intro s k r _ h;simp [Bb] at h
 | refuse w=>intro s k r _ h;simp [Bb] at h
theorem Qw {k:Exit->St3->Option α} {y:Exit} {s:St3} {r:α}:∀ {l:List (Exit × Tm)},Lc l (Mk k l) y s = some r->∃ (X:Tm) (w:X.den),X.dec s = some w /\ k y (X.enc w) = some r
 | [],h=>by cases h
 | (x,X) :: l,h=>by
  simp only [Lc] at h
  cases hb:Exit.eqb x y with
  | true =>
   rw [hb] at h;obtain rfl:=Exit.eqb_eq hb;simp only [cond] at h;split at h
   . rename_i w hw;exact ⟨X,w,hw,h⟩
   . cases h
  | false =>
   rw [hb] at h;exact Qw h
theorem B1n (hT:As P T) (hfol:P.follows .mixedOrders = true) {K:Ak} {D:D3 α} {c:Code} {H:Tm} {outs:List (Exit × Tm)} (B:H.den->(H.den->Option α)->KS α outs->Option α) (hD:D3.OK P T K D c)
  (hB:∀ v f ks,Bb P T K D c (H.enc v) (A5z H outs f ks) = B v f ks) (n:Nat):(⟨H,outs,A5 B n⟩:LO α).Sound P K (.loop c):=by
 intro nt v k r h
 have key:∀ (n:Nat) (v:H.den),A5 B n v (Mk k outs) = some r->∃ x s',Fh P K c ((H.enc v).st nt) x (s'.st nt) /\ k x s' = some r:=by
  intro n
  induction n with
  | zero=>intro v h;cases h
  | succ n ih =>
   intro v h;simp only [A5] at h;rw [<- hB] at h;obtain ⟨x,s1,h1,h2⟩:=Nn hT hfol (nt:=nt) _ _ _ _ hD h
   have out:∀ x,x ≠ .normal->Code.Den P K c ((H.enc v).st nt) x (s1.st nt)->Lc outs (Mk k outs) x s1 = some r->∃ x s',Fh P K c ((H.enc v).st nt) x (s'.st nt) /\ k x s' = some r:=by
    intro x hx hd hp;obtain ⟨X,w,hw,hk⟩:=Qw hp;exact ⟨x,X.enc w,.last hx (Den.weakT hd hw),hk⟩
   cases x with
   | normal =>
    simp only [A5z] at h2;split at h2
    . rename_i v' hv;obtain ⟨y,s2,h3,h4⟩:=ih v' h2;exact ⟨y,s2,.round (Den.weakT h1 hv) h3,h4⟩
    . cases h2
   | _=>exact out _ (by simp) h1 h2
 obtain ⟨x,s',h1,h2⟩:=key n v h
 exact ⟨x,s',⟨Den.loop h1,fun c' e=>by cases e;exact h1⟩,h2⟩
theorem A05 {s:St3} {nt:Nat} {rv:ResultVar} {v:SV} (h:A6h T s rv = some v) (hs:v.s (A3 s.boxes) = .v (v.v (A3 s.boxes))):∃ obs,Md T (s.st nt) rv = some (v.v (A3 s.boxes),obs) /\ ∀ p ∈ obs,p:=by
 unfold A6h at h;split at h
 . rename_i t
   refine ⟨[],?_,by simp⟩
   simp only [Md,St3.st,Ac,h,QP,hs]
 . rename_i a ty;split at h
   . rename_i hh row col ha;split at h
     . rename_i e hf fz cs hl;split at h
       . rename_i r hr;obtain rfl:=QA h;have hv:(s.st nt).val (.tmp a) = .v (.one (.hp hh row col)):=B6 ha rfl;unfold Xb at hr;split at hr
         . cases hr
         . rename_i ti hti;simp only [hl] at hr
           cases hb:(Nat.beq row 0 && Nat.ble (col + ti.size) cs.length && cs.all SV.cellB) with
           | false=>rw [hb] at hr;cases hr
           | true =>
            rw [hb] at hr;simp only [QE] at hb;obtain rfl:=QC hb.1.1;simp only [cond,QB] at hr;obtain ⟨z,hz,rfl⟩:=hr;obtain ⟨h1,h2⟩:=Gr (L:=A3 s.boxes) hz (Tq _ hb.2);rw [KE] at h1
            have hbx:(s.st nt).box hh = some ((B3.var e hf fz cs).box (A3 s.boxes)):=by
             show A0 hh (Ag (B3.box (A3 s.boxes)) s.boxes) = _;rw [Bl,hl];rfl
            refine ⟨[],?_,by simp⟩
            simp only [Md,hv,F6,hti,hbx,B3.box,ZH,hb.1.2,ZX,XM,ZD,cond,h1,YA]
       . cases h
     . cases h
   . cases h
theorem Aje {s:St3} {nt:Nat} {rv:ResultVar} {v:SV} {t:Sh} {q} (h:A6h T s rv = some v) (hc:Wy s.boxes t v = some (true,q)):∃ obs,Md T (s.st nt) rv = some (v.v (A3 s.boxes),obs) /\ ∀ p ∈ obs,p:=by
 obtain ⟨x,ks⟩:=q;exact A05 h (Oi hc rfl).1
theorem B1l {s:St3} {nt:Nat} {t:Sh} {rv:ResultVar} {g:Bool} {x:t.den} {ks:List Nat} (h:Ut T s rv t = some (g,x,ks)) (hg:g = true) :
  ∃ obs,I6 T (s.st nt) rv (some (t.v x)) = some (t.v x,obs,ks) /\ (∀ p ∈ obs,p) /\ ∀ k ∈ ks,k < 1000 /\ (A0 k s.boxes).isSome = true:=by
 subst hg;unfold Ut at h;split at h
 . rename_i v hv;obtain ⟨obs,h1,h2⟩:=Aje (nt:=nt) hv h;obtain ⟨_,⟨ob,h3,h4⟩,h5⟩:=Oi h rfl;have h3':Io (s.st nt).box (v.v (A3 s.boxes)) (t.v x) = some (ob,ks):=h3;refine ⟨obs ++ ob,?_,fun p hp=>?_,h5⟩
   . simp only [I6,h1,h3']
   . rcases QF.1 hp with hp | hp
     . exact h2 p hp
     . exact h4 p hp
 . cases h
theorem Awv {s:St3} {nt:Nat}:∀ {ts:List Sh} {rvs:List ResultVar} {x:HL ts} {g:Bool},I5 T s ts rvs = some (g,x)->g = true ->
  ∃ obs ks,Dm T (s.st nt) rvs ((Ax ts x).map some) = some (Ax ts x,obs,ks) /\ (∀ p ∈ obs,p) /\ ∀ k ∈ ks,k < 1000 /\ (A0 k s.boxes).isSome = true:=by
 have one:∀ {t:Sh} {rv:ResultVar} {g:Bool} {x:t.den} {ks:List Nat},Ut T s rv t = some (g,x,ks)->g = true ->
   ∃ obs,I6 T (s.st nt) rv (some (t.v x)) = some (t.v x,obs,ks) /\ (∀ p ∈ obs,p) /\ ∀ k ∈ ks,k < 1000 /\ (A0 k s.boxes).isSome = true:=by
  intro t rv g x ks h hg;subst hg;unfold Ut at h;split at h
  . rename_i v hv;obtain ⟨obs,h1,h2⟩:=Aje (nt:=nt) hv h;obtain ⟨_,⟨ob,h3,h4⟩,h5⟩:=Oi h rfl;have h3':Io (s.st nt).box (v.v (A3 s.boxes)) (t.v x) = some (ob,ks):=h3;refine ⟨obs ++ ob,?_,fun p hp=>?_,h5⟩
    . simp only [I6,h1,h3']
    . rcases QF.1 hp with hp | hp
      . exact h2 p hp
      . exact h4 p hp
  . cases h
 intro ts
 induction ts with
 | nil =>
  intro rvs x g h hg
  cases rvs with
  | nil=>exact ⟨[],[],rfl,by simp,by simp⟩
  | cons=>simp [I5] at h
 | cons t ts ih =>
  intro rvs x g h hg
  cases ts with
  | nil =>
   cases rvs with
   | nil=>simp [I5] at h
   | cons rv rvs =>
    cases rvs with
    | nil =>
     simp only [I5] at h;split at h
     . rename_i g1 y ks h1;simp only [QD,QG] at h;obtain ⟨rfl,rfl⟩:=h;obtain ⟨obs,o1,o2,o3⟩:=one h1 hg
       refine ⟨obs ++ [],ks ++ [],?_,by simpa using o2,by simpa using o3⟩
       simp only [Ax,QX,YQ,Dm,Qau,o1]
     . cases h
    | cons=>simp [I5] at h
  | cons u r =>
   cases rvs with
   | nil=>simp [I5] at h
   | cons rv rvs =>
    simp only [I5] at h;split at h
    . rename_i g1 y ks g2 ys h1 h2;simp only [QD,QG] at h;obtain ⟨rfl,rfl⟩:=h;simp only [QE] at hg;obtain ⟨obs,o1,o2,o3⟩:=one h1 hg.1;obtain ⟨obs',ks',p1,p2,p3⟩:=ih h2 hg.2;refine ⟨obs ++ obs',ks ++ ks',?_,fun p hp=>?_,fun k hk=>?_⟩
      . simp only [Ax,QX,Dm,Qau,List.tail_cons,o1];have:Dm T (s.st nt) rvs ((Ax (u :: r) ys).map some) = _:=p1;rw [this]
      . rcases QF.1 hp with hp | hp
        . exact o2 p hp
        . exact p2 p hp
      . rcases QF.1 hk with hk | hk
        . exact o3 k hk
        . exact p3 k hk
    . cases h
theorem Us:∀ (vs:List SV) (L:Nat->Nat) (i:Nat),(∀ v ∈ vs,v.s L = .v (v.v L))->Ag (SV.s L) (Ew i vs) = params i (vs.map (SV.v L))
 | [],_,_,_=>rfl
 | v :: r,L,i,h=>by
  have ih:=Us r L (i + 1) fun x hx=>h x (by simp [hx])
  simp only [Ew,Ag,QX,params] at ih ⊢
  rw [h v (by simp),ih]
theorem Apo {L:Nat->Nat}:∀ (ts:List Sh) (x:HL ts),∀ v ∈ Eh ts x,v.s L = .v (v.v L)
 | [],_,v,h=>by cases h
 | [t],x,v,h=>by
  simp only [Eh,QQ] at h;subst h;rw [(I1 t x).2,(I1 t x).1]
 | t :: u :: r,x,v,h=>by
  simp only [Eh,QT] at h;rcases h with rfl | h
  . rw [(I1 t x.1).2,(I1 t x.1).1]
  . exact Apo (u :: r) x.2 v (by simpa [Eh] using h)
theorem Avo (ts:List Sh) (x:HL ts) (nt:Nat):(Ww ts x).st nt = { slots:=params 0 (Ax ts x),boxes:=[],nt:=nt }:=by
 simp only [Ww,St3.st];rw [Us _ _ _ (Apo ts x),Zz];rfl
theorem B9y (hT:As P T) (hfol:P.follows .mixedOrders = true) {f:Nat} {fn:Func} {c:Code} {K:Ak} {ts rs:List Sh} {m:HL ts->Option (HL rs)} (D:D3 (HL rs))
  (hf : P.funcs[f]? = some fn) (hname : (fn.name == "runtime.NumGoroutine") = false) (hb : fn.body = some c) (hN : fn.ntmps = K.N) (hmv : K.mv = []) (hargs : ts.length <= K.N) (hD : D3.OK P T K D c)
  (h:∀ x,Bb P T K D c (Ww ts x) (Axm T rs fn.results.toList) = m x):(⟨f,ts,rs,m⟩:Ent).Sound P:=by
 intro nt x r hm;have hm:m x = some r:=hm;rw [<- h] at hm;obtain ⟨e,s',h1,h2⟩:=Nn hT hfol (nt:=nt) _ _ _ _ hD hm;rw [Avo] at h1
 have key:∀ e,e = .normal \/ e = .ret->Code.Den P K c { slots:=params 0 (Ax ts x),boxes:=[],nt:=nt } e (s'.st nt)->(match I5 T s' rs fn.results.toList with | some (g,y)=>bif g then some y else none | none=>none) = some r->Ix P f nt [] [] (Ax ts x) (J3 rs r) nt []:=by
  intro e he hd h2;split at h2
  . rename_i g y hy
    cases g with
    | false=>cases h2
    | true =>
     obtain rfl:=QA h2;obtain ⟨obs,ks,o1,o2,o3⟩:=Awv (nt:=nt) hy rfl
     exact Ar8 hT hf hname hb hN hmv (by rw [A8x];exact hargs) he hd o1 o2 (Ti o3) (Zy rs y)
  . cases h2
 cases e with
 | normal=>exact key _ (.inl rfl) h1 h2
 | ret=>exact key _ (.inr rfl) h1 h2
 | _=>cases h2
end Go.Ev

/- DERIVED. Functions that are handed boxes or hand out boxes, over shapes. -/
namespace Go.Ev
open Go
variable {P:Program} {T:Ty} {α:Type}
def Jd (T:Ty) (s:St3):List PK->List ResultVar->Option (Bool × List Nat)
 | [],[]=>some (true,[])
 | .im t :: r,rv :: rvs=>match Ut T s rv t,Jd T s r rvs with
  | some (g,_,ks),some (g',ks')=>some (g && g',ks ++ ks')
  | _,_=>none
 | _ :: r,_ :: rvs=>Jd T s r rvs
 | _,_=>none
def Qf (bs:List (Nat × B3)) (k:Nat):(c:CK)->SV->Option (c.den × List (Nat × Nat))
 | .im t,v=>bif t.one then (v.as false t).map fun x=>(x,[]) else none
 | .own e t,.hw h=>match A0 h bs with
  | some (.arr e' sh false xs)=>bif Nat.beq e e' then ((Sh.sl sh).to (.sl t) xs).map fun x=>(x,[(k,h)]) else none
  | _=>none
 | .ptr e t,.hp h 0 0=>match A0 h bs with
  | some (.var e' true false cs)=>bif Nat.beq e e' && cs.all SV.isD then (t.all false cs).map fun x=>(x,[(k,h)]) else none
  | _=>none
 | .back j,.hw h=>bif Nat.beq h j then some ((),[]) else none
 | .emp t,v=>match v.as false (.sl t) with
  | some []=>some ((),[])
  | _=>none
 | .tree e t,.hw h=>match A0 h bs with
  | some (.tree e' sh false xs)=>bif Nat.beq e e' then ((Sh.sl sh).to (.sl t) xs).map fun x=>(x,[(k,h)]) else none
  | _=>none
 | _,_=>none
def Fx (bs:List (Nat × B3)) (k:Nat):(cs:List CK)->List SV->Option (DC cs × List (Nat × Nat))
 | [],[]=>some ((),[])
 | [c],[v]=>Qf bs k c v
 | c :: d :: r,v :: vs=>match Qf bs k c v,Fx bs (k + 1) (d :: r) vs with
  | some (x,q),some (y,q')=>some ((x,y),q ++ q')
  | _,_=>none
 | _,_=>none
def A6f (T:Ty) (s:St3) (fbs:List (Nat × B3)) (k:Nat):(p:PK)->ResultVar->Option (p.den × List (Nat × Nat))
 | .im t,rv=>(Ut T s rv t).map fun q=>(q.2.1,[])
 | .one c,rv=>match A6h T s rv with
  | some v=>Qf fbs k c v
  | none=>none
 | .mix cs,rv=>match A6h T s rv with
  | some (.agg vs)=>Fx fbs k cs vs
  | _=>none
def Nz (T:Ty) (s:St3) (fbs:List (Nat × B3)) (k:Nat):(ps:List PK)->List ResultVar->Option (HP ps × List (Nat × Nat))
 | [],[]=>some ((),[])
 | [p],[rv]=>A6f T s fbs k p rv
 | p :: q :: r,rv :: rvs=>match A6f T s fbs k p rv,Nz T s fbs (k + p.n) (q :: r) rvs with
  | some (x,l),some (y,l')=>some ((x,y),l ++ l')
  | _,_=>none
 | _,_=>none
def Am6 (bs:List (Nat × B3)) (k:Nat):(c:CK)->Option c.den
 | .own e t=>match A0 k bs with
  | some (.arr e' sh false xs)=>bif Nat.beq e e' then (Sh.sl sh).to (.sl t) xs else none
  | _=>none
 | .ptr e t=>match A0 k bs with
  | some (.var e' true false cs)=>bif Nat.beq e e' && cs.all SV.isD then t.all false cs else none
  | _=>none
 | .tree e t=>match A0 k bs with
  | some (.tree e' sh false xs)=>bif Nat.beq e e' then (Sh.sl sh).to (.sl t) xs else none
  | _=>none
 | _=>none
def Abu (bs:List (Nat × B3)):(os:List (Nat × CK))->Option (DO os)
 | []=>some ()
 | [p]=>Am6 bs p.1 p.2
 | p :: q :: r=>match Am6 bs p.1 p.2,Abu bs (q :: r) with
  | some x,some y=>some (x,y)
  | _,_=>none
def Am8 {rs:List PK}:(os:List (Nat × CK))->HP rs->DO os->HR rs os
 | [],y,_=>y
 | _ :: _,y,z=>(y,z)
theorem Ax3 {rs:List PK}:∀ (os:List (Nat × CK)) (y:HP rs) (z:DO os),Lb (Am8 os y z) = y /\ B0b (Am8 os y z) = z
 | [],_,_=>⟨rfl,rfl⟩
 | _ :: _,_,_=>⟨rfl,rfl⟩
def R0 (os:List (Nat × CK)):List (Nat × Nat):=os.map fun p=>(p.1,p.1)
def Amm (T:Ty) (ts rs:List PK) (rvs:List ResultVar) (s:St3):Option (Bool × HR rs (Am 1000 ts)) :=
 match Jd T s rs rvs with
 | some (g,ks)=>match Nz T s (Bi s.boxes ks) 0 rs rvs,Abu (Bi s.boxes ks) (Am 1000 ts) with
  | some (y,q),some z=>bif El (q ++ R0 (Am 1000 ts)) && Bw (Cu 0 rs y ++ bxO (Am 1000 ts) z) (q ++ R0 (Am 1000 ts)) && (q.all (fun p=>Nat.blt p.2 1000) && (Am 1000 ts).all (fun p=>Nat.blt p.1 2000)) && (rs.flatMap PK.backs).all (fun j=>(A0 j (Cu 0 rs y)).isNone && (Am 1000 ts).any fun p=>Nat.beq p.1 j) then
    some (g,Am8 (Am 1000 ts) y z) else none
  | _,_=>none
 | none=>none
def A6q (T:Ty) (ts:List PK) (rvs:List ResultVar) (s:St3):(fs:List (List PK))->Option (HF (Am 1000 ts) fs)
 | []=>none
 | [rs]=>match Amm T ts rs rvs s with
  | some (g,y)=>bif g then some y else none
  | none=>none
 | rs :: r :: q=>match Amm T ts rs rvs s with
  | some (g,y)=>bif g then some (.inl y) else none
  | none=>match A6q T ts rvs s (r :: q) with
   | some z=>some (.inr z)
   | none=>none
def Axl (T:Ty) (ts:List PK) (fs:List (List PK)) (rvs:List ResultVar) (x:Exit) (s:St3):Option (HF (Am 1000 ts) fs) :=
 match x with
 | .normal=>A6q T ts rvs s fs
 | .ret=>A6q T ts rvs s fs
 | _=>none
section
variable {bs:List (Nat × B3)} {ρ L0 L':Nat->Nat} {p:Nat->Bool}
theorem Te {k:Nat} {c:CK} {v:SV} {x:c.den} {q:List (Nat × Nat)} (h:Qf bs k c v = some (x,q)) (hL0:A3 bs = L0)
  (hq:∀ r ∈ q,ρ r.2 = r.1 /\ p r.2 = true) (hbk:∀ j ∈ c.backs,ρ j = j /\ p j = true /\ L' j = L0 j) (hL:∀ k' b,(k',b) ∈ c.bx k x->L' k' = b.len) :
  v.cellB = true /\ (v.c L0).ren ρ = (c.sv k x).c L' /\ (v.c L0).okH p = true /\ (c.sv k x).cellB = true /\ G6 bs (c.bx k x) q:=by
 unfold Qf at h;split at h
 . rename_i t
   cases ht:t.one with
   | false=>rw [ht] at h;cases h
   | true =>
    rw [ht] at h;simp only [cond,QB,QG] at h;obtain ⟨y,hy,rfl,rfl⟩:=h;obtain rfl:=A3b hy
    exact ⟨ht,rfl,rfl,ht,fun k b hb=>by cases hb⟩
 . rename_i e t hh;split at h
   . rename_i e' sh xs hl
     cases he:Nat.beq e e' with
     | false=>rw [he] at h;cases h
     | true =>
      rw [he] at h;simp only [cond,QB,QG] at h;obtain ⟨y,hy,rfl,rfl⟩:=h;obtain ⟨rfl,rfl⟩:=Dl hy;obtain rfl:=QC he
      have hle:L0 hh = xs.length:=by rw [<- hL0];simp [A3,hl,B3.len]
      have hk:L' k = xs.length:=hL k (.arr e sh false xs) (by simp [CK.bx])
      obtain ⟨r1,r2⟩:=hq (k,hh) (by simp)
      refine ⟨rfl,?_,r2,rfl,fun k' b hb=>?_⟩
      . simp only [SV.c,C.ren,CK.sv,hle,hk];rw [show ρ hh = k from r1]
      . simp only [CK.bx,QQ,QG] at hb;obtain ⟨rfl,rfl⟩:=hb
        exact ⟨hh,_,by simp,hl,rfl,fun _ _=>rfl,fun _=>⟨rfl,rfl⟩⟩
   . cases h
 . rename_i e t hh;split at h
   . rename_i e' cs hl
     cases he:(Nat.beq e e' && cs.all SV.isD) with
     | false=>rw [he] at h;cases h
     | true =>
      rw [he] at h;simp only [cond,QB,QG] at h;obtain ⟨y,hy,rfl,rfl⟩:=h;simp only [QE] at he;obtain rfl:=QC he.1;obtain ⟨a1,_,_,a4⟩:=Cf hy
      obtain ⟨r1,r2⟩:=hq (k,hh) (by simp)
      refine ⟨rfl,?_,r2,rfl,fun k' b hb=>?_⟩
      . simp only [SV.c,C.ren,CK.sv];rw [show ρ hh = k from r1]
      . simp only [CK.bx,QQ,QG] at hb;obtain ⟨rfl,rfl⟩:=hb
        refine ⟨hh,_,by simp,hl,rfl,fun L1 L2=>?_,fun _=>⟨rfl,rfl⟩⟩
        simp only [B3.box,a1,Il,A8f,a4]
   . cases h
 . rename_i j hh
   cases he:Nat.beq hh j with
   | false=>rw [he] at h;cases h
   | true =>
    rw [he] at h;simp only [cond,QD,QG] at h;obtain ⟨_,rfl⟩:=h;obtain rfl:=QC he
    obtain ⟨b1,b2,b3⟩:=hbk hh (by simp [CK.backs])
    refine ⟨rfl,?_,b2,rfl,fun k b hb=>by cases hb⟩
    simp only [SV.c,C.ren,CK.sv,b1,b3]
 . rename_i t;split at h
   . rename_i ha
     cases h;obtain rfl:=A3b ha
     exact ⟨rfl,rfl,rfl,rfl,fun k b hb=>by cases hb⟩
   . cases h
 . rename_i e t hh;split at h
   . rename_i e' sh xs hl
     cases he:Nat.beq e e' with
     | false=>rw [he] at h;cases h
     | true =>
      rw [he] at h;simp only [cond,QB,QG] at h;obtain ⟨y,hy,rfl,rfl⟩:=h;obtain ⟨rfl,rfl⟩:=Dl hy;obtain rfl:=QC he
      have hle:L0 hh = xs.length:=by rw [<- hL0];simp [A3,hl,B3.len]
      have hk:L' k = xs.length:=hL k (.tree e sh false xs) (by simp [CK.bx])
      obtain ⟨r1,r2⟩:=hq (k,hh) (by simp)
      refine ⟨rfl,?_,r2,rfl,fun k' b hb=>?_⟩
      . simp only [SV.c,C.ren,CK.sv,hle,hk];rw [show ρ hh = k from r1]
      . simp only [CK.bx,QQ,QG] at hb;obtain ⟨rfl,rfl⟩:=hb
        exact ⟨hh,_,by simp,hl,rfl,fun _ _=>rfl,fun _=>⟨rfl,rfl⟩⟩
   . cases h
 . cases h
theorem Zq:∀ {cs:List CK} {k:Nat} {vs:List SV} {x:DC cs} {q:List (Nat × Nat)},Fx bs k cs vs = some (x,q)->A3 bs = L0 ->
  (∀ r ∈ q,ρ r.2 = r.1 /\ p r.2 = true)->(∀ j ∈ cs.flatMap CK.backs,ρ j = j /\ p j = true /\ L' j = L0 j)->(∀ k' b,(k',b) ∈ L7 k cs x->L' k' = b.len) ->
  (vs.map (SV.c L0)).map (C.ren ρ) = (Ue k cs x).map (SV.c L') /\ (vs.map (SV.c L0)).all (C.okH p) = true /\ G6 bs (L7 k cs x) q
 | [],k,[],x,q,h,_,_,_,_=>⟨rfl,rfl,fun k b hb=>by cases hb⟩
 | [],k,_ :: _,_,_,h,_,_,_,_=>by simp [Fx] at h
 | [c],k,[],_,_,h,_,_,_,_=>by simp [Fx] at h
 | [c],k,[v],x,q,h,h0,hq,hbk,hL=>by
  obtain ⟨_,h1,h2,_,h3⟩:=Te (x:=x) h h0 hq (by simpa using hbk) hL
  exact ⟨by simp only [QX,YQ,Ue,h1],by simp only [QX,YQ,XZ,Qas,h2,ZD],h3⟩
 | [c],k,v :: w :: r,_,_,h,_,_,_,_=>by simp [Fx] at h
 | c :: d :: r,k,[],_,_,h,_,_,_,_=>by simp [Fx] at h
 | c :: d :: r,k,v :: vs,x,q,h,h0,hq,hbk,hL=>by
  simp only [Fx] at h;split at h
  . rename_i x1 q1 y1 q2 h1 h2;simp only [QD,QG] at h;obtain ⟨rfl,rfl⟩:=h
    obtain ⟨_,a1,a2,_,a3⟩:=Te h1 h0 (fun r hr=>hq r (QF.2 (.inl hr))) (fun j hj=>hbk j (by simp only [Qag,QF];exact .inl hj)) (fun k' b hb=>hL k' b (by simp only [L7];exact QF.2 (.inl hb)))
    obtain ⟨b1,b2,b3⟩:=Zq h2 h0 (fun r hr=>hq r (QF.2 (.inr hr))) (fun j hj=>hbk j (by rw [Qag];exact QF.2 (.inr hj))) (fun k' b hb=>hL k' b (by simp only [L7];exact QF.2 (.inr hb)))
    refine ⟨?_,?_,a3.app b3⟩
    . simp only [QX,Ue,a1];rw [b1]
    . simp only [QX,XZ,a2,b2,ZD]
  . cases h
theorem Ajd {s:St3} {nt:Nat} {k:Nat} {pk:PK} {rv:ResultVar} {x:pk.den} {q:List (Nat × Nat)} (h:A6f T s bs k pk rv = some (x,q)) (hL0:A3 bs = A3 s.boxes)
  (hq:∀ r ∈ q,ρ r.2 = r.1 /\ p r.2 = true) (hbk:∀ j ∈ pk.backs,ρ j = j /\ p j = true /\ L' j = A3 s.boxes j) (hL:∀ k' b,(k',b) ∈ pk.bx k x->L' k' = b.len)
  {g:Bool} {ks:List Nat} (hk:Jd T s [pk] [rv] = some (g,ks)) (hg:g = true) :
  ∃ d xv obs,I6 T (s.st nt) rv d = some (xv,obs,ks) /\ (∀ p ∈ obs,p) /\ xv.ren ρ = (pk.sv k x).v L' /\ xv.okH p = true /\ G6 bs (pk.bx k x) q /\ (pk.sv k x).s L' = .v ((pk.sv k x).v L') /\ ∀ j ∈ ks,j < 1000 /\ (A0 j s.boxes).isSome = true:=by
 cases pk with
 | im t =>
  simp only [A6f,QB,QG] at h;obtain ⟨⟨g1,y,ks1⟩,h1,rfl,rfl⟩:=h;simp only [Jd,h1,QD,QG,XM,XE] at hk;obtain ⟨rfl,rfl⟩:=hk;obtain ⟨obs,a1,a2,a3⟩:=B1l (nt:=nt) h1 hg
  refine ⟨_,_,obs,a1,a2,?_,?_,(fun k b hb=>by cases hb),?_,a3⟩
  . rw [show (PK.im t).sv k y = t.sv y from rfl,(I1 t y).1];unfold Sh.v
    cases t.one with
    | true=>rfl
    | false =>
     simp only [cond,V.ren,XH];rfl
  . unfold Sh.v
    cases t.one with
    | true=>rfl
    | false=>simp [V.okH,C.okH]
  . exact (I1 t y).2.trans (by rw [show (PK.im t).sv k y = t.sv y from rfl,(I1 t y).1])
 | one c =>
  simp only [Jd,QD,QG] at hk;obtain ⟨rfl,rfl⟩:=hk;simp only [A6f] at h;split at h
  . rename_i v hv;obtain ⟨a1,a2,a3,a4,a5⟩:=Te h hL0 hq hbk hL
    obtain ⟨obs,b1,b2⟩:=A05 (nt:=nt) hv (by rw [(Fg a1).1,(Fg a1).2])
    refine ⟨none,v.v (A3 s.boxes),obs,by simp only [I6,b1],b2,?_,?_,a5,?_,by simp⟩
    . rw [(Fg a1).2];show V.one _ = (c.sv k x).v L';rw [(Fg a4).2,a2]
    . rw [(Fg a1).2];exact a3
    . show (c.sv k x).s L' = .v ((c.sv k x).v L');rw [(Fg a4).1,(Fg a4).2]
  . cases h
 | mix cs =>
  simp only [Jd,QD,QG] at hk;obtain ⟨rfl,rfl⟩:=hk;simp only [A6f] at h;split at h
  . rename_i vs hv;obtain ⟨a1,a2,a3⟩:=Zq h hL0 hq hbk hL;obtain ⟨obs,b1,b2⟩:=A05 (nt:=nt) hv rfl
    refine ⟨none,(SV.agg vs).v (A3 s.boxes),obs,by simp only [I6,b1],b2,?_,a2,a3,rfl,by simp⟩
    show V.agg _ = V.agg _;rw [a1]
  . cases h
theorem Acz {s:St3} {nt:Nat}:∀ {ps:List PK} {k:Nat} {rvs:List ResultVar} {x:HP ps} {q:List (Nat × Nat)},Nz T s bs k ps rvs = some (x,q)->A3 bs = A3 s.boxes ->
  (∀ r ∈ q,ρ r.2 = r.1 /\ p r.2 = true)->(∀ j ∈ ps.flatMap PK.backs,ρ j = j /\ p j = true /\ L' j = A3 s.boxes j)->(∀ k' b,(k',b) ∈ Cu k ps x->L' k' = b.len) ->
  ∀ {g:Bool} {ks:List Nat},Jd T s ps rvs = some (g,ks)->g = true ->
  ∃ ds xs obs,Dm T (s.st nt) rvs ds = some (xs,obs,ks) /\ (∀ p ∈ obs,p) /\ xs.map (V.ren ρ) = (Bp k ps x).map (SV.v L') /\ xs.all (V.okH p) = true /\ G6 bs (Cu k ps x) q /\ (∀ v ∈ Bp k ps x,v.s L' = .v (v.v L')) /\ ∀ j ∈ ks,j < 1000 /\ (A0 j s.boxes).isSome = true
 | [],k,[],x,q,h,_,_,_,_,g,ks,hk,_=>by
  simp only [Jd,QD,QG] at hk;obtain ⟨_,rfl⟩:=hk
  exact ⟨[],[],[],rfl,by simp,rfl,rfl,(fun k b hb=>by cases hb),by simp [Bp],by simp⟩
 | [],k,_ :: _,_,_,h,_,_,_,_,_,_,_,_=>by simp [Nz] at h
 | [pk],k,[],_,_,h,_,_,_,_,_,_,_,_=>by simp [Nz] at h
 | [pk],k,[rv],x,q,h,h0,hq,hbk,hL,g,ks,hk,hg=>by
  obtain ⟨d,xv,obs,a1,a2,a3,a4,a5,a6,a7⟩:=Ajd (nt:=nt) (x:=x) h h0 hq (by simpa using hbk) hL hk hg
  refine ⟨[d],[xv],obs ++ [],?_,by simpa using a2,?_,?_,a5,?_,a7⟩
  . simp only [Dm,Qau,a1,XE]
  . simp only [QX,YQ,Bp,a3]
  . simp [a4]
  . simpa [Bp] using a6
 | [pk],k,rv :: w :: r,_,_,h,_,_,_,_,_,_,_,_=>by simp [Nz] at h
 | pk :: p2 :: r,k,[],_,_,h,_,_,_,_,_,_,_,_=>by simp [Nz] at h
 | pk :: p2 :: r,k,rv :: rvs,x,q,h,h0,hq,hbk,hL,g,ks,hk,hg=>by
  simp only [Nz] at h;split at h
  . rename_i x1 q1 y1 q2 h1 h2;simp only [QD,QG] at h;obtain ⟨rfl,rfl⟩:=h
    obtain ⟨g1,ks1,g2,ks2,e1,e2,rfl,rfl⟩:∃ g1 ks1 g2 ks2,Jd T s [pk] [rv] = some (g1,ks1) /\ Jd T s (p2 :: r) rvs = some (g2,ks2) /\ g = (g1 && g2) /\ ks = ks1 ++ ks2:=by
     cases pk with
     | im t =>
      simp only [Jd] at hk;split at hk
      . rename_i g1 a ks1 g2 ks2 i1 i2;simp only [QD,QG] at hk
        exact ⟨g1,ks1,g2,ks2,by simp [Jd,i1],i2,hk.1.symm,hk.2.symm⟩
      . cases hk
     | one c=>exact ⟨true,[],g,ks,rfl,hk,by simp,rfl⟩
     | mix cs=>exact ⟨true,[],g,ks,rfl,hk,by simp,rfl⟩
    simp only [QE] at hg
    obtain ⟨d,xv,obs,a1,a2,a3,a4,a5,a6,a7⟩:=Ajd (nt:=nt) h1 h0 (fun r hr=>hq r (QF.2 (.inl hr))) (fun j hj=>hbk j (by rw [Qag];exact QF.2 (.inl hj))) (fun k' b hb=>hL k' b (by simp only [Cu];exact QF.2 (.inl hb))) e1 hg.1
    obtain ⟨ds,xs,obs',b1,b2,b3,b4,b5,b6,b7⟩:=Acz (nt:=nt) h2 h0 (fun r hr=>hq r (QF.2 (.inr hr))) (fun j hj=>hbk j (by rw [Qag];exact QF.2 (.inr hj))) (fun k' b hb=>hL k' b (by simp only [Cu];exact QF.2 (.inr hb))) e2 hg.2
    refine ⟨d :: ds,xv :: xs,obs ++ obs',?_,fun p hp=>(QF.1 hp).elim (a2 p) (b2 p),?_,?_,a5.app b5,?_,fun j hj=>(QF.1 hj).elim (a7 j) (b7 j)⟩
    . simp only [Dm,Qau,List.tail_cons,a1,b1]
    . simp only [QX,Bp,a3,b3]
    . simp only [XZ,a4,b4,ZD]
    . simpa [Bp] using ⟨a6,b6⟩
  . cases h
end
end Go.Ev

/- DERIVED. THE USE for a function that is handed boxes or hands out boxes. -/
namespace Go.Ev
open Go
variable {P:Program} {T:Ty} {α:Type}
theorem Ajh {bs:List (Nat × B3)} {k:Nat} {c:CK} {x:c.den} (h:Am6 bs k c = some x):G6 bs (c.bx k x) [(k,k)]:=by
 unfold Am6 at h;split at h
 . rename_i e t;split at h
   . rename_i e' sh xs hl
     cases he:Nat.beq e e' with
     | false=>rw [he] at h;cases h
     | true =>
      rw [he] at h;obtain ⟨rfl,rfl⟩:=Dl h;obtain rfl:=QC he;intro k' b hb;simp only [CK.bx,QQ,QG] at hb;obtain ⟨rfl,rfl⟩:=hb
      exact ⟨_,_,by simp,hl,rfl,fun _ _=>rfl,fun _=>⟨rfl,rfl⟩⟩
   . cases h
 . rename_i e t;split at h
   . rename_i e' cs hl
     cases he:(Nat.beq e e' && cs.all SV.isD) with
     | false=>rw [he] at h;cases h
     | true =>
      rw [he] at h;simp only [cond] at h;simp only [QE] at he;obtain rfl:=QC he.1;obtain ⟨a1,_,_,a4⟩:=Cf h;intro k' b hb;simp only [CK.bx,QQ,QG] at hb;obtain ⟨rfl,rfl⟩:=hb
      refine ⟨_,_,by simp,hl,rfl,fun L1 L2=>?_,fun _=>⟨rfl,rfl⟩⟩
      simp only [B3.box,a1,Il,A8f,a4]
   . cases h
 . rename_i e t;split at h
   . rename_i e' sh xs hl
     cases he:Nat.beq e e' with
     | false=>rw [he] at h;cases h
     | true =>
      rw [he] at h;obtain ⟨rfl,rfl⟩:=Dl h;obtain rfl:=QC he;intro k' b hb;simp only [CK.bx,QQ,QG] at hb;obtain ⟨rfl,rfl⟩:=hb
      exact ⟨_,_,by simp,hl,rfl,fun _ _=>rfl,fun _=>⟨rfl,rfl⟩⟩
   . cases h
 . cases h
theorem Ad7 {bs:List (Nat × B3)}:∀ {os:List (Nat × CK)} {z:DO os},Abu bs os = some z->G6 bs (bxO os z) (R0 os)
 | [],z,_=>fun k b hb=>by cases hb
 | [p],z,h=>Ajh (c:=p.2) h
 | p :: q :: r,z,h=>by
  simp only [Abu] at h;split at h
  . rename_i x y h1 h2;obtain rfl:=QA h;exact G6.app (q:=[(p.1,p.1)]) (Ajh h1) (Ad7 h2)
  . cases h
theorem Azs:∀ {cs:List CK} {k:Nat} {x:DC cs} {k':Nat} {b:B3},(k',b) ∈ L7 k cs x->∃ c,(k',c) ∈ Am5 k cs:=by
 have one:∀ {c:CK} {k:Nat} {x:c.den} {k':Nat} {b:B3},(k',b) ∈ c.bx k x->∃ d,(k',d) ∈ c.owns k:=by
  intro c k x k' b h
  cases c <;> simp [CK.bx,CK.owns] at h ⊢ <;> exact h.1
 intro cs
 induction cs with
 | nil=>intro k x k' b h;cases h
 | cons c r ih =>
  intro k x k' b h
  cases r with
  | nil =>
   obtain ⟨d,hd⟩:=one (c:=c) h;exact ⟨d,QF.2 (.inl hd)⟩
  | cons d r =>
   simp only [L7] at h;rcases QF.1 h with h | h
   . obtain ⟨d,hd⟩:=one h;exact ⟨d,QF.2 (.inl hd)⟩
   . obtain ⟨d,hd⟩:=ih h;exact ⟨d,QF.2 (.inr hd)⟩
theorem Azr:∀ {ps:List PK} {k:Nat} {x:HP ps} {k':Nat} {b:B3},(k',b) ∈ Cu k ps x->∃ c,(k',c) ∈ Am k ps:=by
 have one:∀ {p:PK} {k:Nat} {x:p.den} {k':Nat} {b:B3},(k',b) ∈ p.bx k x->∃ d,(k',d) ∈ p.owns k:=by
  intro p k x k' b h
  cases p with
  | im t=>cases h
  | one c=>cases c <;> simp [PK.bx,PK.owns,CK.bx,CK.owns] at h ⊢ <;> exact h.1
  | mix cs=>exact Azs (cs:=cs) h
 intro ps
 induction ps with
 | nil=>intro k x k' b h;cases h
 | cons p r ih =>
  intro k x k' b h
  cases r with
  | nil =>
   obtain ⟨d,hd⟩:=one (p:=p) h;exact ⟨d,QF.2 (.inl hd)⟩
  | cons d r =>
   simp only [Cu] at h;rcases QF.1 h with h | h
   . obtain ⟨d,hd⟩:=one h;exact ⟨d,QF.2 (.inl hd)⟩
   . obtain ⟨d,hd⟩:=ih h;exact ⟨d,QF.2 (.inr hd)⟩
theorem B5c (L:Nat->Nat):∀ (ps:List PK) (k:Nat) (x:HP ps),∀ v ∈ Bp k ps x,v.s L = .v (v.v L):=by
 have one:∀ (p:PK) (k:Nat) (x:p.den),(p.sv k x).s L = .v ((p.sv k x).v L):=by
  intro p k x
  cases p with
  | im t=>exact (I1 t x).2.trans (by rw [show (PK.im t).sv k x = t.sv x from rfl,(I1 t x).1])
  | one c=>cases c <;> rfl
  | mix cs=>rfl
 intro ps
 induction ps with
 | nil=>intro k x v h;cases h
 | cons p r ih =>
  intro k x v h
  cases r with
  | nil =>
   simp only [Bp,QQ] at h;subst h;exact one p k x
  | cons d r =>
   simp only [Bp,QT] at h;rcases h with rfl | h
   . exact one p k x.1
   . exact ih _ x.2 v (by simpa [Bp] using h)
theorem B5q {L:Nat->Nat} {vs:List SV} (h:∀ v ∈ vs,v.s L = .v (v.v L)):(Gt vs).s L = Da (vs.map (SV.v L)):=by
 match vs,h with
 | [],_=>rfl
 | [x],h=>exact h x (by simp)
 | x :: y :: r,_=>rfl
theorem Axb {ρ:Nat->Nat} (xs:List V):(Da xs).ren ρ = Da (xs.map (V.ren ρ)):=by
 match xs with
 | []=>rfl
 | [x]=>rfl
 | x :: y :: r=>rfl
theorem Axc {p:Nat->Bool} {xs:List V} (h:xs.all (V.okH p) = true):(Da xs).okH p = true:=by
 match xs,h with
 | [],_=>rfl
 | [x],h=>simpa [Da,S.okH] using h
 | x :: y :: r,h=>simpa [Da,S.okH] using h
def Tv (rn:List (Nat × Nat)) (h:Nat):Nat:=match It rn h with
 | some k=>k
 | none=>0
theorem Zj {β:Type}:∀ {l:List (Nat × β)} {k:Nat} {b:β},(k,b) ∈ l->(A0 k l).isSome = true
 | [],_,_,h=>by cases h
 | (k1,b1) :: r,k,b,h=>by
  simp only [A0]
  cases hb:Nat.beq k1 k with
  | true=>rfl
  | false =>
   rcases QT.1 h with h | h
   . obtain ⟨rfl,rfl⟩:=YT h;simp at hb
   . exact Zj h
theorem Adr (hT:As P T) {f:Nat} {fn:Func} {c:Code} {K:Ak} {nt:Nat} {ts rs:List PK} {x:HP ts} {e:Exit} {s:St3} {Y:HR rs (Am 1000 ts)}
  (hf : P.funcs[f]? = some fn) (hname : (fn.name == "runtime.NumGoroutine") = false) (hb : fn.body = some c) (hN : fn.ntmps = K.N) (hmv : K.mv = []) (hargs : (Bp 1000 ts x).length <= K.N)
  (he:e = .normal \/ e = .ret) (hd:Code.Den P K c ((⟨Ew 0 (Bp 1000 ts x),Cu 1000 ts x⟩:St3).st nt) e (s.st nt)) (h:Amm T ts rs fn.results.toList s = some (true,Y)) :
  Iy.Den P ⟨f,ts,rs⟩ nt x Y:=by
 unfold Amm at h;split at h
 case h_2=>cases h
 rename_i g ks hks;split at h
 case h_2=>cases h
 rename_i y q z hy hz
 cases hc:(El (q ++ R0 (Am 1000 ts)) && Bw (Cu 0 rs y ++ bxO (Am 1000 ts) z) (q ++ R0 (Am 1000 ts)) && (q.all (fun p=>Nat.blt p.2 1000) && (Am 1000 ts).all (fun p=>Nat.blt p.1 2000)) && (rs.flatMap PK.backs).all (fun j=>(A0 j (Cu 0 rs y)).isNone && (Am 1000 ts).any fun p=>Nat.beq p.1 j)) with
 | false=>rw [hc] at h;cases h
 | true =>
 rw [hc] at h;simp only [cond,QD,QG] at h;obtain ⟨rfl,rfl⟩:=h;simp only [QE] at hc;obtain ⟨⟨⟨c1,c2⟩,c3,c5⟩,c4⟩:=hc;generalize hrn:q ++ R0 (Am 1000 ts) = rn at *;obtain ⟨m1,m2⟩:=Ax3 (rs:=rs) (Am 1000 ts) y z
 have hB:Ay ⟨f,ts,rs⟩ (Am8 (Am 1000 ts) y z) = Cu 0 rs y ++ bxO (Am 1000 ts) z:=by
  unfold Ay;rw [m1,m2]
 generalize hBd:Cu 0 rs y ++ bxO (Am 1000 ts) z = B at *
 have qrn:∀ p ∈ q,p ∈ rn:=fun p hp=>by rw [<- hrn];exact QF.2 (.inl hp)
 have irn:∀ p ∈ R0 (Am 1000 ts),p ∈ rn:=fun p hp=>by rw [<- hrn];exact QF.2 (.inr hp)
 have fwdm:∀ k h,(k,h) ∈ rn->Ib rn k = h /\ Tv rn h = k /\ A0 k rn = some h:=fun k h hm=>by
  obtain ⟨e1,e2⟩:=Mi c1 hm
  exact ⟨by unfold Ib;rw [e1],by unfold Tv;rw [e2],e1⟩
 have outS:∀ k,(A0 k (Br B)).isSome = (A0 k rn).isSome:=fun k=>by
  unfold Br;rw [Ac,KU,Ex c2 k]
 have okP:∀ k h,(k,h) ∈ rn->((A0 (Tv rn h) (Br B)).isSome && Nat.beq (Ib rn (Tv rn h)) h) = true:=fun k h hm=>by
  obtain ⟨e1,e2,e3⟩:=fwdm k h hm;rw [e2,outS k,e3,e1];simp
 have hL':∀ k b,(k,b) ∈ B->A3 B k = b.len:=fun k b hb=>by
  have:=Uv c2 c1 hb;unfold A3;rw [this]
 have hlf:A3 (Bi s.boxes ks) = A3 s.boxes:=Cs ks s.boxes;have hout:=Ad7 hz
 have hIdm:∀ j,j ∈ rs.flatMap PK.backs->(j,j) ∈ R0 (Am 1000 ts):=fun j hj=>by
  have h4:=QM.1 c4 j hj;simp only [QE] at h4;obtain ⟨p,hp,hpj⟩:=XB.1 h4.2;obtain rfl:=QC hpj;exact ZS.2 ⟨p,hp,rfl⟩
 have lenB:∀ k h b,(k,b) ∈ B->(k,h) ∈ rn->∀ b',A0 h (Bi s.boxes ks) = some b'->b'.len = b.len->A3 B k = A3 s.boxes h:=fun k h b hb _ b' hb' hl=>by
  rw [hL' k b hb,<- hl,<- hlf];unfold A3;rw [hb']
 have hInB:G6 (Bi s.boxes ks) (bxO (Am 1000 ts) z) (R0 (Am 1000 ts)):=hout
 have hbk:∀ j ∈ rs.flatMap PK.backs,Tv rn j = j /\ ((A0 (Tv rn j) (Br B)).isSome && Nat.beq (Ib rn (Tv rn j)) j) = true /\ A3 B j = A3 s.boxes j:=fun j hj=>by
  have hm:=irn _ (hIdm j hj);refine ⟨(fwdm j j hm).2.1,okP j j hm,?_⟩
  have hS:(A0 j B).isSome = true:=by rw [Ex c2 j,(fwdm j j hm).2.2];rfl
  obtain ⟨b,hb⟩:=ZC.1 hS;have hmem:=C4 hb;have hmem':=hmem;rw [<- hBd] at hmem';rcases QF.1 hmem' with hm1 | hm1
  . have h4:=QM.1 c4 j hj;simp only [QE,Option.isNone_iff_eq_none] at h4;have:=Zj hm1;rw [h4.1] at this;cases this
  . obtain ⟨h',b',i1,i2,i3,_,_⟩:=hInB j b hm1;obtain ⟨p,hp,hpe⟩:=ZS.1 i1;obtain ⟨rfl,rfl⟩:=YT hpe;exact lenB _ _ b hmem hm b' i2 i3
 obtain ⟨ds,xs,obs,a1,a2,a3,a4,a5,a6,a7⟩:=Acz (nt:=nt) (ρ:=Tv rn) (L':=A3 B) (p:=fun h=>(A0 (Tv rn h) (Br B)).isSome && Nat.beq (Ib rn (Tv rn h)) h) hy hlf
  (fun r hr=>⟨(fwdm r.1 r.2 (qrn _ hr)).2.1,okP r.1 r.2 (qrn _ hr)⟩) hbk (fun k' b hb=>hL' k' b (by rw [<- hBd];exact QF.2 (.inl hb))) hks rfl
 have hIn:G6 (Bi s.boxes ks) B rn:=by rw [<- hBd,<- hrn];exact a5.app hout
 have hr:(Gt (Bp 0 rs y)).s (A3 B) = (Da xs).ren (Tv rn):=by
  rw [B5q a6,Axb,a3]
 have hst:(⟨Ew 0 (Bp 1000 ts x),Cu 1000 ts x⟩:St3).st nt = { slots:=params 0 ((Bp 1000 ts x).map (SV.v (A3 (Cu 1000 ts x)))),boxes:=Br (Cu 1000 ts x),nt:=nt }:=by
  simp only [St3.st];rw [Us _ _ _ (B5c _ ts 1000 x)];rfl
 rw [hst] at hd
 have hfin:=Axn hT (bs':=Br B) hf hname hb hN hmv (by rw [ZH];exact hargs) he hd a1 a2 (Ti a7) (Ib rn) (Tv rn)
  (fun k b hb=>?_) (fun k k' hk hk' e=>?_) (Axc a4) (fun k b hb=>?_)
 . unfold Iy.Den;rw [m1,hB,hr];exact hfin
 . unfold Br at hb;rw [Ac] at hb;obtain ⟨b3,hb3,rfl⟩:=QB.1 hb;obtain ⟨h',b',i1,i2,i3,i4,i5⟩:=hIn k b3 (C4 hb3);obtain ⟨e1,_,_⟩:=fwdm k h' i1;refine ⟨?_,(i5 _).1,(i5 _).2,?_⟩
   . show A0 (Ib rn k) (Aw (Ag (B3.box (A3 s.boxes)) s.boxes) ks) = _;rw [Ga,Ac,e1,i2];exact XU some (i4 _ _)
   . rw [e1];rw [<- hrn] at i1;rcases QF.1 i1 with i1 | i1
     . exact .inl (by simpa [ZQ] using QM.1 c3 _ i1)
     . obtain ⟨p,hp5,hpe⟩:=ZS.1 i1;obtain ⟨rfl,rfl⟩:=YT hpe
       exact .inr ⟨rfl,by simpa [ZQ] using QM.1 c5 _ hp5⟩
 . rw [outS k] at hk;rw [outS k'] at hk';obtain ⟨h1,e1⟩:=ZC.1 hk;obtain ⟨h2,e2⟩:=ZC.1 hk';obtain ⟨f1,f2,_⟩:=fwdm k h1 (Ce e1);obtain ⟨f3,f4,_⟩:=fwdm k' h2 (Ce e2);rw [f1,f3] at e;rw [<- f2,<- f4,e]
 . unfold Br at hb;rw [Ac] at hb;obtain ⟨b3,hb3,_⟩:=QB.1 hb;obtain ⟨d,hd'⟩:=Azr (C4 hb3);have hm:=irn (k,k) (ZS.2 ⟨_,hd',rfl⟩);obtain ⟨e1,_,e3⟩:=fwdm k k hm
   exact ⟨e1,by rw [outS k,e3];rfl,by simpa [ZQ] using QM.1 c5 _ hd'⟩
theorem B61 (hT:As P T) (hfol:P.follows .mixedOrders = true) {f:Nat} {fn:Func} {c:Code} {K:Ak} {ts:List PK} {forms:List (List PK)} {m:HP ts->Option (HF (Am 1000 ts) forms)} (D:D3 (HF (Am 1000 ts) forms))
  (hf : P.funcs[f]? = some fn) (hname : (fn.name == "runtime.NumGoroutine") = false) (hb : fn.body = some c) (hN : fn.ntmps = K.N) (hmv : K.mv = []) (hargs : ts.length <= K.N) (hD : D3.OK P T K D c)
  (h:∀ x,Bb P T K D c ⟨Ew 0 (Bp 1000 ts x),Cu 1000 ts x⟩ (Axl T ts forms fn.results.toList) = m x):(⟨f,ts,forms,m⟩:Ent3).Sound P:=by
 intro nt x z hm;have hm:m x = some z:=hm;rw [<- h] at hm;obtain ⟨e,s',h1,h2⟩:=Nn hT hfol (nt:=nt) _ _ _ _ hD hm
 have hlen:(Bp 1000 ts x).length <= K.N:=by
  have:∀ (ps:List PK) (k:Nat) (x:HP ps),(Bp k ps x).length = ps.length:=by
   intro ps
   induction ps with
   | nil=>intro k x;rfl
   | cons p r ih =>
    intro k x
    cases r with
    | nil=>rfl
    | cons d r=>simp only [Bp,QU];rw [ih];rfl
  rw [this];exact hargs
 have key:∀ (fs:List (List PK)) (z:HF (Am 1000 ts) fs),e = .normal \/ e = .ret->A6q T ts fn.results.toList s' fs = some z->A8w (Am 1000 ts) fs z fun rs y=>Iy.Den P ⟨f,ts,rs⟩ nt x y:=by
  intro fs
  induction fs with
  | nil=>intro z _ _;trivial
  | cons rs r ih =>
   intro z he hz
   cases r with
   | nil =>
    simp only [A6q] at hz;split at hz
    . rename_i g y hy
      cases g with
      | false=>cases hz
      | true =>
       obtain rfl:=QA hz;exact Adr hT hf hname hb hN hmv hlen he h1 hy
    . cases hz
   | cons r q =>
    simp only [A6q] at hz;split at hz
    . rename_i g y hy
      cases g with
      | false=>cases hz
      | true =>
       obtain rfl:=QA hz;exact Adr hT hf hname hb hN hmv hlen he h1 hy
    . split at hz
      . rename_i w hw;obtain rfl:=QA hz;exact ih w he hw
      . cases hz
 cases e with
 | normal=>exact key forms z (.inl rfl) h2
 | ret=>exact key forms z (.inr rfl) h2
 | _=>cases h2
end Go.Ev

/- DERIVED. A range over what slices.Backward hands back, over shapes. -/
namespace Go.Ev
open Go
variable {P:Program} {T:Ty} {α:Type}
def Aca (p0 p1 i:Nat) (z:Int) (s:St3):St3:={ s with slots:=Ah p1 (.d (.int .i64) z) (Ah p0 (.d (.int .i64) (i:Int)) s.slots) }
def Yz (wr:Nat->Bool) (p0 p1:Nat) (s:St3):St3:={ s with slots:=s.slots.filter fun p=>!(wr p.1 || (Nat.beq p.1 p0 || Nat.beq p.1 p1)) }
theorem Apm {p0 p1 i:Nat} {z:Int} {s:St3} {nt:Nat}:(Aca p0 p1 i z s).st nt = Nu p0 p1 i z (s.st nt):=by
 simp only [Aca,St3.st,Nu,<- Cz];rfl
theorem Zm {β γ:Type} (f:β->γ) (q:Nat->Bool):∀ l:List (Nat × β),Ag f (l.filter fun p=>q p.1) = (Ag f l).filter fun p=>q p.1
 | []=>rfl
 | (j,y) :: r=>by
  have ih:=Zm f q r;simp only [Ag] at ih;simp only [Ag,QX,YP]
  cases q j with
  | true=>simp [ih]
  | false=>simp [ih]
theorem Ahg {wr:Nat->Bool} {p0 p1:Nat} {s:St3} {nt:Nat}:(Yz wr p0 p1 s).st nt = Om wr p0 p1 (s.st nt):=by
 simp only [Yz,St3.st,Om]
 rw [Zm (q:=fun k=>!(wr k || (Nat.beq k p0 || Nat.beq k p1)))]
def Alh (H:Tm) (outs:List (Exit × Tm)) (wr:Nat->Bool) (p0 p1:Nat) (f:H.den->Option α) (ks:KS α outs) (x:Exit) (s:St3):Option α :=
 match x with
 | .normal=>match H.dec (Yz wr p0 p1 s) with
  | some v=>f v
  | none=>none
 | .ret=>Lc outs ks .ret (Yz wr p0 p1 s)
 | .exit id=>Lc outs ks (.exit id) (Yz wr p0 p1 s)
 | _=>none
def Aq5 (P:Program) (T:Ty) (K:Ak) (D:D3 α) (H:Tm) (outs:List (Exit × Tm)) (p0 p1:Nat) (asg body:Code) (i:Nat) (z:Int) (v:H.den) (f:H.den->Option α) (ks:KS α outs):Option α :=
 Bb P T K D asg (Aca p0 p1 i z (H.enc v)) fun x sA=>match x with
  | .normal=>Bb P T K D body sA (Alh H outs (fun t=>asg.wr t || body.wr t) p0 p1 f ks)
  | _=>none
def Mg {V Ks:Type} (zsOf:V->List Int) (B:Nat->Int->V->(V->Option α)->Ks->Option α) (zs:List Int):Nat->V->(V->Option α)->Ks->Option α
 | 0,v,d,_=>d v
 | i + 1,v,d,ks=>B i (zs.getD i 0) v (fun v'=>gd (decide (zsOf v' = zs)) (Mg zsOf B zs i v' d ks)) ks
def Mf {V Ks:Type} (zsOf:V->List Int) (B:Nat->Int->V->(V->Option α)->Ks->Option α) (Dn:V->Ks->Option α) (v:V) (ks:Ks):Option α :=
 gd (decide ((zsOf v).length <= 4611686018427387904)) (Mg zsOf B (zsOf v) (zsOf v).length v (fun v'=>Dn v' ks) ks)
theorem Ajv {g:Bool} {x:Option α} {r:α} (h:gd g x = some r):g = true /\ x = some r:=by cases g with | true=>exact ⟨rfl,h⟩ | false=>cases h
theorem Tm.dec_weak {X:Tm} {s:St3} {w:X.den} {nt:Nat} (h:X.dec s = some w):Bx (s.st nt) ((X.enc w).st nt):=fun _ _ _ _ hs=>Tm.dec_ok h hs
theorem Ad3 (hT:As P T) (hfol:P.follows .mixedOrders = true) {K:Ak} {D:D3 α} {g p0 p1 fB:Nat} {asg body:Code} {H:Tm} {outs:List (Exit × Tm)} (zsOf:H.den->List Int)
  (B:Nat->Int->H.den->(H.den->Option α)->KS α outs->Option α) (Dn:H.den->KS α outs->Option α) (hBk:Ahx P fB) (hrA:asg.rf = false) (hrB:body.rf = false) (hp0:Nat.blt p0 K.N = true) (hp1:Nat.blt p1 K.N = true)
  (hDa:D3.OK P T K D asg) (hDb:D3.OK P T K D body) (hz:∀ v,A0 g (H.enc v).slots = some (.d (.clo fB (.ref (.sl (.int .i64)))) (zsOf v)))
  (hB:∀ i z v f ks,Aq5 P T K D H outs p0 p1 asg body i z v f ks = B i z v f ks) (hDn:∀ v ks,Lc outs ks .normal (H.enc v) = Dn v ks) :
  (⟨H,outs,Mf zsOf B Dn⟩:LO α).Sound P K (.rangeFunc (.tmp g) #[p0,p1] asg body):=by
 intro nt v k r h;obtain ⟨hlen,h⟩:=Ajv h;simp only [QR] at hlen;obtain ⟨Z,hZ⟩:∃ Z,Z = zsOf v:=⟨_,rfl⟩;rw [<- hZ] at h hlen
 have clo:∀ v',zsOf v' = Z->A0 g ((H.enc v').st nt).slots = some (A8l fB Z):=fun v' e=>by
  simp only [St3.st,Ac,hz v',QP,e];rfl
 have key:∀ (i:Nat) (v:H.den),zsOf v = Z->Mg zsOf B Z i v (fun v'=>Dn v' (Mk k outs)) (Mk k outs) = some r ->
   ∃ x s1 X w,F2 P K g p0 p1 fB Z asg body i ((H.enc v).st nt) x (St3.st s1 nt) /\ Tm.dec X s1 = some w /\ k x (X.enc w) = some r:=by
  intro i
  induction i with
  | zero =>
   intro v hv h;simp only [Mg] at h;rw [<- hDn] at h;obtain ⟨X,w,h1,h2⟩:=Qw h;exact ⟨.normal,H.enc v,X,w,.done (clo v hv),h1,h2⟩
  | succ i ih =>
   intro v hv h;simp only [Mg] at h;rw [<- hB] at h;unfold Aq5 at h;obtain ⟨x,sA,a1,a2⟩:=Nn hT hfol (nt:=nt) _ _ _ _ hDa h;rw [Apm] at a1
   cases x with
   | normal =>
    simp only at a2;obtain ⟨y,s1,b1,b2⟩:=Nn hT hfol (nt:=nt) _ _ _ _ hDb a2
    have out:(y = .ret \/ ∃ id,y = .exit id)->Lc outs (Mk k outs) y (Yz (fun t=>asg.wr t || body.wr t) p0 p1 s1) = some r ->
      ∃ x s1 X w,F2 P K g p0 p1 fB Z asg body (i + 1) ((H.enc v).st nt) x (St3.st s1 nt) /\ Tm.dec X s1 = some w /\ k x (X.enc w) = some r:=by
     intro hy hp;obtain ⟨X,w,h1,h2⟩:=Qw hp;refine ⟨y,_,X,w,?_,h1,h2⟩;rw [Ahg];exact .stop (clo v hv) hy a1 b1
    cases y with
    | normal =>
     simp only [Alh] at b2;split at b2
     . rename_i v' hv';obtain ⟨e1,e2⟩:=Ajv b2
       obtain ⟨x,s2,X,w,c1,c2,c3⟩:=ih v' (by simpa using e1) e2
       exact ⟨x,s2,X,w,.round (clo v hv) a1 b1 (by rw [<- Ahg];exact Tm.dec_weak hv') c1,c2,c3⟩
     . cases b2
    | ret=>exact out (.inl rfl) b2
    | exit id=>exact out (.inr ⟨id,rfl⟩) b2
    | goto l=>cases b2
    | panic c=>cases b2
    | outgrown=>cases b2
   | _=>cases a2
 obtain ⟨x,s1,X,w,c1,c2,c3⟩:=key Z.length v hZ.symm h
 have:=Den.range hBk hlen hrA hrB (by simpa [ZQ] using hp0) (by simpa [ZQ] using hp1) c1
 exact ⟨x,X.enc w,⟨Den.weak this (Tm.dec_weak c2),fun c' e=>by cases e⟩,c3⟩
end Go.Ev
