/- DERIVED. The evaluator over shapes of data: calls, trees, all paths. -/
import Derived.Test.YtaebdcandpfmgaaGreatEc

set_option linter.all false
set_option linter.unusedVariables false
set_option linter.unusedSimpArgs false

/- DERIVED. What is settled, and results, over shapes; templates of states. -/
namespace Go.Ev
open Go
variable {P:Program} {T:Ty}
theorem Yf {bs:List (Nat × B3)} {t:Sh} {v:SV} {g:Bool} {x:t.den} {ks:List Nat} (ht:t.one=true) (h:F1 bs t v=some (g,x,ks)) (hg:g=true) :
  v.cellB=true/\(∃ ob,Mo (A1 · (Aj (B3.box (A3 bs)) bs)) (v.c (A3 bs)) (.i (hd1 (t.cells x)))=some (ob,ks) /\ ∀ p ∈ ob,p) /\ ∀ k ∈ ks,k<1000/\(A1 k bs).isSome=true:=by
 unfold F1 at h;split at h
 . rename_i hh;split at h
   . rename_i t0;split at h
     . rename_i e sh fz xs hl
       cases hk:Nat.blt hh 1000 with
       | false=>rw [hk] at h;cases h
       | true =>
        rw [hk] at h;simp only [cond,QB,QI] at h;obtain ⟨y,hy,rfl,rfl,rfl⟩:=h;obtain ⟨rfl,rfl⟩:=Dy hy
        have hle:A3 bs hh=xs.length:=by simp [A3,hl,B3.len]
        refine ⟨rfl,⟨[0+A3 bs hh<=(xs.map λy=>(sh.cells y).map C.i).length,((xs.map λy=>(sh.cells y).map C.i).drop 0).take (A3 bs hh)=(xs.map sh.cells).map (·.map .i)],?_,?_⟩,?_⟩
        . simp only [Mo,SV.c,Br,hl,QQ,B3.box,Sh.cells,hd1,XF,XH,XP,ZG,cond]
        . simp only [QU,YJ,or_false,forall_eq_or_imp,forall_eq]
          refine ⟨by simp [hle],?_⟩
          rw [ZT,hle,ZV (by simp),XJ]
          rfl
        . intro k hk';simp only [QS] at hk';subst hk'
          exact ⟨by simpa [ZP] using hk,by rw [hl];rfl⟩
     . cases h
   . cases h
 . rename_i hh off len;split at h
   . rename_i t0;split at h
     . rename_i e sh fz xs hl
       cases hk:Nat.blt hh 1000 with
       | false=>rw [hk] at h;cases h
       | true =>
        rw [hk] at h;simp only [cond,QB,QI] at h;obtain ⟨y,hy,rfl,rfl,rfl⟩:=h;obtain ⟨rfl,rfl⟩:=Dy hy;simp only [QO] at hg;refine ⟨rfl,⟨[off+len<=(xs.map λy=>(sh.cells y).map C.i).length,((xs.map λy=>(sh.cells y).map C.i).drop off).take len=(((xs.drop off).take len).map sh.cells).map (·.map .i)],?_,?_⟩,?_⟩
        . simp only [Mo,SV.c,Br,hl,QQ,B3.box,Sh.cells,hd1,XF,XH,XP,ZG,cond]
        . simp only [QU,YJ,or_false,forall_eq_or_imp,forall_eq]
          refine ⟨by simpa using hg,?_⟩
          rw [XJ,JL,KL];rfl
        . intro k hk';simp only [QS] at hk';subst hk'
          exact ⟨by simpa [ZP] using hk,by rw [hl];rfl⟩
     . cases h
   . cases h
 . rename_i cs;split at h
   . rename_i t0
     cases hd:cs.all SV.isD with
     | false=>rw [hd] at h;cases h
     | true =>
      rw [hd] at h;simp only [cond,QB,QI] at h;obtain ⟨y,hy,rfl,rfl,rfl⟩:=h;obtain ⟨_,_,h3,_⟩:=Cl hy
      refine ⟨hd,⟨[C.i (.ref 0 (cs.map SV.i0))=C.i (.ref 0 (t0.cells y))],rfl,by simp [h3 hd]⟩,by simp⟩
   . cases h
 . rename_i h1 h2 h3;rw [ht] at h;simp only [cond,QB,QI] at h;obtain ⟨y,hy,rfl,rfl,rfl⟩:=h;obtain ⟨q1,ob,q2,q3⟩:=S4 (L:=A3 bs) ht hy
   refine ⟨Pe q1,⟨ob,?_,q3⟩,by simp⟩
   have hI:C4 (v.c (A3 bs))=true:=Mw (A8p q1);unfold Mo;split
   . rename_i he _;rw [he] at hI;cases hI
   . rw [q2];rfl
def P2 (bs:List (Nat × B3)) (cs:List SV) (ds:List I) (ks:List Nat):Prop :=
 (∃ ob,F0 (A1 · (Aj (B3.box (A3 bs)) bs)) (cs.map (SV.c (A3 bs))) (ds.map .i)=some (ob,ks) /\ ∀ p ∈ ob,p) /\ ∀ k ∈ ks,k<1000/\(A1 k bs).isSome=true
theorem P2.app {bs:List (Nat × B3)}:∀ {cs cs':List SV} {ds ds':List I} {ks ks':List Nat},P2 bs cs ds ks->P2 bs cs' ds' ks'->P2 bs (cs++cs') (ds++ds') (ks++ks')
 | [],cs',[],ds',ks,ks',h,h'=>by
  obtain ⟨⟨ob,h,_⟩,_⟩:=h;simp only [YL,F0,QD,QI] at h;obtain ⟨_,rfl⟩:=h;exact h'
 | [],cs',d::ds,ds',_,_,h,_=>by obtain ⟨⟨ob,h,_⟩,_⟩:=h;simp [F0] at h
 | c::cs,cs',[],ds',_,_,h,_=>by obtain ⟨⟨ob,h,_⟩,_⟩:=h;simp [F0] at h
 | c::cs,cs',d::ds,ds',ks,ks',h,h'=>by
  obtain ⟨⟨ob,h,ho⟩,hk⟩:=h;simp only [QW,F0] at h;split at h
  . rename_i p k q l h1 h2;simp only [QD,QI] at h;obtain ⟨rfl,rfl⟩:=h;obtain ⟨⟨ob2,h3,ho2⟩,hk2⟩:=P2.app (cs:=cs) (ds:=ds) (ks:=l) ⟨⟨q,h2,λx hx=>ho x (QF.2 (.inr hx))⟩,λk hk'=>hk k (QF.2 (.inr hk'))⟩ h';refine ⟨⟨p++ob2,?_,λx hx=>?_⟩,λj hj=>?_⟩
    . simp only [YI,QW,F0,h1,h3,ZO]
    . rcases QF.1 hx with hx | hx
      . exact ho x (QF.2 (.inl hx))
      . exact ho2 x hx
    . rw [ZO] at hj;rcases QF.1 hj with hj | hj
      . exact hk j (QF.2 (.inl hj))
      . exact hk2 j hj
  . cases h
theorem B8v {bs:List (Nat × B3)}:∀ (t:Sh) (cs:List SV) (g:Bool) (x:t.den) (ks:List Nat) (r:List SV),t.impB bs cs=some (g,x,ks,r)->g=true->∃ pre,cs=pre++r/\P2 bs pre (t.cells x) ks/\pre.all SV.cellB=true:=by
 have cell:∀ (t:Sh) (c:SV) (r q:List SV) (g:Bool) (x:t.den) (ks:List Nat),t.one=true->(F1 bs t c).map (λp=>(p.1,p.2.1,p.2.2,r))=some (g,x,ks,q)->g=true->∃ pre,c::r=pre++q/\P2 bs pre (t.cells x) ks/\pre.all SV.cellB=true:=by
  intro t c r q g x ks ht h hg;simp only [QB,QI] at h;obtain ⟨⟨g',x',k'⟩,h1,rfl,rfl,rfl,rfl⟩:=h;obtain ⟨hc,⟨ob,h2,h3⟩,h4⟩:=Yf ht h1 hg
  refine ⟨[c],rfl,⟨⟨ob++[],?_,by simpa using h3⟩,h4⟩,by simp [hc]⟩
  rw [Ry t x' ht];simp only [QW,YL,F0,h2,XC]
 intro t
 induction t with
 | pair a b iha ihb =>
  intro cs g x ks r h hg;simp only [Sh.impB] at h;split at h
  . rename_i g1 y k1 q h1;split at h
    . rename_i g2 z k2 q' h2;simp only [QD,QI] at h;obtain ⟨rfl,rfl,rfl,rfl⟩:=h;simp only [QE] at hg;obtain ⟨p1,e1,c1,i1⟩:=iha _ _ _ _ _ h1 hg.1;obtain ⟨p2,e2,c2,i2⟩:=ihb _ _ _ _ _ h2 hg.2
      exact ⟨p1++p2,by rw [e1,e2,ZO],c1.app c2,by simp [i1,i2]⟩
    . cases h
  . cases h
 | st t ih=>intro cs g x ks r h hg;exact ih _ _ _ _ _ h hg
 | unit =>
  intro cs g x ks r h _;simp only [Sh.impB,QD,QI] at h;obtain ⟨_,_,rfl,rfl⟩:=h
  exact ⟨[],rfl,⟨⟨[],rfl,by simp⟩,by simp⟩,rfl⟩
 | int k=>intro cs g x ks r h hg;cases cs with | nil=>simp [Sh.impB] at h | cons c cs=>exact cell _ _ _ _ _ _ _ rfl h hg
 | bool=>intro cs g x ks r h hg;cases cs with | nil=>simp [Sh.impB] at h | cons c cs=>exact cell _ _ _ _ _ _ _ rfl h hg
 | str=>intro cs g x ks r h hg;cases cs with | nil=>simp [Sh.impB] at h | cons c cs=>exact cell _ _ _ _ _ _ _ rfl h hg
 | nil=>intro cs g x ks r h hg;cases cs with | nil=>simp [Sh.impB] at h | cons c cs=>exact cell _ _ _ _ _ _ _ rfl h hg
 | fn f=>intro cs g x ks r h hg;cases cs with | nil=>simp [Sh.impB] at h | cons c cs=>exact cell _ _ _ _ _ _ _ rfl h hg
 | sl t _=>intro cs g x ks r h hg;cases cs with | nil=>simp [Sh.impB] at h | cons c cs=>exact cell _ _ _ _ _ _ _ rfl h hg
 | ref t _=>intro cs g x ks r h hg;cases cs with | nil=>simp [Sh.impB] at h | cons c cs=>exact cell _ _ _ _ _ _ _ rfl h hg
 | clo f c _=>intro cs g x ks r h hg;cases cs with | nil=>simp [Sh.impB] at h | cons v cs=>exact cell _ _ _ _ _ _ _ rfl h hg
theorem Fq {L:Nat->Nat} {v:SV} (h:v.cellB=true):v.s L = .v (.one (v.c L))/\v.v L = .one (v.c L):=by cases v <;> first | exact ⟨rfl,rfl⟩ | cases h
theorem Px {bs:List (Nat × B3)} {t:Sh} {v:SV} {g:Bool} {x:t.den} {ks:List Nat} (h:Yd bs t v=some (g,x,ks)) (hg:g=true) :
  v.s (A3 bs) = .v (v.v (A3 bs))/\(∃ ob,Ja (A1 · (Aj (B3.box (A3 bs)) bs)) (v.v (A3 bs)) (t.v x)=some (ob,ks) /\ ∀ p ∈ ob,p) /\ ∀ k ∈ ks,k<1000/\(A1 k bs).isSome=true:=by
 unfold Yd at h
 cases ht:t.one with
 | true =>
  rw [ht] at h;obtain ⟨hc,⟨ob,h1,h2⟩,h3⟩:=Yf ht h hg;obtain ⟨e1,e2⟩:=Fq (L:=A3 bs) hc
  refine ⟨by rw [e1,e2],⟨ob,?_,h2⟩,h3⟩
  simp only [e2,Sh.v,ht,cond,Ja,h1]
 | false =>
  rw [ht] at h;simp only [cond] at h;split at h
  . rename_i cs;split at h
    . rename_i g1 y k1 hi;simp only [QD,QI] at h;obtain ⟨rfl,rfl,rfl⟩:=h;obtain ⟨pre,e,⟨⟨ob,h1,h2⟩,h3⟩,_⟩:=B8v _ _ _ _ _ _ hi hg;rw [XC] at e;subst e;refine ⟨rfl,⟨ob,?_,h2⟩,h3⟩;simp only [SV.v,Sh.v,ht,cond,Ja,h1]
    . cases h
  . cases h
theorem V1 {bs:List (Nat × B3)} {L:Nat->Nat} {ks:List Nat} (h:∀ k ∈ ks,k<1000/\(A1 k bs).isSome=true):Gq (Aj (B3.box L) bs) ks=true:=by
 unfold Gq;refine QM.2 λk hk=>?_;obtain ⟨h1,h2⟩:=h k hk;rw [Ae,JE,h2];simpa [ZP] using h1
theorem Se {s s':St3} {nt:Nat} {t:Nat} {sh:Sh} {g:Bool} (h:Mu s t sh=some (g,s')) (hg:g=true) :
  ∃ (x':V) (ob:List Prop),W0 (s.st nt) t x'=some (s'.st nt,ob) /\ ∀ p ∈ ob,p:=by
 unfold Mu at h;split at h
 . rename_i v hv;split at h
   . rename_i g1 x ks hc;simp only [QD,QI] at h;obtain ⟨rfl,rfl⟩:=h;obtain ⟨h1,⟨ob,h2,h3⟩,h4⟩:=Px hc hg;refine ⟨sh.v x,ob,?_,h3⟩
     have hl:A1 t (s.st nt).slots=some (.v (v.v (A3 s.boxes))):=by
      simp only [St3.st,Ae,hv,QQ,h1]
     have h2':Ja (A1 · (s.st nt).boxes) (v.v (A3 s.boxes)) (sh.v x)=some (ob,ks):=h2;have hz:Gq (s.st nt).boxes ks=true:=V1 h4;simp only [W0,hl,h2',hz,cond,QD,QI,and_true];simp only [St3.st];congr 1
     . rw [D2,<- (Il (L:=A3 s.boxes) sh x).2,Dc]
     . rw [D2];exact Gk _ _ _
   . cases h
 . cases h
inductive TS where
 | d (t:Sh)
 | ag (t:Sh)
 | k (v:SV)
 | hs (h:Nat)
@[reducible] def TS.den:TS->Type
 | .d t=>t.den
 | .ag t=>t.den
 | .k _=>Unit
 | .hs _=>Nat × Nat
def TS.enc:(t:TS)->t.den->SV
 | .d t,x=>.d t x
 | .ag t,x=>.agg (t.exp x)
 | .k v,_=>v
 | .hs h,x=>.hs h x.1 x.2
def SV.same:SV->SV->Bool
 | .hw h,.hw h'=>Nat.beq h h'
 | .hp h r c,.hp h' r' c'=>Nat.beq h h'&&Nat.beq r r'&&Nat.beq c c'
 | .dead,_=>true
 | .d t _,.d t' _=>(match t with
  | .nil=>true
  | .fn _=>true
  | _=>false)&&t.eqb t'
 | _,_=>false
def TS.dec:(t:TS)->SV->Option t.den
 | .d t,v=>match v with
  | .rf cs=>match t with
   | .ref t0=>bif cs.all SV.isD then t0.all false cs else none
   | _=>none
  | v=>bif t.one then v.as true t else none
 | .ag t,v=>match v with
  | .agg cs=>t.all true cs
  | _=>none
 | .k c,v=>bif c.same v then some () else none
 | .hs h,v=>match v with
  | .hs h' o l=>bif Nat.beq h h' then some (o,l) else none
  | _=>none
inductive TB where
 | arr (e:TypeId) (t:Sh) (fz:Bool)
 | var (e:TypeId) (hf fz:Bool) (cs:List TS)
 | tree (e:TypeId) (t:Sh) (fz:Bool)
@[reducible] def DL:List TS->Type
 | []=>Unit
 | t::r=>t.den × DL r
def J8:(l:List TS)->DL l->List SV
 | [],_=>[]
 | t::r,x=>t.enc x.1::J8 r x.2
def Ab5:(l:List TS)->List SV->Option (DL l)
 | [],[]=>some ()
 | t::r,v::vs=>match t.dec v,Ab5 r vs with
  | some x,some xs=>some (x,xs)
  | _,_=>none
 | _,_=>none
@[reducible] def TB.den:TB->Type
 | .arr _ t _=>List t.den
 | .var _ _ _ cs=>DL cs
 | .tree _ t _=>List t.den
def TB.enc:(b:TB)->b.den->B3
 | .arr e t fz,xs=>.arr e t fz xs
 | .var e hf fz cs,xs=>.var e hf fz (J8 cs xs)
 | .tree e t fz,xs=>.tree e t fz xs
def TB.dec:(b:TB)->B3->Option b.den
 | .arr e t fz,b=>match b with
  | .arr e' t' fz' xs=>bif Nat.beq e e'&&(fz==fz') then (Sh.sl t').to (.sl t) xs else none
  | .rep e' fz' n cs=>bif Nat.beq e e'&&(fz==fz') then (t.all true cs).map λx=>List.replicate n x else none
  | _=>none
 | .var e hf fz cs,b=>match b with
  | .var e' hf' fz' vs=>bif Nat.beq e e'&&(hf==hf')&&(fz==fz')&&vs.all SV.cellB then (match Ab5 cs vs with
   | some x=>bif (J8 cs x).all SV.cellB&&(!hf || (J8 cs x).all SV.imm) then some x else none
   | none=>none) else none
  | _=>none
 | .tree e t fz,b=>match b with
  | .tree e' t' fz' xs=>bif Nat.beq e e'&&(fz==fz') then (Sh.sl t').to (.sl t) xs else none
  | _=>none
@[reducible] def DK (β:Type) (den:β->Type):List (Nat × β)->Type
 | []=>Unit
 | (_,t)::r=>den t × DK β den r
def Aku:(l:List (Nat × TS))->DK TS TS.den l->List (Nat × SV)
 | [],_=>[]
 | (k,t)::r,x=>(k,t.enc x.1)::Aku r x.2
def Ab4:(l:List (Nat × TS))->List (Nat × SV)->Option (DK TS TS.den l)
 | [],[]=>some ()
 | (k,t)::r,(j,v)::vs=>bif Nat.beq k j then (match t.dec v,Ab4 r vs with
  | some x,some xs=>some (x,xs)
  | _,_=>none) else none
 | _,_=>none
def Uo:(l:List (Nat × TB))->DK TB TB.den l->List (Nat × B3)
 | [],_=>[]
 | (k,t)::r,x=>(k,t.enc x.1)::Uo r x.2
def Ab6:(l:List (Nat × TB))->List (Nat × B3)->Option (DK TB TB.den l)
 | [],[]=>some ()
 | (k,t)::r,(j,v)::vs=>bif Nat.beq k j then (match t.dec v,Ab6 r vs with
  | some x,some xs=>some (x,xs)
  | _,_=>none) else none
 | _,_=>none
structure Tm where
 slots:List (Nat × TS)
 boxes:List (Nat × TB):=[]
 drop:List Nat:=[]
 fz:List (Nat × Sh):=[]
@[reducible] def Tm.den (X:Tm):Type:=DK TS TS.den X.slots × DK TB TB.den X.boxes
def Tm.enc (X:Tm) (x:X.den):St3:=⟨Aku X.slots x.1,Uo X.boxes x.2⟩
def Sr:List (Nat × TS)->List (Nat × SV)->List (Nat × SV)
 | X,sl=>sl.filter λp=>X.any λq=>Nat.beq q.1 p.1
def Af9:List Nat->St3->Option St3
 | [],s=>some s
 | h::r,s=>bif Nat.blt h 1000&&s.clean h then Af9 r { s with boxes:=C1 h s.boxes } else none
def Jq:List (Nat × Sh)->St3->Option St3
 | [],s=>some s
 | (t,sh)::r,s=>match A1 t s.slots with
  | some (.d _ _)=>Jq r s
  | _=>match Mu s t sh with
   | some (g,s1)=>bif g then Jq r s1 else none
   | none=>none
def Tm.dec1 (X:Tm) (s:St3):Option X.den :=
 match Af9 X.drop { s with slots:=Sr X.slots s.slots } with
 | some s2=>match Ab4 X.slots s2.slots,Ab6 X.boxes s2.boxes with
  | some x,some y=>some (x,y)
  | _,_=>none
 | none=>none
def Tm.dec (X:Tm) (s:St3):Option X.den :=
 match Jq X.fz s with
 | some s1=>X.dec1 s1
 | none=>none
end Go.Ev

/- DERIVED. Calls that are handed boxes or hand out boxes, over shapes. -/
namespace Go.Ev
open Go
variable {P:Program} {T:Ty}
inductive CK where
 | im (t:Sh)
 | own (e:TypeId) (t:Sh)
 | ptr (e:TypeId) (t:Sh)
 | back (k:Nat)
 | win (e:TypeId) (t:Sh)
 | tree (e:TypeId) (t:Sh)
 | emp (t:Sh)
@[reducible] def CK.den:CK->Type
 | .im t=>t.den
 | .own _ t=>List t.den
 | .ptr _ t=>t.den
 | .back _=>Unit
 | .win _ t=>List t.den × Nat × Nat
 | .tree _ t=>List t.den
 | .emp _=>Unit
@[reducible] def DC:List CK->Type
 | []=>Unit
 | [c]=>c.den
 | c::d::r=>c.den × DC (d::r)
inductive PK where
 | im (t:Sh)
 | one (c:CK)
 | mix (cs:List CK)
@[reducible] def PK.den:PK->Type
 | .im t=>t.den
 | .one c=>c.den
 | .mix cs=>DC cs
@[reducible] def HP:List PK->Type
 | []=>Unit
 | [p]=>p.den
 | p::q::r=>p.den × HP (q::r)
def CK.sv (k:Nat):(c:CK)->c.den->SV
 | .im t,x=>.d t x
 | .own _ _,_=>.hw k
 | .ptr _ _,_=>.hp k 0 0
 | .back j,_=>.hw j
 | .win _ _,x=>.hs k x.2.1 x.2.2
 | .tree _ _,_=>.hw k
 | .emp t,_=>.d (.sl t) []
def CK.bx (k:Nat):(c:CK)->c.den->List (Nat × B3)
 | .own e t,xs=>[(k,.arr e t false xs)]
 | .ptr e t,x=>[(k,.var e true false (t.exp x))]
 | .win e t,x=>[(k,.arr e t false x.1)]
 | .tree e t,xs=>[(k,.tree e t false xs)]
 | _,_=>[]
def Vw (k:Nat):(cs:List CK)->DC cs->List SV
 | [],_=>[]
 | [c],x=>[c.sv k x]
 | c::d::r,x=>c.sv k x.1::Vw (k+1) (d::r) x.2
def Lx (k:Nat):(cs:List CK)->DC cs->List (Nat × B3)
 | [],_=>[]
 | [c],x=>c.bx k x
 | c::d::r,x=>c.bx k x.1++Lx (k+1) (d::r) x.2
def PK.n:PK->Nat
 | .mix cs=>cs.length
 | _=>1
def PK.isIm:PK->Bool
 | .im _=>true
 | _=>false
def PK.sv (k:Nat):(p:PK)->p.den->SV
 | .im t,x=>t.sv x
 | .one c,x=>c.sv k x
 | .mix cs,x=>.agg (Vw k cs x)
def PK.bx (k:Nat):(p:PK)->p.den->List (Nat × B3)
 | .im _,_=>[]
 | .one c,x=>c.bx k x
 | .mix cs,x=>Lx k cs x
def Bx (k:Nat):(ps:List PK)->HP ps->List SV
 | [],_=>[]
 | [p],x=>[p.sv k x]
 | p::q::r,x=>p.sv k x.1::Bx (k+p.n) (q::r) x.2
def D5 (k:Nat):(ps:List PK)->HP ps->List (Nat × B3)
 | [],_=>[]
 | [p],x=>p.bx k x
 | p::q::r,x=>p.bx k x.1++D5 (k+p.n) (q::r) x.2
def CK.owns (k:Nat):CK->List (Nat × CK)
 | .own e t=>[(k,.own e t)]
 | .ptr e t=>[(k,.ptr e t)]
 | .win e t=>[(k,.own e t)]
 | .tree e t=>[(k,.tree e t)]
 | _=>[]
def Aqt (k:Nat):List CK->List (Nat × CK)
 | []=>[]
 | c::r=>c.owns k++Aqt (k+1) r
def PK.owns (k:Nat):PK->List (Nat × CK)
 | .im _=>[]
 | .one c=>c.owns k
 | .mix cs=>Aqt k cs
def Ap (k:Nat):List PK->List (Nat × CK)
 | []=>[]
 | p::r=>p.owns k++Ap (k+p.n) r
@[reducible] def DO:List (Nat × CK)->Type
 | []=>Unit
 | [p]=>p.2.den
 | p::q::r=>p.2.den × DO (q::r)
def bxO:(os:List (Nat × CK))->DO os->List (Nat × B3)
 | [],_=>[]
 | [p],x=>p.2.bx p.1 x
 | p::q::r,x=>p.2.bx p.1 x.1++bxO (q::r) x.2
@[reducible] def HR (rs:List PK):List (Nat × CK)->Type
 | []=>HP rs
 | p::r=>HP rs × DO (p::r)
def M9 {rs:List PK}:{os:List (Nat × CK)}->HR rs os->HP rs
 | [],y=>y
 | _::_,y=>y.1
def B72 {rs:List PK}:{os:List (Nat × CK)}->HR rs os->DO os
 | [],_=>()
 | _::_,y=>y.2
structure Jl where
 f:Nat
 ts:List PK
 rs:List PK
def Jz (E:Jl) (x:HP E.ts):List (Nat × B3):=D5 1000 E.ts x
def B5 (E:Jl) (y:HR E.rs (Ap 1000 E.ts)):List (Nat × B3):=D5 0 E.rs (M9 y)++bxO (Ap 1000 E.ts) (B72 y)
def By (bs:List (Nat × B3)):List (Nat × Box):=Aj (B3.box (A3 bs)) bs
def Jl.Den (P:Program) (E:Jl) (nt:Nat) (x:HP E.ts) (y:HR E.rs (Ap 1000 E.ts)):Prop :=
 Jk P E.f nt [] (By (Jz E x)) ((Bx 1000 E.ts x).map (SV.v (A3 (Jz E x)))) ((H7 (Bx 0 E.rs (M9 y))).s (A3 (B5 E y))) nt (By (B5 E y))
@[reducible] def HF (os:List (Nat × CK)):List (List PK)->Type
 | []=>Unit
 | [rs]=>HR rs os
 | rs::r::q=>HR rs os ⊕ HF os (r::q)
def Fv {A B α:Type} (z:A ⊕ B) (f:A->Option α) (g:B->Option α):Option α:=match z with
 | .inl a=>f a
 | .inr b=>g b
def Je {α:Type} (os:List (Nat × CK)):(fs:List (List PK))->HF os fs->((rs:List PK)->HR rs os->Option α)->Option α
 | [],_,_=>none
 | [rs],y,k=>k rs y
 | rs::r::q,z,k=>Fv z (λy=>k rs y) (λz=>Je os (r::q) z k)
def Abf (os:List (Nat × CK)):(fs:List (List PK))->HF os fs->((rs:List PK)->HR rs os->Prop)->Prop
 | [],_,_=>True
 | [rs],y,k=>k rs y
 | rs::_::_,.inl y,k=>k rs y
 | _::r::q,.inr z,k=>Abf os (r::q) z k
theorem Mp {α:Type} {os:List (Nat × CK)} {p:(rs:List PK)->HR rs os->Prop}:∀ {fs:List (List PK)} {z:HF os fs} {k:(rs:List PK)->HR rs os->Option α} {r:α},Je os fs z k=some r->Abf os fs z p->∃ rs y,k rs y=some r/\p rs y
 | [],_,_,_,h,_=>by cases h
 | [rs],y,k,r,h,hp=>⟨rs,y,h,hp⟩
 | rs::_::_,.inl y,k,r,h,hp=>⟨rs,y,h,hp⟩
 | _::r::q,.inr z,k,_,h,hp=>Mp (fs:=r::q) h hp
structure Ent3 where
 f:Nat
 ts:List PK
 forms:List (List PK)
 m:HP ts->Option (HF (Ap 1000 ts) forms)
def Ent3.Sound (P:Program) (E:Ent3):Prop:=∀ (nt:Nat) (x:HP E.ts) (z:HF (Ap 1000 E.ts) E.forms),E.m x=some z->Abf (Ap 1000 E.ts) E.forms z λrs y=>Jl.Den P ⟨E.f,E.ts,rs⟩ nt x y
def Iv (rn:List (Nat × Nat)) (k:Nat):Nat:=match A1 k rn with
 | some h=>h
 | none=>0
def Jg:List (Nat × Nat)->Nat->Option Nat
 | [],_=>none
 | (k,h')::r,h=>bif Nat.beq h' h then some k else Jg r h
def Ex:List (Nat × Nat)->Bool
 | []=>true
 | (k,h)::r=>r.all (λp=>!Nat.beq p.1 k && !Nat.beq p.2 h)&&Ex r
def C2 {β:Type}:List (Nat × β)->List (Nat × Nat)->Bool
 | [],[]=>true
 | (k,_)::B,(k',_)::R=>Nat.beq k k'&&C2 B R
 | _,_=>false
def Ws:List (Nat × B3)->List (Nat × Nat)->List (Nat × B3)->List (Nat × B3)
 | (_,b)::B,(_,h)::R,bs=>Ak h b (Ws B R bs)
 | _,_,bs=>bs
theorem Lk {a b:Nat} (h:Nat.beq a b=false):a ≠ b:=λe=>by subst e;simp at h
theorem H5 {a b:Nat} (h:a ≠ b):Nat.beq a b=false:=by cases hb:Nat.beq a b with | false=>rfl | true=>exact absurd (QC hb) h
theorem Ko {k h:Nat} {r:List (Nat × Nat)} (hg:Ex ((k,h)::r)=true):(∀ p ∈ r,p.1 ≠ k/\p.2 ≠ h)/\Ex r=true:=by
 simp only [Ex,QE,QM,ZJ] at hg;exact ⟨λp hp=>⟨Lk (hg.1 p hp).1,Lk (hg.1 p hp).2⟩,hg.2⟩
theorem Ck {β:Type}:∀ {rn:List (Nat × β)} {k:Nat} {h:β},A1 k rn=some h->(k,h) ∈ rn
 | [],_,_,e=>by cases e
 | (k',h')::r,k,h,e=>by
  simp only [A1] at e
  cases hb:Nat.beq k' k with
  | true=>rw [hb] at e;obtain rfl:=QA e;rw [QC hb];exact YR
  | false=>rw [hb] at e;exact ZX _ (Ck e)
theorem A0h:∀ {rn:List (Nat × Nat)} {k h:Nat},Jg rn h=some k->(k,h) ∈ rn
 | [],_,_,e=>by cases e
 | (k',h')::r,k,h,e=>by
  simp only [Jg] at e
  cases hb:Nat.beq h' h with
  | true=>rw [hb] at e;obtain rfl:=QA e;rw [QC hb];exact YR
  | false=>rw [hb] at e;exact ZX _ (A0h e)
theorem Nk:∀ {rn:List (Nat × Nat)} {k h:Nat},Ex rn=true->(k,h) ∈ rn->A1 k rn=some h/\Jg rn h=some k
 | [],_,_,_,e=>by cases e
 | (k',h')::r,k,h,hg,e=>by
  obtain ⟨h1,h2⟩:=Ko hg;simp only [A1,Jg];rcases QU.1 e with e | e
  . obtain ⟨rfl,rfl⟩:=KH e;simp only [XF,cond];exact ⟨trivial,trivial⟩
  . obtain ⟨e1,e2⟩:=Nk h2 e;rw [H5 (h1 _ e).1.symm,H5 (h1 _ e).2.symm];exact ⟨e1,e2⟩
theorem F8 {β:Type}:∀ {B:List (Nat × β)} {R:List (Nat × Nat)},C2 B R=true->∀ k,(A1 k B).isSome=(A1 k R).isSome
 | [],[],_,_=>rfl
 | (k1,b)::B,(k2,h)::R,e,k=>by
  simp only [C2,QE] at e;obtain rfl:=QC e.1;simp only [A1]
  cases Nat.beq k1 k with
  | true=>rfl
  | false=>exact F8 e.2 k
 | [],_::_,e,_=>by simp [C2] at e
 | _::_,[],e,_=>by simp [C2] at e
theorem Wk {β:Type}:∀ {B:List (Nat × β)} {R:List (Nat × Nat)} {k:Nat} {b:β},C2 B R=true->Ex R=true->(k,b) ∈ B->A1 k B=some b
 | [],_,_,_,_,_,e=>by cases e
 | (k1,b1)::B,(k2,h)::R,k,b,hs,hg,e=>by
  simp only [C2,QE] at hs;obtain rfl:=QC hs.1;obtain ⟨h1,h2⟩:=Ko hg;simp only [A1];rcases QU.1 e with e | e
  . obtain ⟨rfl,rfl⟩:=KH e;simp only [XF,cond]
  . have:=Wk hs.2 h2 e
    have hk:(A1 k R).isSome=true:=by rw [<- F8 hs.2 k,this];rfl
    obtain ⟨h',hh⟩:=ZF.1 hk;rw [H5 (h1 _ (Ck hh)).1.symm];exact this
 | _::_,[],_,_,hs,_,_=>by simp [C2] at hs
theorem A17:∀ {B:List (Nat × B3)} {R:List (Nat × Nat)} {bs:List (Nat × B3)},C2 B R=true->Ex R=true->∀ h,A1 h (Ws B R bs)=match Jg R h with | some k=>A1 k B | none=>A1 h bs
 | [],[],_,_,_,h=>rfl
 | (k1,b)::B,(k2,h2)::R,bs,hs,hg,h=>by
  simp only [C2,QE] at hs;obtain rfl:=QC hs.1;obtain ⟨g1,g2⟩:=Ko hg;simp only [Ws,Jg]
  cases hb:Nat.beq h2 h with
  | true =>
   obtain rfl:=QC hb;simp only [cond,A9,A1,XF]
  | false =>
   simp only [cond];rw [Ac _ _ (Lk hb).symm,A17 hs.2 g2 h]
   cases hw:Jg R h with
   | none=>rfl
   | some k =>
    simp only [A1];rw [H5 (g1 _ (A0h hw)).1.symm];rfl
 | [],_::_,_,e,_,_=>by simp [C2] at e
 | _::_,[],_,e,_,_=>by simp [C2] at e
def S0 (bs:List (Nat × B3)) (k:Nat):(c:CK)->SV->Option (c.den × List (Nat × Nat))
 | .im t,v=>bif t.one then (v.as true t).map λx=>(x,[]) else none
 | .own e t,.hw h=>match A1 h bs with
  | some (.arr e' sh false xs)=>bif Nat.beq e e' then ((Sh.sl sh).to (.sl t) xs).map λx=>(x,[(k,h)]) else none
  | _=>none
 | .ptr e t,.hp h 0 0=>match A1 h bs with
  | some (.var e' true false cs)=>bif Nat.beq e e'&&cs.all SV.isD then (t.all false cs).map λx=>(x,[(k,h)]) else none
  | _=>none
 | .tree e t,.hw h=>match A1 h bs with
  | some (.tree e' sh false xs)=>bif Nat.beq e e' then ((Sh.sl sh).to (.sl t) xs).map λx=>(x,[(k,h)]) else none
  | _=>none
 | .win e t,.hs h off len=>match A1 h bs with
  | some (.arr e' sh false xs)=>bif Nat.beq e e' then ((Sh.sl sh).to (.sl t) xs).map λx=>((x,off,len),[(k,h)]) else none
  | _=>none
 | _,_=>none
def Ga (bs:List (Nat × B3)) (k:Nat):(cs:List CK)->List SV->Option (DC cs × List (Nat × Nat))
 | [],[]=>some ((),[])
 | [c],[v]=>S0 bs k c v
 | c::d::r,v::vs=>match S0 bs k c v,Ga bs (k+1) (d::r) vs with
  | some (x,q),some (y,q')=>some ((x,y),q++q')
  | _,_=>none
 | _,_=>none
def Ab8 (bs:List (Nat × B3)) (k:Nat):(p:PK)->SV->Option (Bool × p.den × List Nat × List (Nat × Nat))
 | .im t,v=>(A5j bs t v).map λq=>(q.1,q.2.1,q.2.2,[])
 | .one c,v=>(S0 bs k c v).map λq=>(true,q.1,[],q.2)
 | .mix cs,.agg vs=>(Ga bs k cs vs).map λq=>(true,q.1,[],q.2)
 | _,_=>none
def Mr (bs:List (Nat × B3)) (k:Nat):(ps:List PK)->List SV->Option (Bool × HP ps × List Nat × List (Nat × Nat))
 | [],[]=>some (true,(),[],[])
 | [p],[v]=>Ab8 bs k p v
 | p::q::r,v::vs=>match Ab8 bs k p v,Mr bs (k+p.n) (q::r) vs with
  | some (g,x,l,n),some (g',y,l',n')=>some (g&&g',(x,y),l++l',n++n')
  | _,_=>none
 | _,_=>none
def Gg (bs B:List (Nat × B3)) (q:List (Nat × Nat)):Prop :=
 ∀ k b,(k,b) ∈ B->∃ h b',(k,h) ∈ q/\A1 h bs=some b'/\b'.len=b.len/\(∀ L L',b'.box L=b.box L') /\ ∀ L,(b.box L).fz=false/\(b.box L).hf=true
theorem Gg.app {bs B B':List (Nat × B3)} {q q':List (Nat × Nat)} (h:Gg bs B q) (h':Gg bs B' q'):Gg bs (B++B') (q++q'):=by
 intro k b hb;rcases QF.1 hb with hb | hb
 . obtain ⟨x,y,h1,h2⟩:=h k b hb;exact ⟨x,y,QF.2 (.inl h1),h2⟩
 . obtain ⟨x,y,h1,h2⟩:=h' k b hb;exact ⟨x,y,QF.2 (.inr h1),h2⟩
theorem Uy {bs:List (Nat × B3)} {hd:Nat->Nat->Bool} {L:Nat->Nat} {k:Nat} {c:CK} {v:SV} {x:c.den} {q:List (Nat × Nat)} (h:S0 bs k c v=some (x,q))
  (hq:∀ p ∈ q,hd p.1 p.2=true) (hL:∀ k' b,(k',b) ∈ c.bx k x->L k'=b.len) :
  v.cellB=true/\(∃ ob,Qe hd (A1 · (Aj (B3.box (A3 bs)) bs)) (v.c (A3 bs)) ((c.sv k x).c L)=some (ob,[]) /\ ∀ p ∈ ob,p)/\(c.sv k x).cellB=true/\Gg bs (c.bx k x) q:=by
 unfold S0 at h;split at h
 . rename_i t
   cases ht:t.one with
   | false=>rw [ht] at h;cases h
   | true =>
    rw [ht] at h;simp only [cond,QB,QI] at h;obtain ⟨y,hy,rfl,rfl⟩:=h;obtain ⟨q1,ob,q2,q3⟩:=S4 (L:=A3 bs) ht hy
    refine ⟨Pe q1,⟨ob,?_,q3⟩,ht,λk b hb=>by cases hb⟩
    have hc:=B7b (L:=A3 bs) q1;rw [hc] at q2 ⊢;simp only [CK.sv,SV.c,Qe,H0,V.noH,C4,ZG,cond,A1s,q2,QQ]
 . rename_i e t hh;split at h
   . rename_i e' sh xs hl
     cases he:Nat.beq e e' with
     | false=>rw [he] at h;cases h
     | true =>
      rw [he] at h;simp only [cond,QB,QI] at h;obtain ⟨y,hy,rfl,rfl⟩:=h;obtain ⟨rfl,rfl⟩:=Dy hy;obtain rfl:=QC he
      have hle:A3 bs hh=xs.length:=by simp [A3,hl,B3.len]
      have hk:L k=xs.length:=hL k (.arr e sh false xs) (by simp [CK.bx])
      refine ⟨rfl,⟨[0=0,A3 bs hh=L k],?_,by simp [hle,hk]⟩,rfl,λk' b hb=>?_⟩
      . simp only [CK.sv,SV.c,Qe,hq (k,hh) (by simp),cond]
      . simp only [CK.bx,QS,QI] at hb;obtain ⟨rfl,rfl⟩:=hb
        exact ⟨hh,_,by simp,hl,rfl,λ_ _=>rfl,λ_=>⟨rfl,rfl⟩⟩
   . cases h
 . rename_i e t hh;split at h
   . rename_i e' cs hl
     cases he:(Nat.beq e e'&&cs.all SV.isD) with
     | false=>rw [he] at h;cases h
     | true =>
      rw [he] at h;simp only [cond,QB,QI] at h;obtain ⟨y,hy,rfl,rfl⟩:=h;simp only [QE] at he;obtain rfl:=QC he.1;obtain ⟨a1,_,_,a4⟩:=Cl hy
      refine ⟨rfl,⟨[0=0,0=0],?_,by simp⟩,rfl,λk' b hb=>?_⟩
      . simp only [CK.sv,SV.c,Qe,hq (k,hh) (by simp),cond]
      . simp only [CK.bx,QS,QI] at hb;obtain ⟨rfl,rfl⟩:=hb
        refine ⟨hh,_,by simp,hl,rfl,λL1 L2=>?_,λ_=>⟨rfl,rfl⟩⟩
        simp only [B3.box,a1,J7,Ab0,a4]
   . cases h
 . rename_i e t hh;split at h
   . rename_i e' sh xs hl
     cases he:Nat.beq e e' with
     | false=>rw [he] at h;cases h
     | true =>
      rw [he] at h;simp only [cond,QB,QI] at h;obtain ⟨y,hy,rfl,rfl⟩:=h;obtain ⟨rfl,rfl⟩:=Dy hy;obtain rfl:=QC he
      have hle:A3 bs hh=xs.length:=by simp [A3,hl,B3.len]
      have hk:L k=xs.length:=hL k (.tree e sh false xs) (by simp [CK.bx])
      refine ⟨rfl,⟨[0=0,A3 bs hh=L k],?_,by simp [hle,hk]⟩,rfl,λk' b hb=>?_⟩
      . simp only [CK.sv,SV.c,Qe,hq (k,hh) (by simp),cond]
      . simp only [CK.bx,QS,QI] at hb;obtain ⟨rfl,rfl⟩:=hb
        exact ⟨hh,_,by simp,hl,rfl,λ_ _=>rfl,λ_=>⟨rfl,rfl⟩⟩
   . cases h
 . rename_i e t hh off len;split at h
   . rename_i e' sh xs hl
     cases he:Nat.beq e e' with
     | false=>rw [he] at h;cases h
     | true =>
      rw [he] at h;simp only [cond,QB,QI] at h;obtain ⟨y,hy,rfl,rfl⟩:=h;obtain ⟨rfl,rfl⟩:=Dy hy;obtain rfl:=QC he
      refine ⟨rfl,⟨[off=off,len=len],?_,by simp⟩,rfl,λk' b hb=>?_⟩
      . simp only [CK.sv,SV.c,Qe,hq (k,hh) (by simp),cond]
      . simp only [CK.bx,QS,QI] at hb;obtain ⟨rfl,rfl⟩:=hb
        exact ⟨hh,_,by simp,hl,rfl,λ_ _=>rfl,λ_=>⟨rfl,rfl⟩⟩
   . cases h
 . cases h
theorem A1g {bs:List (Nat × B3)} {hd:Nat->Nat->Bool} {L:Nat->Nat}:∀ {cs:List CK} {k:Nat} {vs:List SV} {x:DC cs} {q:List (Nat × Nat)},Ga bs k cs vs=some (x,q) ->
  (∀ p ∈ q,hd p.1 p.2=true)->(∀ k' b,(k',b) ∈ Lx k cs x->L k'=b.len) ->
  (∃ ob,Ms hd (A1 · (Aj (B3.box (A3 bs)) bs)) (vs.map (SV.c (A3 bs))) ((Vw k cs x).map (SV.c L))=some (ob,[]) /\ ∀ p ∈ ob,p)/\Gg bs (Lx k cs x) q
 | [],k,[],x,q,h,_,_=>⟨⟨[],rfl,by simp⟩,λk b hb=>by cases hb⟩
 | [],k,_::_,_,_,h,_,_=>by simp [Ga] at h
 | [c],k,[],_,_,h,_,_=>by simp [Ga] at h
 | [c],k,[v],x,q,h,hq,hL=>by
  obtain ⟨_,⟨ob,h1,h2⟩,_,h3⟩:=Uy (hd:=hd) (L:=L) (x:=x) h hq hL
  refine ⟨⟨ob++[],?_,by simpa using h2⟩,h3⟩
  simp only [Vw,QW,YL,Ms,h1,XC]
 | [c],k,v::w::r,_,_,h,_,_=>by simp [Ga] at h
 | c::d::r,k,[],_,_,h,_,_=>by simp [Ga] at h
 | c::d::r,k,v::vs,x,q,h,hq,hL=>by
  simp only [Ga] at h;split at h
  . rename_i x1 q1 y1 q2 h1 h2;simp only [QD,QI] at h;obtain ⟨rfl,rfl⟩:=h
    obtain ⟨_,⟨ob,a1,a2⟩,_,a3⟩:=Uy (hd:=hd) (L:=L) h1 (λp hp=>hq p (QF.2 (.inl hp))) (λk' b hb=>hL k' b (by simp only [Lx];exact QF.2 (.inl hb)))
    obtain ⟨⟨ob',b1,b2⟩,b3⟩:=A1g (hd:=hd) (L:=L) h2 (λp hp=>hq p (QF.2 (.inr hp))) (λk' b hb=>hL k' b (by simp only [Lx];exact QF.2 (.inr hb)))
    refine ⟨⟨ob++ob',?_,λp hp=>(QF.1 hp).elim (a2 p) (b2 p)⟩,a3.app b3⟩;simp only [Vw,QW,Ms,a1,b1,XC]
  . cases h
theorem Aq5 {bs:List (Nat × B3)} {hd:Nat->Nat->Bool} {L:Nat->Nat} {k:Nat} {p:PK} {v:SV} {g:Bool} {x:p.den} {bor:List Nat} {q:List (Nat × Nat)} (h:Ab8 bs k p v=some (g,x,bor,q)) (hg:g=true)
  (hq:∀ p ∈ q,hd p.1 p.2=true) (hL:∀ k' b,(k',b) ∈ p.bx k x->L k'=b.len) :
  (∃ ob,A5i hd (A1 · (Aj (B3.box (A3 bs)) bs)) p.isIm (v.s (A3 bs)) ((p.sv k x).v L)=some (ob,bor) /\ ∀ p ∈ ob,p)/\(∀ k ∈ bor,∃ b,A1 k (Aj (B3.box (A3 bs)) bs)=some b/\b.fz=false)/\Gg bs (p.bx k x) q/\v.alive=true:=by
 cases p with
 | im t =>
  simp only [Ab8,QB,QI] at h;obtain ⟨⟨g',y,b⟩,h1,rfl,rfl,rfl,rfl⟩:=h;obtain ⟨ob,a1,a2,a3⟩:=Ab9 h1 hg
  refine ⟨⟨ob,?_,a2⟩,a3,(λk b hb=>by cases hb),V6 h1⟩
  simp only [A5i,PK.isIm,cond,PK.sv,(Il t y).1];exact a1
 | one c =>
  simp only [Ab8,QB,QI] at h;obtain ⟨⟨y,b⟩,h1,rfl,rfl,rfl,rfl⟩:=h;obtain ⟨c1,⟨ob,a1,a2⟩,c2,a3⟩:=Uy (hd:=hd) (L:=L) h1 hq hL
  refine ⟨⟨ob,?_,a2⟩,by simp,a3,Bb λe=>by subst e;cases c1⟩
  simp only [A5i,PK.isIm,cond,PK.sv,(Fq c1).1,(Fq c2).2];exact a1
 | mix cs =>
  cases v with
  | agg vs =>
   simp only [Ab8] at h;simp only [QB,QI] at h;obtain ⟨⟨y,b⟩,h1,rfl,rfl,rfl,rfl⟩:=h;obtain ⟨⟨ob,a1,a2⟩,a3⟩:=A1g (hd:=hd) (L:=L) h1 hq hL
   refine ⟨⟨ob,?_,a2⟩,by simp,a3,rfl⟩
   simp only [A5i,PK.isIm,cond,PK.sv,SV.s,SV.v];exact a1
  | _=>cases h
theorem Ale {bs:List (Nat × B3)} {hd:Nat->Nat->Bool} {L:Nat->Nat}:∀ {ps:List PK} {k:Nat} {vs:List SV} {g:Bool} {x:HP ps} {bor:List Nat} {q:List (Nat × Nat)},Mr bs k ps vs=some (g,x,bor,q)->g=true ->
  (∀ p ∈ q,hd p.1 p.2=true)->(∀ k' b,(k',b) ∈ D5 k ps x->L k'=b.len) ->
  (∃ ob,Hr hd (A1 · (Aj (B3.box (A3 bs)) bs)) (ps.map PK.isIm) (vs.map (SV.s (A3 bs))) ((Bx k ps x).map (SV.v L))=some (ob,bor) /\ ∀ p ∈ ob,p)/\(∀ k ∈ bor,∃ b,A1 k (Aj (B3.box (A3 bs)) bs)=some b/\b.fz=false)/\Gg bs (D5 k ps x) q /\ ∀ v ∈ vs,v.alive=true
 | [],k,[],g,x,bor,q,h,_,_,_=>by
  simp only [Mr,QD,QI] at h;obtain ⟨_,_,rfl,rfl⟩:=h
  exact ⟨⟨[],rfl,by simp⟩,by simp,(λk b hb=>by cases hb),by simp⟩
 | [],k,_::_,_,_,_,_,h,_,_,_=>by simp [Mr] at h
 | [p],k,[],_,_,_,_,h,_,_,_=>by simp [Mr] at h
 | [p],k,[v],g,x,bor,q,h,hg,hq,hL=>by
  obtain ⟨⟨ob,h1,h2⟩,h3,h4,h5⟩:=Aq5 (hd:=hd) (L:=L) (x:=x) h hg hq hL
  refine ⟨⟨ob++[],?_,by simpa using h2⟩,h3,h4,by simpa using h5⟩
  simp only [Bx,QW,YL,Hr,h1,XC]
 | [p],k,v::w::r,_,_,_,_,h,_,_,_=>by simp [Mr] at h
 | p::p2::r,k,[],_,_,_,_,h,_,_,_=>by simp [Mr] at h
 | p::p2::r,k,v::vs,g,x,bor,q,h,hg,hq,hL=>by
  simp only [Mr] at h;split at h
  . rename_i g1 x1 l1 q1 g2 y1 l2 q2 h1 h2;simp only [QD,QI] at h;obtain ⟨rfl,rfl,rfl,rfl⟩:=h;simp only [QE] at hg
    obtain ⟨⟨ob,a1,a2⟩,a3,a4,a5⟩:=Aq5 (hd:=hd) (L:=L) h1 hg.1 (λp hp=>hq p (QF.2 (.inl hp))) (λk' b hb=>hL k' b (by simp only [D5];exact QF.2 (.inl hb)))
    obtain ⟨⟨ob',b1,b2⟩,b3,b4,b5⟩:=Ale (hd:=hd) (L:=L) h2 hg.2 (λp hp=>hq p (QF.2 (.inr hp))) (λk' b hb=>hL k' b (by simp only [D5];exact QF.2 (.inr hb)))
    refine ⟨⟨ob++ob',?_,λp hp=>(QF.1 hp).elim (a2 p) (b2 p)⟩,λj hj=>(QF.1 hj).elim (a3 j) (b3 j),a4.app b4,by simpa using ⟨a5,b5⟩⟩
    simp only [QW] at b1;simp only [Bx,QW,Hr,a1,b1]
  . cases h
end Go.Ev

/- DERIVED. A state that a template takes may be read as the template's. -/
namespace Go.Ev
open Go
variable {P:Program} {T:Ty}
def H2 (x x':S):Prop:=∀ (w:World) (E:Env) (v:Value),Rs w E v x->Rs w E v x'
def F3 (c c':C):Prop:=∀ (w:World) (E:Env) (v:Value),Rc w E v c->Rc w E v c'
structure All (b b':Box):Prop where
 e:b'.e=b.e
 sz:b'.sz=b.sz
 fz:b'.fz=b.fz
 tr:b'.tr=b.tr
 trr:b'.tr=true->b'.rows=b.rows
 len:b'.rows.length=b.rows.length
 rows:∀ (i:Nat) (r':List C),b'.rows[i]? = some r'->∃ r,b.rows[i]? = some r/\r'.length=r.length /\ ∀ (j:Nat) (c':C),r'[j]? = some c'->∃ c,r[j]? = some c/\F3 c c'
 hf:b'.hf=true->∀ (i:Nat) (r:List C) (j:Nat) (c:C),b'.rows[i]? = some r->r[j]? = some c->∃ x,c = .i x
theorem C7.sub {w:World} {E:Env} {b b':Box} {g cap:Nat} (h:C7 w E b g cap) (hb:All b b'):C7 w E b' g cap:=by
 obtain ⟨arr,a1,a2,a3,a4,a5,a6,a7,a8,a9⟩:=h
 refine ⟨arr,by rw [hb.e];exact a1,by rw [hb.sz];exact a2,by rw [hb.len];exact a3,a4,λi r hi=>?_,λi r j c hi hj=>?_,λhf i r j c hi hj=>hb.hf hf i r j c hi hj,λhf=>a8 (by rw [<- hb.fz];exact hf),a9⟩
 . obtain ⟨r0,h1,h2,_⟩:=hb.rows i r hi;rw [h2,hb.sz];exact a5 i r0 h1
 . obtain ⟨r0,h1,_,h3⟩:=hb.rows i r hi;obtain ⟨c0,h4,h5⟩:=h3 j c hj;obtain ⟨v,h6,h7⟩:=a6 i r0 j c0 h1 h4
   exact ⟨v,by rw [hb.sz];exact h6,h5 _ _ _ h7⟩
theorem A8.sub {Γ:Ctx} {w:World} {E:Env} {s s':St} {tmps:Array Value} (hs:A8 Γ w E s tmps) (hnt:s'.nt=s.nt)
  (h1:∀ t x',A1 t s'.slots=some x'->∃ x,A1 t s.slots=some x/\H2 x x')
  (h2:∀ h b',A1 h s'.boxes=some b'->∃ b,A1 h s.boxes=some b/\All b b')
  (h3:∀ h b,A1 h s.boxes=some b->(A1 h s'.boxes).isSome=true):A8 Γ w E s' tmps where
 fr:=hs.fr
 held:=hs.held
 tow:=hs.tow
 wf:=by rw [hnt];exact hs.wf
 old:=hs.old
 nt:=by rw [hnt];exact hs.nt
 tag:=hs.tag
 new:=hs.new
 boxes:=λh b' hb'=>by
  obtain ⟨b,hb,hsub⟩:=h2 h b' hb';obtain ⟨g,cap,hβ,hat,hω,hS⟩:=hs.boxes h b hb
  refine ⟨g,cap,by rw [hsub.sz];exact hβ,by rw [hsub.tr];exact hat.sub hsub,hω,λe=>?_⟩
  have h5:=hS (by rw [<- hsub.tr];exact e)
  unfold Sep at h5 ⊢;rw [hsub.trr e,hsub.sz];exact h5
 inj:=λh h' b b' g g' z z' hb hb' hz hz' hne=>by
  obtain ⟨b0,hb0,_⟩:=h2 h b hb;obtain ⟨b1,hb1,_⟩:=h2 h' b' hb';exact hs.inj h h' b0 b1 g g' z z' hb0 hb1 hz hz' hne
 own:=λh b' g z hb' hz=>by
  obtain ⟨b,hb,hsub⟩:=h2 h b' hb';rw [hsub.fz];exact hs.own h b g z hb hz
 slots:=λt x' hx'=>by
  obtain ⟨x,hx,hsub⟩:=h1 t x' hx';exact hsub _ _ _ (hs.slots t x hx)
 tsize:=hs.tsize
 dom:=λh x hx=>by
  obtain ⟨b,hb⟩:=ZF.1 (hs.dom h x hx);exact h3 h b hb
 stay:=hs.stay
 fzn:=λh b' g z hb' hz hf=>by
  obtain ⟨b,hb,hsub⟩:=h2 h b' hb'
  exact hs.fzn h b g z hb hz (by rw [<- hsub.fz];exact hf)
theorem F3.refl (c:C):F3 c c:=λ_ _ _ h=>h
theorem H2.refl (x:S):H2 x x:=λ_ _ _ h=>h
theorem H2.dead (x:S):H2 x .dead:=λ_ _ _ _=>.dead
theorem Afo {c c':C} (h:∃ ob,Sb c c'=some ob /\ ∀ p ∈ ob,p):F3 c c':=by
 obtain ⟨ob,h1,h2⟩:=h;exact λw E v hv=>M6 hv h1 h2
def Alk (cs cs':List C):Prop:=cs'.length=cs.length /\ ∀ (j:Nat) (c':C),cs'[j]? = some c'->∃ c,cs[j]? = some c/\F3 c c'
theorem Abj:∀ (cs cs':List C) (ob:List Prop),En cs cs'=some ob->(∀ p ∈ ob,p)->Alk cs cs'
 | [],[],_,_,_=>⟨rfl,λj c hj=>by simp at hj⟩
 | [],_::_,_,h,_=>by simp [En] at h
 | _::_,[],_,h,_=>by simp [En] at h
 | c::cs,c'::cs',ob,h,ho=>by
  simp only [En] at h;split at h
  . rename_i p q h1 h2;obtain rfl:=QA h;obtain ⟨i1,i2⟩:=Abj cs cs' q h2 (λx hx=>ho x (QF.2 (.inr hx)))
    refine ⟨by simp [i1],λj d hj=>?_⟩
    cases j with
    | zero =>
     simp at hj;subst hj;exact ⟨c,rfl,Afo ⟨p,h1,λx hx=>ho x (QF.2 (.inl hx))⟩⟩
    | succ j=>exact i2 j d (by simpa using hj)
  . cases h
theorem Fw.subL {L:Nat->Nat} {cs:List SV} {ds:List I} (h:Fw L cs ds):Alk (cs.map (SV.c L)) (ds.map .i):=by
 obtain ⟨ob,h1,h2⟩:=h;exact Abj _ _ _ h1 h2
theorem Alk.agg {cs cs':List C} (h:Alk cs cs'):H2 (.v (.agg cs)) (.v (.agg cs')):=by
 intro w E v hv
 cases hv with
 | v hv =>
  cases hv with
  | agg hv =>
   refine .v (.agg ⟨by rw [h.1];exact hv.1,λj v c hv' hc=>?_⟩)
   obtain ⟨c0,h1,h2⟩:=h.2 j c hc;exact h2 _ _ _ (hv.2 j v c0 hv' h1)
theorem F3.one {c c':C} (h:F3 c c'):H2 (.v (.one c)) (.v (.one c')):=by
 intro w E v hv
 cases hv with
 | v hv=>cases hv with | one hv=>exact .v (.one (h _ _ _ hv))
theorem Apz {L:Nat->Nat} {t:TS} {v:SV} {x:t.den} (h:t.dec v=some x):H2 (v.s L) ((t.enc x).s L)/\(v.cellB=true->(t.enc x).cellB=true->F3 (v.c L) ((t.enc x).c L)):=by
 cases t with
 | d t =>
  simp only [TS.dec] at h;split at h
  . rename_i cs;split at h
    . rename_i t0
      cases hd:cs.all SV.isD with
      | false=>rw [hd] at h;cases h
      | true =>
       rw [hd] at h;simp only [cond] at h;obtain ⟨_,_,h3,_⟩:=Cl h
       have e:(SV.rf cs).c L=(SV.d (.ref t0) x).c L:=by
        simp only [SV.c,h3 hd,Sh.cells,hd1]
       have hc:F3 ((SV.rf cs).c L) ((TS.enc (.d (.ref t0)) x).c L):=by
        show F3 _ ((SV.d (.ref t0) x).c L);rw [<- e];exact F3.refl _
       exact ⟨hc.one,λ_ _=>hc⟩
    . cases h
  . rename_i hnr
    cases ht:t.one with
    | false=>rw [ht] at h;cases h
    | true =>
     rw [ht] at h;obtain ⟨q1,q2⟩:=S4 (L:=L) ht h;have hc:F3 (v.c L) ((TS.enc (.d t) x).c L):=Afo q2
     have e:v.s L = .v (.one (v.c L)):=by cases v <;> first | rfl | cases q1
     refine ⟨?_,λ_ _=>hc⟩;rw [e];exact hc.one
 | ag t =>
  simp only [TS.dec] at h;split at h
  . rename_i cs;obtain ⟨h1,h2⟩:=A5m (L:=L) h
    refine ⟨?_,λhc=>by cases hc⟩
    show H2 (.v (.agg (cs.map (SV.c L)))) (.v (.agg ((t.exp x).map (SV.c L))));rw [J7];exact h1.subL.agg
  . cases h
 | k c =>
  simp only [TS.dec] at h
  cases hs:c.same v with
  | false=>rw [hs] at h;cases h
  | true =>
   show H2 (v.s L) (c.s L)/\(v.cellB=true->c.cellB=true->F3 (v.c L) (c.c L));unfold SV.same at hs;split at hs
   . obtain rfl:=QC hs;exact ⟨H2.refl _,λ_ _=>F3.refl _⟩
   . simp only [QE] at hs;obtain rfl:=QC hs.1.1;obtain rfl:=QC hs.1.2;obtain rfl:=QC hs.2;exact ⟨H2.refl _,λ_ _=>F3.refl _⟩
   . exact ⟨H2.dead _,λ_ h=>by cases h⟩
   . rename_i t x' t' y;simp only [QE] at hs;obtain rfl:=Sh.eqb_eq hs.2
     have:SV.d t x'=SV.d t y:=by
      split at hs
      . rfl
      . rfl
      . exact absurd hs.1 (by simp)
     rw [this];exact ⟨H2.refl _,λ_ _=>F3.refl _⟩
   . cases hs
 | hs h' =>
  simp only [TS.dec] at h;split at h
  . rename_i k o l
    cases hk:Nat.beq h' k with
    | false=>rw [hk] at h;cases h
    | true =>
     rw [hk] at h;obtain rfl:=QC hk;simp only [cond,QD] at h;subst h;exact ⟨H2.refl _,λ_ _=>F3.refl _⟩
  . cases h
theorem Al2:∀ {l:List (Nat × TS)} {sl:List (Nat × SV)} {x:DK TS TS.den l},Ab4 l sl=some x->∀ (L:Nat->Nat) (k:Nat) (y:S),A1 k (Aj (SV.s L) (Aku l x))=some y->∃ z,A1 k (Aj (SV.s L) sl)=some z/\H2 z y
 | [],[],_,_,_,k,y,h=>by simp [Aku,Aj,A1] at h
 | [],_::_,_,h,_,_,_,_=>by simp [Ab4] at h
 | _::_,[],_,h,_,_,_,_=>by simp [Ab4] at h
 | (k,t)::r,(j,v)::vs,x,h,L,i,y,hy=>by
  simp only [Ab4] at h
  cases hk:Nat.beq k j with
  | false=>rw [hk] at h;cases h
  | true =>
   rw [hk] at h;obtain rfl:=QC hk;simp only [cond] at h;split at h
   . rename_i a as h1 h2;obtain rfl:=QA h;simp only [Aku,Aj,QW,A1] at hy ⊢
     cases hb:Nat.beq k i with
     | true =>
      rw [hb] at hy;simp only [cond,QD] at hy;subst hy;exact ⟨_,rfl,(Apz h1).1⟩
     | false =>
      rw [hb] at hy;exact Al2 h2 L i y hy
   . cases h
theorem Al3 {L:Nat->Nat}:∀ {l:List TS} {vs:List SV} {x:DL l},Ab5 l vs=some x->vs.all SV.cellB=true->(J8 l x).all SV.cellB=true->Alk (vs.map (SV.c L)) ((J8 l x).map (SV.c L))
 | [],[],_,_,_,_=>⟨rfl,λj c h=>by simp [J8] at h⟩
 | [],_::_,_,h,_,_=>by simp [Ab5] at h
 | _::_,[],_,h,_,_=>by simp [Ab5] at h
 | t::r,v::vs,x,h,hc,hc'=>by
  simp only [Ab5] at h;split at h
  . rename_i a as h1 h2;obtain rfl:=QA h;simp only [XY,QE,J8] at hc hc';obtain ⟨i1,i2⟩:=Al3 (L:=L) h2 hc.2 hc'.2
    refine ⟨by simpa [J8] using i1,λj c hj=>?_⟩
    cases j with
    | zero =>
     simp [J8] at hj;subst hj;exact ⟨_,rfl,(Apz h1).2 hc.1 hc'.1⟩
    | succ j=>exact i2 j c (by simpa [J8] using hj)
  . cases h
theorem A7z {L:Nat->Nat} {t:TB} {b:B3} {x:t.den} (h:t.dec b=some x):All (b.box L) ((t.enc x).box L)/\(t.enc x).len=b.len:=by
 cases t with
 | tree e t fz =>
  simp only [TB.dec] at h;split at h
  . rename_i e' t' fz' xs
    cases hc:(Nat.beq e e'&&(fz==fz')) with
    | false=>rw [hc] at h;cases h
    | true =>
     rw [hc] at h;simp only [QE] at hc;obtain rfl:=QC hc.1;obtain rfl:=eq_of_beq hc.2;obtain ⟨rfl,rfl⟩:=Dy h;refine ⟨⟨rfl,rfl,rfl,rfl,λ_=>rfl,rfl,λi r hi=>⟨r,hi,rfl,λj c hj=>⟨c,hj,F3.refl c⟩⟩,λ_ i r j c hi hj=>?_⟩,rfl⟩;simp only [TB.enc,B3.box,QK] at hi;obtain ⟨x,_,rfl⟩:=QB.1 hi;rw [QK] at hj;obtain ⟨y,_,rfl⟩:=QB.1 hj;exact ⟨y,rfl⟩
  . cases h
 | arr e t fz =>
  simp only [TB.dec] at h;split at h
  . rename_i e' t' fz' xs
    cases hc:(Nat.beq e e'&&(fz==fz')) with
    | false=>rw [hc] at h;cases h
    | true =>
     rw [hc] at h;simp only [QE] at hc;obtain rfl:=QC hc.1;obtain rfl:=eq_of_beq hc.2;obtain ⟨rfl,rfl⟩:=Dy h;refine ⟨⟨rfl,rfl,rfl,rfl,λ_=>rfl,rfl,λi r hi=>⟨r,hi,rfl,λj c hj=>⟨c,hj,F3.refl c⟩⟩,λ_ i r j c hi hj=>?_⟩,rfl⟩;simp only [TB.enc,B3.box,QK] at hi;obtain ⟨y,_,rfl⟩:=QB.1 hi;rw [QK] at hj;obtain ⟨z,_,rfl⟩:=QB.1 hj;exact ⟨z,rfl⟩
  . rename_i e' fz' n cs
    cases hc:(Nat.beq e e'&&(fz==fz')) with
    | false=>rw [hc] at h;cases h
    | true =>
     rw [hc] at h;simp only [cond,QB] at h;obtain ⟨y,hy,rfl⟩:=h;simp only [QE] at hc;obtain rfl:=QC hc.1;obtain rfl:=eq_of_beq hc.2;obtain ⟨h1,h2⟩:=A5m (L:=L) hy;have hL:=h1.subL
     have hz:cs.length=t.size:=by have:=hL.1;simp [Sh.cells_len] at this;omega
     refine ⟨⟨rfl,by simp [TB.enc,B3.box,hz],rfl,rfl,λe=>(by cases e),by simp [TB.enc,B3.box],λi r hi=>?_,λ_ i r j c hi hj=>?_⟩,by simp [TB.enc,B3.len]⟩
     . simp only [TB.enc,B3.box,List.map_replicate,XV] at hi;split at hi
       . rename_i hlt;obtain rfl:=QA hi
         exact ⟨cs.map (SV.c L),by simp [B3.box,XV,hlt],hL.1,hL.2⟩
       . cases hi
     . simp only [TB.enc,B3.box,List.map_replicate,XV] at hi;split at hi
       . obtain rfl:=QA hi;rw [QK] at hj;obtain ⟨z,_,rfl⟩:=QB.1 hj;exact ⟨z,rfl⟩
       . cases hi
  . cases h
 | var e hf fz cs =>
  simp only [TB.dec] at h;split at h
  . rename_i e' hf' fz' vs
    cases hc:(Nat.beq e e'&&(hf==hf')&&(fz==fz')&&vs.all SV.cellB) with
    | false=>rw [hc] at h;cases h
    | true =>
     rw [hc] at h;simp only [cond] at h;simp only [QE] at hc;obtain rfl:=QC hc.1.1.1;obtain rfl:=eq_of_beq hc.1.1.2;obtain rfl:=eq_of_beq hc.1.2;split at h
     . rename_i y hy
       cases he:((J8 cs y).all SV.cellB&&(!hf || (J8 cs y).all SV.imm)) with
       | false=>rw [he] at h;cases h
       | true =>
        rw [he] at h;obtain rfl:=QA h;simp only [QE,XN,ZJ] at he;have hL:=Al3 (L:=L) hy hc.2 he.1
        refine ⟨⟨rfl,by have:=hL.1;simpa [TB.enc,B3.box] using this,rfl,rfl,λe=>(by cases e),rfl,λi r hi=>?_,λhf' i r j c hi hj=>?_⟩,rfl⟩
        . cases i with
          | zero =>
           simp [TB.enc,B3.box] at hi;subst hi;exact ⟨vs.map (SV.c L),rfl,hL.1,hL.2⟩
          | succ i=>simp [TB.enc,B3.box] at hi
        . have hf'':hf=true:=hf'
          have hi':(J8 cs y).all SV.imm=true:=by
           rcases he.2 with h0 | h0
           . rw [hf''] at h0;cases h0
           . exact h0
          cases i with
          | zero =>
           simp [TB.enc,B3.box] at hi;subst hi;rw [QK] at hj;obtain ⟨z,hz,rfl⟩:=QB.1 hj;have:=Mw (L:=L) (QM.1 hi' z (QX hz))
           cases hzc:z.c L with
           | i q=>exact ⟨q,rfl⟩
           | hs=>rw [hzc] at this;cases this
           | hp=>rw [hzc] at this;cases this
          | succ i=>simp [TB.enc,B3.box] at hi
     . cases h
  . cases h
theorem Al4 {L:Nat->Nat}:∀ {l:List (Nat × TB)} {bs:List (Nat × B3)} {x:DK TB TB.den l},Ab6 l bs=some x ->
  (∀ k b',A1 k (Aj (B3.box L) (Uo l x))=some b'->∃ b,A1 k (Aj (B3.box L) bs)=some b/\All b b')/\(∀ k b,A1 k (Aj (B3.box L) bs)=some b->(A1 k (Aj (B3.box L) (Uo l x))).isSome=true)/\A3 (Uo l x)=A3 bs
 | [],[],_,_=>⟨λk b h=>by simp [Uo,Aj,A1] at h,λk b h=>by simp [Aj,A1] at h,rfl⟩
 | [],_::_,_,h=>by simp [Ab6] at h
 | _::_,[],_,h=>by simp [Ab6] at h
 | (k,t)::r,(j,v)::vs,x,h=>by
  simp only [Ab6] at h
  cases hk:Nat.beq k j with
  | false=>rw [hk] at h;cases h
  | true =>
   rw [hk] at h;obtain rfl:=QC hk;simp only [cond] at h;split at h
   . rename_i a as h1 h2;obtain rfl:=QA h;obtain ⟨i1,i2,i3⟩:=Al4 (L:=L) h2;obtain ⟨b1,b2⟩:=A7z (L:=L) h1;refine ⟨λi b hb=>?_,λi b hb=>?_,?_⟩
     . simp only [Uo,Aj,QW,A1] at hb ⊢
       cases hc:Nat.beq k i with
       | true=>rw [hc] at hb;simp only [cond,QD] at hb;subst hb;exact ⟨_,rfl,b1⟩
       | false=>rw [hc] at hb;exact i1 i b hb
     . simp only [Uo,Aj,QW,A1] at hb ⊢
       cases hc:Nat.beq k i with
       | true=>rfl
       | false=>rw [hc] at hb;exact i2 i b hb
     . funext i;have e:=congrFun i3 i;simp only [A3,Uo,A1] at e ⊢
       cases hc:Nat.beq k i with
       | true=>exact b2
       | false=>exact e
   . cases h
theorem Wq {X:List (Nat × TS)}:∀ {sl:List (Nat × SV)} {k:Nat} {x:SV},A1 k (Sr X sl)=some x->A1 k sl=some x
 | [],k,x,h=>by cases h
 | (j,y)::r,k,x,h=>by
  simp only [Sr,YU] at h
  have gone:(X.any λq=>Nat.beq q.1 j)=false->∀ q:List (Nat × SV),A1 j (q.filter λp=>X.any λz=>Nat.beq z.1 p.1)=none:=by
   intro hc q
   induction q with
   | nil=>rfl
   | cons p' r' ih' =>
    simp only [YU];split
    . rename_i hc';simp only [A1]
      cases hb':Nat.beq p'.1 j with
      | true=>have:=QC hb';rw [this,hc] at hc';cases hc'
      | false=>exact ih'
    . exact ih'
  simp only [A1]
  cases hb:Nat.beq j k with
  | true =>
   have:=QC hb;subst this
   cases hc:(X.any λq=>Nat.beq q.1 j) with
   | true =>
    rw [QL hc] at h;simp only [A1,hb,cond] at h;exact h
   | false =>
    rw [QJ (by rw [hc];exact Bool.false_ne_true),gone hc] at h
    cases h
  | false =>
   simp only [cond];split at h
   . simp only [A1,hb,cond] at h;exact Wq h
   . exact Wq h
theorem Al1 {α β:Type} (f:α->β) (h:Nat):∀ l:List (Nat × α),C1 h (Aj f l)=Aj f (C1 h l)
 | []=>rfl
 | (j,x)::r=>by
  have ih:=Al1 f h r
  show (bif Nat.beq j h then C1 h (Aj f r) else (j,f x)::C1 h (Aj f r))=Aj f (bif Nat.beq j h then C1 h r else (j,x)::C1 h r)
  cases Nat.beq j h with
  | true=>exact ih
  | false =>
   show (j,f x)::C1 h (Aj f r)=(j,f x)::Aj f (C1 h r);rw [ih]
theorem Al0 {nt:Nat}:∀ (l:List Nat) {s s':St3},Af9 l s=some s'->Kf l (s.st nt)=some (s'.st nt)
 | [],s,s',h=>by obtain rfl:=QA h;rfl
 | k::r,s,s',h=>by
  simp only [Af9] at h
  cases hc:(Nat.blt k 1000&&s.clean k) with
  | false=>rw [hc] at h;cases h
  | true =>
   rw [hc] at h;simp only [cond] at h;simp only [QE] at hc;have hcl:=hc.2;unfold St3.clean at hcl;simp only [QE,QM] at hcl;have ih:=Al0 (nt:=nt) r h
   have hd:(s.st nt).delBox k=some (({ s with boxes:=C1 k s.boxes }:St3).st nt):=by
    unfold St.delBox
    have h1:(s.st nt).slots.all (λp=>!p.2.men k)=true:=by
     simp only [St3.st,Aj,YS,QM,Function.comp,So];exact hcl.1
    have h2:Oz k (s.st nt).boxes=true:=by
     simp only [Oz,St3.st,Aj,YS,QM,Function.comp,XN,ZJ];intro p hp
     exact .inr (Aq0 (by simpa using hcl.2 p hp))
    rw [hc.1,h1,h2]
    have hL:∀ j,j ≠ k->A3 s.boxes j=A3 (C1 k s.boxes) j:=λj hj=>by
     unfold A3;rw [Az hj]
    simp only [ZG,cond,QD,St3.st];congr 1
    . exact Mb λp hp=>Ym hL (by simpa using hcl.1 p hp)
    . rw [<- Al1];congr 1
      exact Mb λp hp=>Lj hL (by simpa using hcl.2 p hp)
   simp only [Kf,hd];exact ih
theorem Tm.dec1_ok {X:Tm} {s:St3} {x:X.den} (h:X.dec1 s=some x) {nt:Nat} {Γ:Ctx} {w:World} {E:Env} {tmps:Array Value} (hs:A8 Γ w E (s.st nt) tmps):∃ E',A8 Γ w E' ((X.enc x).st nt) tmps:=by
 unfold Tm.dec1 at h;split at h
 . rename_i s2 hd;split at h
   . rename_i a b h1 h2;obtain rfl:=QA h
     have hs1:A8 Γ w E (({ s with slots:=Sr X.slots s.slots }:St3).st nt) tmps:=hs.less λt y hy=>by
      simp only [St3.st,Ae] at hy ⊢;obtain ⟨z,hz,rfl⟩:=QB.1 hy;rw [Wq hz];rfl
     obtain ⟨E',hs2⟩:=Rw _ hs1 (Al0 _ hd);obtain ⟨b1,b2,b3⟩:=Al4 (L:=A3 s2.boxes) h2;refine ⟨E',hs2.sub rfl (λt y hy=>?_) (λk b' hb=>?_) (λk b hb=>?_)⟩
     . simp only [Tm.enc,St3.st] at hy;rw [b3] at hy;exact Al2 h1 _ t y hy
     . simp only [Tm.enc,St3.st] at hb;rw [b3] at hb;exact b1 k b' hb
     . simp only [Tm.enc,St3.st];rw [b3];exact b2 k b hb
   . cases h
 . cases h
theorem Sd {nt:Nat} {Γ:Ctx} {w:World} {tmps:Array Value}:∀ {l:List (Nat × Sh)} {s s':St3} {E:Env},Jq l s=some s'->A8 Γ w E (s.st nt) tmps->∃ E',A8 Γ w E' (s'.st nt) tmps
 | [],s,s',E,h,hs=>by
  simp only [Jq,QD] at h;subst h;exact ⟨E,hs⟩
 | (t,sh)::r,s,s',E,h,hs=>by
  have go:∀ {q},Mu s t sh=some q->(bif q.1 then Jq r q.2 else none)=some s'->∃ E',A8 Γ w E' (s'.st nt) tmps:=by
   rintro ⟨g,s1⟩ h1 h2
   cases g with
   | false=>cases h2
   | true =>
    obtain ⟨x',ob,q1,q2⟩:=Se (nt:=nt) h1 rfl
    obtain ⟨E1,hs1⟩:=Dv [(t,x')] (s':=s1.st nt) (obs:=ob++[]) hs (by simp only [Eu,q1]) (λp hp=>by simp only [XC] at hp;exact q2 p hp)
    exact Sd (l:=r) h2 hs1
  simp only [Jq] at h;split at h
  . exact Sd (l:=r) h hs
  . split at h
    . rename_i hq;exact go hq h
    . cases h
theorem Tm.dec_ok {X:Tm} {s:St3} {x:X.den} (h:X.dec s=some x) {nt:Nat} {Γ:Ctx} {w:World} {E:Env} {tmps:Array Value} (hs:A8 Γ w E (s.st nt) tmps):∃ E',A8 Γ w E' ((X.enc x).st nt) tmps:=by
 unfold Tm.dec at h;split at h
 . rename_i s1 h1;obtain ⟨E1,hs1⟩:=Sd h1 hs;exact Tm.dec1_ok h hs1
 . cases h
end Go.Ev

/- DERIVED. A call that is handed boxes or hands out boxes, decided. -/
namespace Go.Ev
open Go
variable {P:Program} {T:Ty}
def SV.renC (σ:Nat->Nat):SV->SV
 | .hw h=>.hw (σ h)
 | .hs h o l=>.hs (σ h) o l
 | .hp h r c=>.hp (σ h) r c
 | x=>x
def SV.renV (σ:Nat->Nat):SV->SV
 | .agg cs=>.agg (cs.map (SV.renC σ))
 | x=>x.renC σ
def SV.ren3 (σ:Nat->Nat):SV->SV
 | .tup cs=>.tup (cs.map (SV.renV σ))
 | x=>x.renV σ
def SV.okC (p:Nat->Bool):SV->Bool
 | .hw h=>p h
 | .hs h _ _=>p h
 | .hp h _ _=>p h
 | _=>true
def SV.okV (p:Nat->Bool):SV->Bool
 | .agg cs=>cs.all (SV.okC p)
 | x=>x.okC p
def SV.ok3 (p:Nat->Bool):SV->Bool
 | .tup cs=>cs.all (SV.okV p)
 | x=>x.okV p
def SV.clC:SV->Bool
 | .d (.sl _) []=>true
 | .d t _=>t.closed
 | .rf _=>false
 | .dead=>false
 | _=>true
def SV.clV:SV->Bool
 | .agg cs=>cs.all SV.clC
 | x=>x.clC
def SV.cl3:SV->Bool
 | .tup cs=>cs.all SV.clV
 | x=>x.clV
def B3.cl:B3->Bool
 | .arr _ t _ _=>t.closed
 | .rep _ _ _ cs=>cs.all SV.clC
 | .var _ _ _ cs=>cs.all SV.clC
 | .tree _ t _ _=>t.flat
 | .hole _ _ _ _ _ _ _=>false
def B3.plain:B3->Bool
 | .arr _ _ _ _=>true
 | .var _ hf _ cs=>hf&&cs.all SV.isD
 | .tree _ _ _ _=>true
 | _=>false
section
variable {L L':Nat->Nat} {σ:Nat->Nat} {p:Nat->Bool}
theorem Av0 (hL:∀ k,p k=true->L (σ k)=L' k) {x:SV} (ho:x.okC p=true):(x.renC σ).c L=(x.c L').ren σ:=by
 cases x <;> first | rfl | skip;simp only [SV.renC,SV.c,C.ren];rw [hL _ ho]
theorem Ag3 (hL:∀ k,p k=true->L (σ k)=L' k) {x:SV} (ho:x.okV p=true):(x.renV σ).v L=(x.v L').ren σ:=by
 cases x with
 | agg cs =>
  simp only [SV.renV,SV.v,V.ren,XJ];congr 1;exact ZH λy hy=>Av0 hL (QM.1 ho y hy)
 | hw h=>exact XU V.one (Av0 (x:=.hw h) hL ho)
 | _=>rfl
theorem Av1 (hL:∀ k,p k=true->L (σ k)=L' k) {x:SV} (ho:x.ok3 p=true):(x.ren3 σ).s L=(x.s L').ren σ:=by
 cases x with
 | tup cs =>
  simp only [SV.ren3,SV.s,S.ren,XJ];congr 1;exact ZH λy hy=>Ag3 hL (QM.1 ho y hy)
 | hw h=>exact XU S.v (Ag3 (x:=.hw h) hL ho)
 | agg cs=>exact XU S.v (Ag3 (x:=.agg cs) hL ho)
 | _=>rfl
theorem Bia {x:SV} (ho:x.okC p=true):(x.c L).okH p=true:=by cases x <;> first | rfl | exact ho
theorem B73 {x:SV} (ho:x.okV p=true):(x.v L).okH p=true:=by
 cases x with
 | agg cs =>
  simp only [SV.v,V.okH,YS,QM,Function.comp];exact λy hy=>Bia (QM.1 ho y hy)
 | hw h=>exact ho
 | hs h o l=>exact ho
 | hp h r c=>exact ho
 | _=>rfl
theorem Bib {x:SV} (ho:x.ok3 p=true):(x.s L).okH p=true:=by
 cases x with
 | tup cs =>
  simp only [SV.s,S.okH,YS,QM,Function.comp];exact λy hy=>B73 (QM.1 ho y hy)
 | agg cs=>exact B73 (x:=.agg cs) ho
 | hw h=>exact ho
 | hs h o l=>exact ho
 | hp h r c=>exact ho
 | _=>rfl
theorem hd1_closed {l:List I} (h:∀ c ∈ l,IClosed c):IClosed (hd1 l):=by
 cases l with
 | nil=>exact .lit _
 | cons c r=>exact h c (by simp)
theorem Ku {x:SV} (h:x.clC=true):(x.c L).allI IClosed:=by
 cases x with
 | d t y =>
  cases t with
  | sl t =>
   cases y with
   | nil=>exact .nil _ _ _
   | cons a b=>exact hd1_closed (Oy (.sl t) (a::b) h)
  | _=>exact hd1_closed (Oy _ y h)
 | rf=>cases h
 | dead=>cases h
 | hw=>trivial
 | hs=>trivial
 | hp=>trivial
 | _=>exact .lit _
theorem Uw {x:SV} (h:x.clV=true):(x.v L).allI IClosed:=by
 cases x with
 | agg cs =>
  simp only [SV.v,V.allI,QK];intro j c hc;obtain ⟨y,hy,rfl⟩:=QB.1 hc;exact Ku (F2 h hy)
 | d t y=>exact Ku (L:=L) (x:=.d t y) h
 | rf cs=>exact Ku (L:=L) (x:=.rf cs) h
 | hw k=>exact Ku (L:=L) (x:=.hw k) h
 | hs k o l=>exact Ku (L:=L) (x:=.hs k o l) h
 | hp k o l=>exact Ku (L:=L) (x:=.hp k o l) h
 | tup cs=>exact Ku (L:=L) (x:=.tup cs) h
 | dead=>exact Ku (L:=L) (x:=.dead) h
theorem Bjh {x:SV} (h:x.cl3=true):(x.s L).allI IClosed:=by
 cases x with
 | tup cs =>
  simp only [SV.s,S.allI,QK];intro j c hc;obtain ⟨y,hy,rfl⟩:=QB.1 hc;exact Uw (F2 h hy)
 | dead=>trivial
 | d t y=>exact Uw (L:=L) (x:=.d t y) h
 | rf cs=>exact Uw (L:=L) (x:=.rf cs) h
 | hw k=>exact Uw (L:=L) (x:=.hw k) h
 | hs k o l=>exact Uw (L:=L) (x:=.hs k o l) h
 | hp k o l=>exact Uw (L:=L) (x:=.hp k o l) h
 | agg cs=>exact Uw (L:=L) (x:=.agg cs) h
theorem Bht {b:B3} (h:b.cl=true):∀ (i:Nat) (q:List C) (j:Nat) (c:C),(b.box L).rows[i]? = some q->q[j]? = some c->c.allI λy=>IClosed y \/ ((b.box L).tr=true/\V9 y):=by
 intro i q j c hq hc
 cases b with
 | hole=>cases h
 | tree e t fz xs =>
  simp only [B3.box,QK] at hq;obtain ⟨y,hy,rfl⟩:=QB.1 hq;rw [QK] at hc;obtain ⟨z,hz,rfl⟩:=QB.1 hc;exact .inr ⟨rfl,Aw2 t y h z (QX hz)⟩
 | arr e t fz xs =>
  simp only [B3.box,QK] at hq;obtain ⟨y,hy,rfl⟩:=QB.1 hq;rw [QK] at hc;obtain ⟨z,hz,rfl⟩:=QB.1 hc;exact .inl (Oy t y h z (QX hz))
 | rep e fz n cs =>
  simp only [B3.box,XV] at hq;split at hq
  . obtain rfl:=QA hq;rw [QK] at hc;obtain ⟨z,hz,rfl⟩:=QB.1 hc;exact C.allI_mono (λ_ h=>.inl h) (Ku (F2 h hz))
  . cases hq
 | var e hf fz cs =>
  simp only [B3.box] at hq
  cases i with
  | zero =>
   obtain rfl:=QA hq;rw [QK] at hc;obtain ⟨z,hz,rfl⟩:=QB.1 hc;exact C.allI_mono (λ_ h=>.inl h) (Ku (F2 h hz))
  | succ i=>simp at hq
theorem Abs {b:B3} (h:b.plain=true):b.box L=b.box L'/\(b.box L).hf=true:=by
 cases b with
 | hole=>cases h
 | tree=>exact ⟨rfl,rfl⟩
 | arr=>exact ⟨rfl,rfl⟩
 | rep=>cases h
 | var e hf fz cs =>
  simp only [B3.plain,QE] at h
  exact ⟨by simp only [B3.box];rw [Avz h.2],h.1⟩
end
theorem V2 {L L':Nat->Nat} {x:SV} (hL:∀ k,x.menC k=true->L k=L' k):x.c L=x.c L':=by
 cases x <;> first | rfl | skip;rename_i k;simp only [SV.c]
 rw [hL k (by simp [SV.menC])]
theorem A1p {L L':Nat->Nat} {x:SV} (hL:∀ k,x.menV k=true->L k=L' k):x.v L=x.v L':=by
 cases x with
 | agg cs =>
  simp only [SV.v];congr 1;exact ZH λy hy=>V2 λk hk=>hL k (ZZ.2 ⟨y,hy,hk⟩)
 | hw k=>exact XU V.one (V2 (x:=.hw k) hL)
 | _=>rfl
theorem Afy {L L':Nat->Nat} {x:SV} (hL:∀ k,x.men k=true->L k=L' k):x.s L=x.s L':=by
 cases x with
 | tup cs =>
  simp only [SV.s];congr 1;exact ZH λy hy=>A1p λk hk=>hL k (ZZ.2 ⟨y,hy,hk⟩)
 | hw k=>exact XU S.v (A1p (x:=.hw k) hL)
 | agg cs=>exact XU S.v (A1p (x:=.agg cs) hL)
 | _=>rfl
theorem V3 {L L':Nat->Nat} {b:B3} (hL:∀ k,b.men k=true->L k=L' k):b.box L=b.box L':=by
 cases b with
 | hole e t fz xs row col k=>simp only [B3.box];rw [hL k (by simp [B3.men])]
 | tree=>rfl
 | arr=>rfl
 | rep e fz n cs =>
  simp only [B3.box];rw [ZH λy hy=>V2 λk hk=>hL k (ZZ.2 ⟨y,hy,hk⟩)]
 | var e hf fz cs =>
  simp only [B3.box];rw [ZH λy hy=>V2 λk hk=>hL k (ZZ.2 ⟨y,hy,hk⟩)]
def CK.backs:CK->List Nat
 | .back j=>[j]
 | _=>[]
def PK.backs:PK->List Nat
 | .im _=>[]
 | .one c=>c.backs
 | .mix cs=>cs.flatMap CK.backs
def Jf (f0:Nat) (ts:List PK) (o:Oper) (s:St3):Option (Bool × HP ts × List Nat × List (Nat × Nat)) :=
 match o.op with
 | .call c=>match c.callee with
  | .value f=>match A0g (s.val f) with
   | some (fid,caps)=>bif Nat.beq fid f0 then Mr s.boxes 1000 ts (c.args.toList.map s.val++caps) else none
   | none=>none
  | _=>none
 | _=>none
def Yt (rs:List PK):List Nat:=(Ap 0 rs).map (·.1)
def Ip (E:Jl) (hb:Nat) (q:List (Nat × Nat)):List (Nat × Nat):=(Yt E.rs).map (λk=>(k,hb+k))++q
def Dg (E:Jl) (rn:List (Nat × Nat)):List Nat:=(E.rs.flatMap PK.backs).map (Iv rn)
def Ft (B bs:List (Nat × B3)) (kill:List Nat):List (Nat × Nat)->Bool
 | []=>true
 | p::r=>bif kill.any (Nat.beq p.2) then Ft B bs kill r else Nat.beq (A3 B p.1) (A3 bs p.2)&&Ft B bs kill r
def G8 (E:Jl) (hb:Nat) (s:St3) (x:HP E.ts) (bor:List Nat) (q:List (Nat × Nat)) (y:HR E.rs (Ap 1000 E.ts)):Bool :=
 Ex (Ip E hb q)&&C2 (B5 E y) (Ip E hb q)&&C2 (Jz E x) q&&(Jz E x).all (λp=>Nat.ble 1000 p.1)&&(B5 E y).all (λp=>p.2.plain) &&
 (Yt E.rs).all (λk=>Nat.blt (hb+k) 1000&&(A1 (hb+k) s.boxes).isNone&&s.clean (hb+k))&&q.all (λp=>!bor.any (Nat.beq p.2)) &&
 (bor.isEmpty || ((H7 (Bx 0 E.rs (M9 y))).cl3&&(B5 E y).all (λp=>p.2.cl)))&&(H7 (Bx 0 E.rs (M9 y))).ok3 (λk=>(A1 k (B5 E y)).isSome) &&
 (Dg E (Ip E hb q)).all (λh=>s.boxes.all (λp=>!p.2.men h))
def Bc (E:Jl) (hb:Nat) (s:St3) (q:List (Nat × Nat)) (y:HR E.rs (Ap 1000 E.ts)):SV × St3 :=
 ((H7 (Bx 0 E.rs (M9 y))).ren3 (Iv (Ip E hb q)),
  ⟨Aj (λx=>bif (Dg E (Ip E hb q)).any (λh=>x.men h) then .dead else x) s.slots,Ws (B5 E y) (Ip E hb q) s.boxes⟩)
theorem Wv:∀ {a b:List (Nat × Nat)},Ex (a++b)=true->Ex b=true
 | [],_,h=>h
 | (k,h')::r,b,h=>Wv (Ko h).2
theorem Wo {B bs:List (Nat × B3)} {kill:List Nat}:∀ {q:List (Nat × Nat)},Ft B bs kill q=true->∀ p ∈ q,kill.any (Nat.beq p.2)=true \/ A3 B p.1=A3 bs p.2
 | [],_,p,hp=>by cases hp
 | a::r,h,p,hp=>by
  simp only [Ft] at h
  cases hk:kill.any (Nat.beq a.2) with
  | true =>
   rw [hk] at h;rcases QU.1 hp with rfl | hp
   . exact .inl hk
   . exact Wo h p hp
  | false =>
   rw [hk] at h;simp only [cond,QE] at h;rcases QU.1 hp with rfl | hp
   . exact .inr (QC h.1)
   . exact Wo h.2 p hp
theorem Ca {β:Type} {k:Nat} {b:β} {l:List (Nat × β)} (h:A1 k l=some b):(k,b) ∈ l:=Ck h
theorem Ae4 {E:Jl} {hb:Nat} {o:Oper} {s s':St3} {nt:Nat} {x:HP E.ts} {bor:List Nat} {q:List (Nat × Nat)} {y:HR E.rs (Ap 1000 E.ts)} {K:Am}
  (h:Jf E.f E.ts o s=some (true,x,bor,q)) (hc:G8 E hb s x bor q y=true) (hg:Ft (B5 E y) s.boxes (Dg E (Ip E hb q)) q=true) (hF:E.Den P nt x y)
  (hp:(Bc E hb s q y).2.put3 K o.dst (Bc E hb s q y).1=some s') :
  ∃ D obs,Cd P T K o D (s.st nt)=some (s'.st nt,obs) /\ ∀ p ∈ obs,p:=by
 obtain ⟨dst,op,type,pos,aft,guard⟩:=o;unfold Jf at h;simp only at h;split at h
 case h_2=>cases h
 rename_i c;split at h
 case h_2=>cases h
 rename_i f hf;split at h
 case h_2=>cases h
 rename_i fid caps hcal
 cases hcf:Nat.beq fid E.f with
 | false=>rw [hcf] at h;cases h
 | true =>
 rw [hcf] at h;simp only [cond] at h;obtain rfl:=QC hcf;generalize hrn:Ip E hb q=rn at *;unfold G8 at hc;rw [hrn] at hc;simp only [QE] at hc;obtain ⟨⟨⟨⟨⟨⟨⟨⟨⟨c1,c2⟩,c3⟩,c4⟩,c5⟩,c6⟩,c7⟩,c8⟩,c9⟩,c10⟩:=hc;have hrn':rn=(Yt E.rs).map (λk=>(k,hb+k))++q:=hrn.symm
 have c1q:Ex q=true:=Wv (by rw [<- hrn'];exact c1)
 have qrn:∀ p ∈ q,p ∈ rn:=λp hp=>by rw [hrn'];exact QF.2 (.inr hp)
 have fwdm:∀ k h,(k,h) ∈ rn->Iv rn k=h/\Jg rn h=some k/\A1 k rn=some h:=λk h hm=>by
  obtain ⟨e1,e2⟩:=Nk c1 hm
  exact ⟨by unfold Iv;rw [e1],e2,e1⟩
 have outS:∀ k,(A1 k (By (B5 E y))).isSome=(A1 k rn).isSome:=λk=>by
  unfold By;rw [Ae,JE,F8 c2 k]
 have inS:∀ k,(A1 k (By (Jz E x))).isSome=(A1 k q).isSome:=λk=>by
  unfold By;rw [Ae,JE,F8 c3 k]
 obtain ⟨⟨ob,a1,a2⟩,a3,a4,a5⟩:=Ale (hd:=λk h=>q.any λp=>Nat.beq p.1 k&&Nat.beq p.2 h) (L:=A3 (Jz E x)) h rfl
  (λp hp=>ZZ.2 ⟨p,hp,by simp⟩) (λk b hb=>by
   have:=Wk c3 c1q hb;simp only [A3]
   show (match A1 k (Jz E x) with | some b=>b.len | none=>0)=b.len
   rw [this])
 obtain ⟨cs,k1,k2⟩:=A7x (L:=A3 s.boxes) hcal
 have hfa:(s.val f).alive=true:=Bb λe=>by rw [e] at hcal;cases hcal
 have hfv:=Bf (nt:=nt) rfl hfa
 have hmap:c.args.toList.map (s.st nt).val++cs.map (λx=>S.v (V.one (C.i x)))=(c.args.toList.map s.val++caps).map (SV.s (A3 s.boxes)):=by
  rw [YX,k2,XJ];congr 1;exact ZH λz hz=>Bf rfl (a5 _ (QF.2 (.inl (ZM.2 ⟨z,hz,rfl⟩))))
 have blook:∀ h,A1 h (Bc E hb s q y).2.boxes=match Jg rn h with | some k=>A1 k (B5 E y) | none=>A1 h s.boxes:=λh=>by
  have:=A17 (bs:=s.boxes) c2 c1 h;rw [<- hrn] at this ⊢;exact this
 have lenk:∀ k h,(k,h) ∈ rn->A3 (Bc E hb s q y).2.boxes h=A3 (B5 E y) k:=λk h hm=>by
  unfold A3;rw [blook h,(fwdm k h hm).2.1]
 have lenS:∀ h,s.clean h=true \/ (∀ k,Jg rn h=some k->(k,h) ∈ q/\(Dg E rn).any (Nat.beq h)=false)->s.clean h=true \/ A3 (Bc E hb s q y).2.boxes h=A3 s.boxes h:=by
  intro h hh;rcases hh with hh | hh
  . exact .inl hh
  . cases hw:Jg rn h with
    | none =>
     right;unfold A3;rw [blook h,hw]
    | some k =>
     obtain ⟨h1,h2⟩:=hh k hw;right;rw [lenk k h (qrn _ h1)];rcases Wo hg _ h1 with h3 | h3
     . rw [h3] at h2;cases h2
     . exact h3
 have newC:∀ k h,(k,h) ∈ rn->(k,h) ∈ q \/ (h<1000/\A1 h s.boxes=none/\s.clean h=true):=λk h hm=>by
  rw [hrn'] at hm;rcases QF.1 hm with hm | hm
  . obtain ⟨k',hk',e⟩:=ZM.1 hm;obtain ⟨rfl,rfl⟩:=KH e;have:=QM.1 c6 k' hk';simp only [QE] at this
    exact .inr ⟨by simpa [ZP] using this.1.1,by simpa using this.1.2,this.2⟩
  . exact .inl hm
 have lenM:∀ h,(Dg E rn).any (Nat.beq h)=false->s.clean h=true \/ A3 (Bc E hb s q y).2.boxes h=A3 s.boxes h:=λh hk=>by
  cases hw:Jg rn h with
  | none=>exact lenS h (.inr λk e=>by rw [hw] at e;cases e)
  | some k =>
   rcases newC k h (A0h hw) with h1 | h1
   . exact lenS h (.inr λk' e=>by rw [hw] at e;obtain rfl:=QA e;exact ⟨h1,hk⟩)
   . exact .inl h1.2.2
 have cleanS:∀ {t:Nat} {z:SV} {h:Nat},A1 t s.slots=some z->s.clean h=true->z.men h=false:=λ{t z h} hz hcl=>by
  unfold St3.clean at hcl;simp only [QE,QM,ZJ] at hcl;exact hcl.1 _ (Ca hz)
 have Oz:∀ {t:Nat} {z:B3} {h:Nat},A1 t s.boxes=some z->s.clean h=true->z.men h=false:=λ{t z h} hz hcl=>by
  unfold St3.clean at hcl;simp only [QE,QM,ZJ] at hcl;exact hcl.2 _ (Ca hz)
 have hval:(Bc E hb s q y).1.s (A3 (Bc E hb s q y).2.boxes)=((H7 (Bx 0 E.rs (M9 y))).s (A3 (B5 E y))).ren (Iv rn):=by
  have:(Bc E hb s q y).1=(H7 (Bx 0 E.rs (M9 y))).ren3 (Iv rn):=by rw [<- hrn];rfl
  rw [this];refine Av1 (p:=λk=>(A1 k (B5 E y)).isSome) (λk hk=>?_) c9;rw [F8 c2 k] at hk;obtain ⟨h',hh'⟩:=ZF.1 hk;have hm':=Ck hh';rw [(fwdm k h' hm').1,lenk k h' hm']
 have hput:=Qm (nt:=nt) hp;rw [hval] at hput
 let cb:CallB:=⟨E.ts.map PK.isIm,(Bx 1000 E.ts x).map (SV.v (A3 (Jz E x))),(H7 (Bx 0 E.rs (M9 y))).s (A3 (B5 E y)),By (Jz E x),By (B5 E y),Iv rn,Jg rn,λk h=>q.any λp=>Nat.beq p.1 k&&Nat.beq p.2 h,(Bc E hb s q y).2.st nt⟩
 have hok:cb.OK P E.f (s.st nt) bor:=by
  refine ⟨hF,λk h hq=>?_,λk hk=>?_,λh k hk=>?_,λk b hb=>?_,λk b hb=>?_,?_,?_,a3,λh=>?_,λt z hz=>?_⟩
  . obtain ⟨p,hp1,hp2⟩:=ZZ.1 hq;simp only [QE] at hp2;have e1:=QC hp2.1;have e2:=QC hp2.2
    have hm':(k,h) ∈ q:=by rw [<- e1,<- e2];exact hp1
    refine ⟨(fwdm k h (qrn _ hm')).1,?_⟩;show (A1 k (By (Jz E x))).isSome=true;rw [inS k,(Nk c1q hm').1];rfl
  . have hk:(A1 k (By (B5 E y))).isSome=true:=hk;rw [outS k] at hk;obtain ⟨h',hh'⟩:=ZF.1 hk;obtain ⟨e1,e2,_⟩:=fwdm k h' (Ck hh');show Jg rn (Iv rn k)=some k;rw [e1,e2]
  . have hk:Jg rn h=some k:=hk;obtain ⟨e1,e2,e3⟩:=fwdm k h (A0h hk);refine ⟨e1,?_⟩;show (A1 k (By (B5 E y))).isSome=true;rw [outS k,e3];rfl
  . have hb:A1 k (By (Jz E x))=some b:=hb;unfold By at hb;rw [Ae] at hb;obtain ⟨b3,hb3,rfl⟩:=QB.1 hb;have hmem:=Ca hb3;obtain ⟨h',b',i1,i2,i3,i4,i5⟩:=a4 k b3 hmem;obtain ⟨e1,e2,e3⟩:=fwdm k h' (qrn _ i1);have hk:=QM.1 c4 _ hmem;have hnb:=QM.1 c7 _ i1
    refine ⟨by simpa using hk,?_,(i5 _).1,(i5 _).2,?_,?_⟩
    . show A1 (Iv rn k) (Aj (B3.box (A3 s.boxes)) s.boxes)=_;rw [e1,Ae,i2];exact XU some (i4 _ _)
    . show Iv rn k ∉ bor;rw [e1];intro hmb
      have:(bor.any (Nat.beq h'))=true:=ZZ.2 ⟨h',hmb,by simp⟩
      simp only [this,ZR] at hnb
      cases hnb
    . show (A1 k (By (B5 E y))).isSome=true;rw [outS k,e3];rfl
  . have hb:A1 k (By (B5 E y))=some b:=hb
    have hS:(A1 k (By (B5 E y))).isSome=true:=by rw [hb];rfl
    rw [outS k] at hS;obtain ⟨h',hh'⟩:=ZF.1 hS;obtain ⟨e1,e2,e3⟩:=fwdm k h' (Ck hh');unfold By at hb;rw [Ae] at hb;obtain ⟨b3,hb3,rfl⟩:=QB.1 hb;refine ⟨(Abs (L':=λ_=>0) (QM.1 c5 _ (Ca hb3))).2,λhn=>?_⟩;have hn:A1 k (By (Jz E x))=none:=hn;rcases newC k h' (Ck hh') with h1 | ⟨h1,h2,_⟩
    . have:(A1 k (By (Jz E x))).isSome=true:=by rw [inS k,(Nk c1q h1).1];rfl
      rw [hn] at this;cases this
    . show A1 (Iv rn k) (Aj _ s.boxes)=none/\Iv rn k<1000;rw [e1,Ae,h2];exact ⟨rfl,h1⟩
  . simp only [XN,YK,QE] at c8;rcases c8 with c8 | ⟨c8,c8'⟩
    . exact .inl c8
    . refine .inr ⟨Bjh c8,λk b hb=>?_⟩;have hb:A1 k (By (B5 E y))=some b:=hb;unfold By at hb;rw [Ae] at hb;obtain ⟨b3,hb3,rfl⟩:=QB.1 hb;exact Bht (QM.1 c8' _ (Ca hb3))
  . have : (fun k => (A1 k (By (B5 E y))).isSome) = fun k => (A1 k (B5 E y)).isSome := by
     funext k;unfold By;rw [Ae,JE]
    show S.okH (λk=>(A1 k (By (B5 E y))).isSome) _=true;rw [this];exact Bib c9
  . show A1 h (Aj (B3.box (A3 (Bc E hb s q y).2.boxes)) (Bc E hb s q y).2.boxes)=match Jg rn h with | some k=>A1 k (By (B5 E y)) | none=>A1 h (Aj (B3.box (A3 s.boxes)) s.boxes)
    rw [Ae,blook h]
    cases hw:Jg rn h with
    | some k =>
     simp only;unfold By;rw [Ae]
     cases hb:A1 k (B5 E y) with
     | none=>rfl
     | some b3=>exact XU some (Abs (QM.1 c5 _ (Ca hb))).1
    | none =>
     simp only;rw [Ae]
     cases hb:A1 h s.boxes with
     | none=>rfl
     | some b3 =>
      refine XU some (V3 λk hk=>?_)
      cases hki:(Dg E rn).any (Nat.beq k) with
      | true =>
       obtain ⟨k2,hk2,hk3⟩:=ZZ.1 hki;obtain rfl:=QC hk3;have:=QM.1 (QM.1 c10 _ hk2) _ (Ca hb);simp only [hk,ZR] at this
       cases this
      | false =>
       rcases lenM k hki with h1 | h1
       . rw [Oz hb h1] at hk;cases hk
       . exact h1
  . have hz:A1 t (Aj (SV.s (A3 (Bc E hb s q y).2.boxes)) (Aj (λx=>bif (Dg E (Ip E hb q)).any (λh=>x.men h) then .dead else x) s.slots))=some z:=hz
    rw [hrn,Ae,Ae,Option.map_map] at hz;obtain ⟨z0,hz0,rfl⟩:=QB.1 hz;simp only [Function.comp]
    cases hki:(Dg E rn).any (λh=>z0.men h) with
    | true=>exact .inl rfl
    | false =>
     right;show A1 t (Aj (SV.s (A3 s.boxes)) s.slots)=_;rw [Ae,hz0];refine XU some (Afy λk hk=>?_)
     cases hki':(Dg E rn).any (Nat.beq k) with
     | true =>
      obtain ⟨k2,hk2,hk3⟩:=ZZ.1 hki';obtain rfl:=QC hk3;have:=XD.1 hki _ hk2;rw [hk] at this;exact absurd rfl this
     | false =>
      rcases lenM k hki' with h1 | h1
      . rw [cleanS hz0 h1] at hk;cases hk
      . exact h1.symm
 refine ⟨{ callB:=some cb },cb.OK P E.f (s.st nt) bor::ob,?_,λp hp=>?_⟩
 . have a1' : Hr cb.hd (s.st nt).box cb.ims (c.args.toList.map (s.st nt).val ++ cs.map fun x => S.v (V.one (C.i x))) cb.args = some (ob, bor) := by
    rw [hmap];exact a1
   simp only [Cd,Aes,hf,hfv,k1,a1'];have:cb.s'.putD K dst (cb.r.ren cb.σ)=some (s'.st nt):=hput;rw [this];rfl
 . rcases QU.1 hp with rfl | hp
   . exact hok
   . exact a2 p hp
def onB {α:Type} (K:Am) (E:Jl) (hb:Nat) (o:Oper) (s:St3) (x:HP E.ts) (bor:List Nat) (q:List (Nat × Nat)) (y:HR E.rs (Ap 1000 E.ts)) (k:St3->Option α):Option α :=
 bif G8 E hb s x bor q y then bif Ft (B5 E y) s.boxes (Dg E (Ip E hb q)) q then (match (Bc E hb s q y).2.put3 K o.dst (Bc E hb s q y).1 with
  | some s'=>k s'
  | none=>none) else none else none
def Qk {α:Type} (K:Am) (E:Ent3) (hb:Nat) (o:Oper) (s:St3) (k:St3->Option α):Option α :=
 match Jf E.f E.ts o s with
 | some (g,x,bor,q)=>bif g then (match E.m x with
  | some z=>Je (Ap 1000 E.ts) E.forms z λrs y=>onB K ⟨E.f,E.ts,rs⟩ hb o s x bor q y k
  | none=>none) else none
 | none=>none
theorem Vy {α:Type} {K:Am} {E:Ent3} {hb:Nat} {o:Oper} {s:St3} {nt:Nat} {k:St3->Option α} {r:α} (h:Qk K E hb o s k=some r) (hE:E.Sound P) :
  ∃ s' D obs,Cd P T K o D (s.st nt)=some (s'.st nt,obs)/\(∀ p ∈ obs,p)/\k s'=some r:=by
 unfold Qk at h;split at h
 . rename_i g x bor q hc
   cases g with
   | false=>cases h
   | true =>
    simp only [cond] at h;split at h
    . rename_i z hm;obtain ⟨rs,y,h1,h2⟩:=Mp h (hE nt x z hm);unfold onB at h1
      cases hck:G8 ⟨E.f,E.ts,rs⟩ hb s x bor q y with
      | false=>rw [hck] at h1;cases h1
      | true =>
       rw [hck] at h1;simp only [cond] at h1
       cases hl:Ft (B5 ⟨E.f,E.ts,rs⟩ y) s.boxes (Dg ⟨E.f,E.ts,rs⟩ (Ip ⟨E.f,E.ts,rs⟩ hb q)) q with
       | false=>rw [hl] at h1;cases h1
       | true =>
        rw [hl] at h1;simp only at h1;split at h1
        . rename_i s' hp;obtain ⟨D,obs,q1,q2⟩:=Ae4 (T:=T) (E:=⟨E.f,E.ts,rs⟩) hc hck hl h2 hp;exact ⟨s',D,obs,q1,q2,h1⟩
        . cases h1
    . cases h
 . cases h
end Go.Ev

/- DERIVED. Trees over shapes: the function's own boxes stored into a tree, or appended to it. -/
namespace Go.Ev
open Go
variable {P:Program} {T:Ty}
def Aqb (bs:List (Nat × B3)) (h:Nat):SV->Option (Bool × SV × List Nat)
 | .hw k=>match A1 k bs with
  | some (.arr e sh false ys)=>bif Nat.blt k 1000 && !Nat.beq k h&&sh.lits&&(Nat.beq e Dh&&Nat.beq sh.size 1) then some (true,.d (.sl sh) ys,[k]) else none
  | _=>none
 | .d (.sl sh) ys=>some (ys.isEmpty,.d (.sl sh) ys,[])
 | .d t x=>bif t.one&&t.lits then some (true,.d t x,[]) else none
 | _=>none
def Nc (bs:List (Nat × B3)) (h:Nat):List SV->Option (Bool × List SV × List Nat)
 | []=>some (true,[],[])
 | c::r=>match Aqb bs h c,Nc bs h r with
  | some (g,c',ks),some (g',r',ks')=>some (g&&g',c'::r',ks++ks')
  | _,_=>none
def A8f (bs:List (Nat × B3)) (k:Nat):I:=match A1 k bs with
 | some (.arr _ sh _ ys)=>.sl 0 false sh.size (ys.map sh.cells)
 | _=>.any
structure Bhu (bs:List (Nat × B3)) (h k:Nat):Prop where
 lt:k<1000
 ne:k ≠ h
 at_:∃ e sh ys,A1 k bs=some (.arr e sh false ys)/\sh.lits=true/\e=Dh/\sh.size=1
theorem B2q {L:Nat->Nat} {bs:List (Nat × B3)} {h:Nat} {c c':SV} {g:Bool} {ks:List Nat} (hc:Aqb bs h c=some (g,c',ks)) (hg:g=true) :
  (c.c L).okT=true/\c.cellB=true/\c'.isD=true/\(c.c L).men h=false/\((ks=[]/\(∀ k,c.menC k=false)/\c'.c L=c.c L /\ ∃ y,c.c L = .i y) \/ ∃ k,ks=[k]/\c = .hw k/\Bhu bs h k/\c'.c L = .i (A8f bs k)):=by
 unfold Aqb at hc;split at hc
 . rename_i k;split at hc
   . rename_i e sh ys hl
     cases hb:(Nat.blt k 1000 && !Nat.beq k h&&sh.lits&&(Nat.beq e Dh&&Nat.beq sh.size 1)) with
     | false=>rw [hb] at hc;cases hc
     | true =>
      rw [hb] at hc;simp only [cond,QD,QI] at hc;obtain ⟨_,rfl,rfl⟩:=hc;simp only [QE,ZJ] at hb;have hne:k ≠ h:=Lk hb.1.1.2
      refine ⟨rfl,rfl,rfl,H5 hne,.inr ⟨k,rfl,rfl,⟨by have:=hb.1.1.1;simpa [ZP] using this,hne,e,sh,ys,hl,hb.1.2,QC hb.2.1,QC hb.2.2⟩,?_⟩⟩
      simp only [A8f,hl,SV.c,Sh.cells,hd1]
   . cases hc
 . rename_i sh ys;simp only [QD,QI] at hc;obtain ⟨h1,rfl,rfl⟩:=hc
   have:ys=[]:=by rw [<- h1] at hg;simpa using hg
   subst this;exact ⟨rfl,rfl,rfl,rfl,.inl ⟨rfl,λ_=>rfl,rfl,_,rfl⟩⟩
 . rename_i t x _
   cases hb:(t.one&&t.lits) with
   | false=>rw [hb] at hc;cases hc
   | true =>
    rw [hb] at hc;simp only [cond,QD,QI] at hc;obtain ⟨_,rfl,rfl⟩:=hc;simp only [QE] at hb
    have:∃ v,hd1 (t.cells x) = .lit v:=by
     cases hx:t.cells x with
     | nil=>have:=t.cells_len x;rw [hx] at this;exact ⟨_,rfl⟩
     | cons y r=>obtain ⟨v,hv⟩:=A60 t x hb.2 y (by rw [hx];simp);exact ⟨v,hv⟩
    obtain ⟨v,hv⟩:=this
    refine ⟨by simp only [SV.c,hv];rfl,hb.1,hb.1,rfl,.inl ⟨rfl,λ_=>rfl,rfl,_,rfl⟩⟩
 . cases hc
theorem P5 {L:Nat->Nat} {bs:List (Nat × B3)} {h:Nat}:∀ {cs cs':List SV} {g:Bool} {ks:List Nat},Nc bs h cs=some (g,cs',ks)->g=true->ks.Nodup ->
  (cs.map (SV.c L)).all C.okT=true/\cs.all SV.cellB=true/\(∀ c ∈ cs.map (SV.c L),c.men h=false)/\(∀ k ∈ ks,Bhu bs h k /\ ∃ col,cs[col]? = some (.hw k) /\ ∀ (j:Nat) (c:SV),cs[j]? = some c->j ≠ col->c.menC k=false) /\
  (∀ ks',(∀ k ∈ ks,k ∈ ks')->(cs.map (SV.c L)).map (Qf ks' (A8f bs))=cs'.map (SV.c L))/\(∀ k,k ∉ ks->∀ c ∈ cs,c.menC k=false)
 | [],cs',g,ks,hc,_,_=>by
  simp only [Nc,QD,QI] at hc;obtain ⟨_,rfl,rfl⟩:=hc
  exact ⟨rfl,rfl,λc h=>by simp at h,λk h=>by simp at h,λ_ _=>rfl,λk _ c h=>by simp at h⟩
 | c::r,cs',g,ks,hc,hg,hn=>by
  simp only [Nc] at hc;split at hc
  . rename_i g1 c1 k1 g2 r2 k2 h1 h2;simp only [QD,QI] at hc;obtain ⟨rfl,rfl,rfl⟩:=hc;simp only [QE] at hg;obtain ⟨a1,a2,a3,a4,a5⟩:=B2q (L:=L) h1 hg.1;obtain ⟨n1,n2,n3⟩:=List.nodup_append.1 hn;obtain ⟨b1,b2,b3,b4,b5,b6⟩:=P5 (L:=L) h2 hg.2 n2
    refine ⟨by simp only [QW,XY,a1,b1,ZG],by simp only [XY,a2,b2,ZG],λx hx=>?_,λk hk=>?_,λks' hks=>?_,λk hk x hx=>?_⟩
    . rcases QU.1 hx with rfl | hx
      . exact a4
      . exact b3 x hx
    . rcases QF.1 hk with hk1 | hk3
      . rcases a5 with ⟨rfl,_⟩ | ⟨k0,rfl,rfl,t0,_⟩
        . simp at hk1
        . obtain rfl:k=k0:=by simpa using hk1
          refine ⟨t0,0,rfl,λj x hj hne=>?_⟩
          cases j with
          | zero=>exact absurd rfl hne
          | succ j =>
           have hj:r[j]? = some x:=by simpa using hj
           exact b6 k (λhk2=>n3 k (by simp) k hk2 rfl) x (QX hj)
      . obtain ⟨t0,col,q1,q2⟩:=b4 k hk3
        refine ⟨t0,col+1,by simpa using q1,λj x hj hne=>?_⟩
        cases j with
        | zero =>
         obtain rfl:c=x:=by simpa using hj
         rcases a5 with ⟨_,hm,_⟩ | ⟨k0,rfl,rfl,_,_⟩
         . exact hm k
         . exact H5 λe=>n3 k0 (by simp) k hk3 e
        | succ j=>exact q2 j x (by simpa using hj) (by omega)
    . simp only [QW]
      rw [b5 ks' λk hk=>hks k (by simp [hk])]
      congr 1;rcases a5 with ⟨_,_,e1,y,e2⟩ | ⟨k0,rfl,rfl,_,e1⟩
      . rw [e1,e2];rfl
      . rw [e1]
        have:ks'.any (Nat.beq k0)=true:=ZZ.2 ⟨k0,hks k0 (by simp),XF k0⟩
        simp only [SV.c,Qf,this,cond]
    . rcases QU.1 hx with rfl | hx
      . rcases a5 with ⟨_,hm,_⟩ | ⟨k0,rfl,rfl,_,_⟩
        . exact hm k
        . exact H5 λe=>hk (by simp [e])
      . exact b6 k (λh=>hk (by simp [h])) x hx
  . cases hc
def Kz:List Nat->Bool
 | []=>true
 | k::r=>!r.any (Nat.beq k)&&Kz r
theorem Ky:∀ {l:List Nat},Kz l=true->l.Nodup
 | [],_=>List.nodup_nil
 | k::r,h=>by
  simp only [Kz,QE,ZJ] at h
  exact KC.2 ⟨λhk=>by have:=XD.1 h.1 k hk;simp at this,Ky h.2⟩
def G0 (ks:List Nat) (sl:List (Nat × SV)):List (Nat × SV):=Aj (λx=>bif ks.any (λk=>x.men k) then .dead else x) sl
def Rx (h:Nat) (skip ks:List Nat) (bs:List (Nat × B3)):Bool:=bs.all λp=>Nat.beq p.1 h || skip.any (Nat.beq p.1) || ks.all λk=>!p.2.men k
def S8 (T:Ty) (o:Oper) (s:St3):Option (Bool × St3) :=
 match o.op,o.dst with
 | .store t a x,none=>match T t,s.val a,s.val x with
  | some ti,.hp h row 0,.agg cs=>match A1 h s.boxes with
   | some (.tree e sh false xs)=>match Nc s.boxes h cs with
    | some (g,cs',ks)=>match sh.all false cs' with
     | some y=>bif Nat.beq ti.size sh.size&&SV.fits3 ti (.agg cs)&&Kz ks&&Rx h [] (h::([]++ks)) s.boxes then
       some (g&&decide (row<xs.length),{ slots:=G0 ks s.slots,boxes:=Ak h (.tree e sh false (xs.set row y)) (I3 ks s.boxes) }) else none
     | none=>none
    | none=>none
   | _=>none
  | _,_,_=>none
 | _,_=>none
theorem Ih {L:Nat->Nat} {b:B3} {k:Nat} (hb:b.men k=false):∀ (i:Nat) (r:List C) (j:Nat) (c:C),(b.box L).rows[i]? = some r->r[j]? = some c->c.men k=false:=by
 have lst:∀ (cs:List SV),cs.any (SV.menC k)=false->∀ (j:Nat) (c:C),(cs.map (SV.c L))[j]? = some c->c.men k=false:=by
  intro cs h j c hj;rw [QK] at hj;obtain ⟨x,hx,rfl⟩:=QB.1 hj;rw [Qp];exact Gc h hx
 intro i r j c hi hj
 cases b with
 | hole e t fz xs row col k0 =>
  have hm:(B3.hole e t fz xs row col k0 |>.box L).men k=false:=Aq0 hb;simp only [Box.men] at hm;have:=XD.1 hm r (QX hi);simp only [ZZ,not_exists,not_and,Qap] at this;exact this c (QX hj)
 | arr e t fz xs =>
  simp only [B3.box,QK] at hi;obtain ⟨x,_,rfl⟩:=QB.1 hi;rw [QK] at hj;obtain ⟨y,_,rfl⟩:=QB.1 hj;rfl
 | tree e t fz xs =>
  simp only [B3.box,QK] at hi;obtain ⟨x,_,rfl⟩:=QB.1 hi;rw [QK] at hj;obtain ⟨y,_,rfl⟩:=QB.1 hj;rfl
 | rep e fz n cs =>
  simp only [B3.box,XV] at hi;split at hi
  . obtain rfl:=QA hi;exact lst cs hb j c hj
  . cases hi
 | var e hf fz cs =>
  simp only [B3.box] at hi
  cases i with
  | zero=>obtain rfl:=QA hi;exact lst cs hb j c hj
  | succ i=>simp at hi
theorem Li {h:Nat} {skip ks:List Nat} {bs:List (Nat × B3)} (hc:Rx h skip ks bs=true) {j:Nat} {b:B3} (hj:A1 j bs=some b) (h1:j ≠ h) (h2:j ∉ skip):∀ k ∈ ks,b.men k=false:=by
 intro k hk;have:=QM.1 hc _ (Ca hj);simp only [XN,QM,ZJ] at this;rcases this with (h3 | h3) | h3
 . exact absurd (QC h3) h1
 . obtain ⟨x,hx,he⟩:=ZZ.1 h3;exact absurd (QC he ▸ hx) h2
 . exact h3 k hk
theorem A0w {s s':St3} {nt:Nat} {S1:St} {h row:Nat} {e:TypeId} {sh:Sh} {xs':List sh.den} {y:sh.den} {cs cs':List SV} {g0:Bool} {ks dl:List Nat} {hf1:Bool} {rows1:List (List C)}
  (hn:S1.nt=nt) (hsl:∀ t x,A1 t (s'.st nt).slots=some x->x = .dead \/ A1 t S1.slots=some x) (hm:∀ k ∈ dl++ks,∀ t x,A1 t (s'.st nt).slots=some x->x.men k=false)
  (hb1:A1 h S1.boxes=some ⟨e,sh.size,hf1,false,rows1,true⟩) (hrow:rows1[row]? = some (cs.map (SV.c (A3 s.boxes))))
  (hoth:∀ (i:Nat) (q:List C) (j:Nat) (c:C),i ≠ row->rows1[i]? = some q->q[j]? = some c->∃ y,c = .i y)
  (hj:∀ j,j ≠ h->A1 j S1.boxes=(A1 j s.boxes).map (B3.box (A3 s.boxes)))
  (ht:Nc s.boxes h cs=some (g0,cs',ks)) (hg:g0=true) (hnd:Kz ks=true) (hy:sh.all false cs'=some y)
  (hdl:∀ k ∈ dl,k<1000/\k ≠ h/\k ∉ ks) (hd1:dl.length<=1) (hcl:Rx h dl (h::(dl++ks)) s.boxes=true)
  (hs':s'.boxes=Ak h (.tree e sh false xs') (I3 (dl++ks) s.boxes)) (hxs:rows1.set row ((sh.cells y).map .i)=xs'.map λx=>(sh.cells x).map .i)
  (hself:∀ (i:Nat) (r:List C) (j:Nat) (c:C),rows1[i]? = some r->r[j]? = some c->∀ k ∈ dl,c.men k=false):C3 S1 (s'.st nt):=by
 obtain ⟨f1,f2,f3,f4,f5,f6⟩:=P5 (L:=A3 s.boxes) ht hg (Ky hnd);obtain ⟨y1,_,_,_⟩:=Cl hy
 let b1:Box:=⟨e,sh.size,hf1,false,rows1,true⟩
 let S2:St:={ S1 with slots:=(s'.st nt).slots }
 have w1:C3 S1 S2:=Cx rfl hsl λ_=>rfl
 have w2:C3 S2 { S2 with boxes:=I3 dl S1.boxes }:=by
  rcases dl with _ | ⟨k,_ | ⟨k2,r⟩⟩
  . exact Cx rfl (λt x hx=>.inr hx) λ_=>rfl
  . refine Afe (s:=S2) (hdl k (by simp)).1 (λt x hx=>hm k (by simp) t x hx) (λj b hjk hb=>?_)
    by_cases e1:j=h
    . subst e1;rw [show A1 j S2.boxes=some b1 from hb1] at hb;obtain rfl:=QA hb
      exact λi r j' c hi hc=>hself i r j' c hi hc k (by simp)
    . rw [show A1 j S2.boxes=_ from hj j e1] at hb;obtain ⟨b3,hb3,rfl⟩:=QB.1 hb
      exact Ih (Li hcl hb3 e1 (by simpa using hjk) k (by simp))
  . simp at hd1
 let S3:St:={ S2 with boxes:=I3 dl S1.boxes }
 have hdl':∀ k ∈ dl,∀ j,j ∈ ks->j ≠ k:=λk hk j hj e=>(hdl k hk).2.2 (e ▸ hj)
 have l3:∀ j,A1 j S3.boxes=bif dl.any (Nat.beq j) then none else A1 j S1.boxes:=λj=>E8 dl _ j
 have nodl:∀ j,j ∉ dl->dl.any (Nat.beq j)=false:=λj hj=>XD.2 λx hx=>by
  intro e;exact hj (QC e ▸ hx)
 have hdlh:h ∉ dl:=λhh=>(hdl h hh).2.1 rfl
 have ok:Auf S3 h row b1 (cs.map (SV.c (A3 s.boxes))) ks (A8f s.boxes):=by
  refine ⟨by rw [l3,nodl h hdlh];exact hb1,rfl,hrow,hoth,Ky hnd,λk hk=>?_,λk hk=>hm k (by simp [hk]),λk hk i b' h1 h2 hl=>?_⟩
  . obtain ⟨⟨t1,t2,e',sh',ys,t3,t4,t5,t6⟩,col,q1,q2⟩:=f4 k hk;have hkd:k ∉ dl:=λhh=>hdl' k hh k hk rfl
    refine ⟨t2,t1,(B3.arr e' sh' false ys).box (A3 s.boxes),ys.map sh'.cells,col,A3 s.boxes k,by rw [l3,nodl k hkd];show A1 k S1.boxes=_;rw [hj k t2,t3];rfl,rfl,rfl,by rw [QK,q1];rfl,by simp [A3,t3,B3.len,B3.box],by simp only [B3.box,XJ];rfl,λi q j z hi hz=>?_,by simp only [A8f,t3,B3.box],(λj c hjj hne=>?_),t5,t6⟩
    . rw [QK] at hi;obtain ⟨u,_,rfl⟩:=QB.1 hi;exact A60 sh' u t4 z (QX hz)
    . rw [QK] at hjj;obtain ⟨u,hu,rfl⟩:=QB.1 hjj;rw [Qp];exact q2 j u hu hne
  . rw [l3] at hl;by_cases e1:i ∈ dl
    . have:dl.any (Nat.beq i)=true:=ZZ.2 ⟨i,e1,XF i⟩;rw [this] at hl;cases hl
    . rw [nodl i e1] at hl;rw [show A1 i S1.boxes=_ from hj i h2] at hl;obtain ⟨b3,hb3,rfl⟩:=QB.1 hl
      exact Ih (Li hcl hb3 h2 e1 k (by simp [hk]))
 have w3:=Aq7 ks ok
 have er:(cs.map (SV.c (A3 s.boxes))).map (Qf ks (A8f s.boxes))=(sh.cells y).map .i:=by rw [f5 ks λ_ h=>h,y1 (A3 s.boxes)]
 rw [er] at w3;have hrow':b1.rows.set row ((sh.cells y).map .i)=xs'.map λx=>(sh.cells x).map .i:=hxs;rw [hrow'] at w3
 refine w1.trans (w2.trans (w3.trans ((B85 (h:=h) (b:=⟨e,sh.size,bif ks.isEmpty then hf1 else false,false,xs'.map λx=>(sh.cells x).map .i,true⟩) (A9 _ _ _) (λi r j c hi hc=>?_)).trans (Cx hn.symm (λt x hx=>.inr hx) λj=>?_))))
 . rw [QK] at hi;obtain ⟨x,_,rfl⟩:=QB.1 hi;rw [QK] at hc;obtain ⟨z,_,rfl⟩:=QB.1 hc;exact ⟨z,rfl⟩
 . show A1 j (Aj (B3.box (A3 s'.boxes)) s'.boxes)=A1 j (Ak h _ (Ak h _ (I3 ks S3.boxes)));rw [Ae,hs'];by_cases e1:j=h
   . subst e1;rw [A9,A9];rfl
   . rw [Ac _ _ e1,Ac _ _ e1,Ac _ _ e1,E8,E8,l3];rw [List.any_append]
     cases hd:dl.any (Nat.beq j) with
     | true=>cases ks.any (Nat.beq j) <;> rfl
     | false =>
      cases hk:ks.any (Nat.beq j) with
      | true=>rfl
      | false =>
       show (A1 j s.boxes).map _=A1 j S1.boxes;rw [hj j e1]
       cases hl:A1 j s.boxes with
       | none=>rfl
       | some b3 =>
        simp only [QQ];congr 1
        have hjd:j ∉ dl:=λhh=>by
         have:=XD.1 hd j hh;simp at this
        refine V3 λk hk2=>?_
        have hkn:k ∉ dl++ks:=λhh=>by rw [Li hcl hl e1 hjd k (by simp only [QU];exact .inr hh)] at hk2;cases hk2
        have hka:(dl++ks).any (Nat.beq k)=false:=XD.2 λx hx e=>hkn (QC e ▸ hx);by_cases e2:k=h
        . subst e2
          rw [Li hcl hl e1 hjd k (by simp)] at hk2;cases hk2
        . simp only [A3];rw [Ac _ _ e2,E8,hka];rfl
theorem E9 {L L':Nat->Nat} {ks:List Nat} {sl:List (Nat × SV)} (hL:∀ k,k ∉ ks->L' k=L k) {t:Nat} {x:S} (h:A1 t (Aj (SV.s L') (G0 ks sl))=some x) :
  x = .dead \/ ∃ sv,A1 t sl=some sv/\x=sv.s L /\ ∀ k ∈ ks,sv.men k=false:=by
 rw [Ae] at h;obtain ⟨z,hz,rfl⟩:=QB.1 h;unfold G0 at hz;rw [Ae] at hz;obtain ⟨sv,hsv,rfl⟩:=QB.1 hz
 cases hc:ks.any (λk=>sv.men k) with
 | true=>exact .inl rfl
 | false =>
  have hno:∀ k ∈ ks,sv.men k=false:=λk hk=>by
   have:=XD.1 hc k hk;simpa using this
  refine .inr ⟨sv,hsv,?_,hno⟩;simp only [cond]
  exact Afy λk hk=>hL k λhh=>by rw [hno k hh] at hk;cases hk
theorem Aqg {r cs:List C} (h:r.length=cs.length):C9 r 0 cs=cs:=by
 unfold C9
 rw [List.take_zero,KQ,YH,ZD (by omega),XC]
theorem Aec (hT:Aw P T) {K:Am} {o:Oper} {s s':St3} {nt:Nat} {g:Bool} (h:S8 T o s=some (g,s')) (hg:g=true):Ch P K o (s.st nt) (s'.st nt):=by
 unfold S8 at h;split at h
 . rename_i t a x hop hdst;split at h
   . rename_i ti hh row cs hti ha hx;split at h
     . rename_i e sh xs hl;split at h
       . rename_i g1 cs' ks ht;split at h
         . rename_i y hy
           cases hc:(Nat.beq ti.size sh.size&&SV.fits3 ti (.agg cs)&&Kz ks&&Rx hh [] (hh::([]++ks)) s.boxes) with
           | false=>rw [hc] at h;cases h
           | true =>
            rw [hc] at h;simp only [cond,QD,QI] at h;obtain ⟨h1,rfl⟩:=h;rw [hg] at h1;simp only [QE,QO] at h1 hc;obtain ⟨hg1,hrl⟩:=h1;obtain ⟨⟨⟨c1,c2⟩,c3⟩,c4⟩:=hc;have c1:=QC c1;obtain ⟨f1,f2,f3,f4,f5,f6⟩:=P5 (L:=A3 s.boxes) ht hg1 (Ky c3);have hva:(s.st nt).val a = .v (.one (.hp hh row 0)):=Bf ha rfl;have hvx:(s.st nt).val x = .v (.agg (cs.map (SV.c (A3 s.boxes)))):=Bf hx rfl
            let r0:List C:=(sh.cells (xs.getD row sh.dflt)).map .i
            have hr0:((B3.tree e sh false xs).box (A3 s.boxes)).rows[row]? = some r0:=by
             simp only [B3.box,QK,QN hrl,QQ,r0,QG,XR]
            have hbx:(s.st nt).box hh=some ((B3.tree e sh false xs).box (A3 s.boxes)):=by
             show A1 hh (Aj (B3.box (A3 s.boxes)) s.boxes)=_;rw [Ae,hl];rfl
            have hfit:(V.agg (cs.map (SV.c (A3 s.boxes)))).fits ti=true:=by
             have:=No (L:=A3 s.boxes) (ti:=ti) (x:=.agg cs);rw [c2] at this;exact this
            have hcl:(cs.map (SV.c (A3 s.boxes))).length=sh.size:=by
             have:=Ac4 hfit;simp only [V.cells] at this;rw [this,c1]
            have hsp:C9 r0 0 (cs.map (SV.c (A3 s.boxes)))=cs.map (SV.c (A3 s.boxes)):=Aqg (by rw [hcl];simp [r0,Sh.cells_len])
            let b1:Box:={ (B3.tree e sh false xs).box (A3 s.boxes) with hf:=((B3.tree e sh false xs).box (A3 s.boxes)).hf&&(cs.map (SV.c (A3 s.boxes))).all C4,rows:=((B3.tree e sh false xs).box (A3 s.boxes)).rows.set row (cs.map (SV.c (A3 s.boxes))) }
            have hcore:Ct T (some r0) o (s.st nt)=some ⟨.dead,.set hh b1,[((B3.tree e sh false xs).box (A3 s.boxes)).rows[row]? = some r0]⟩:=by
             unfold Ct;rw [hop];simp only [Ig,hti,hva,hvx,hbx]
             have hcnd:(Nat.ble (0+ti.size) ((B3.tree e sh false xs).box (A3 s.boxes)).sz&&(V.agg (cs.map (SV.c (A3 s.boxes)))).fits ti && !((B3.tree e sh false xs).box (A3 s.boxes)).fz&&(!((B3.tree e sh false xs).box (A3 s.boxes)).tr || (V.agg (cs.map (SV.c (A3 s.boxes)))).cells.all C.okT))=true:=by
              simp only [hfit,V.cells,f1,B3.box,YH,c1,Nat.ble_eq_true_of_le (QY _),ZG,XH,Bool.or_true]
             rw [hcnd];simp only [cond,V.cells,hsp];rfl
            have hstep:Cd P T K o { cells:=some r0 } (s.st nt)=some ({ s.st nt with boxes:=Ak hh b1 (s.st nt).boxes },[((B3.tree e sh false xs).box (A3 s.boxes)).rows[row]? = some r0]++[]++[]):=by
             unfold Cd;simp only [hcore,St.eff,St.putD,hdst,QQ]
            refine (Cv hT hstep (λp hp=>by
             rcases QF.1 hp with hp | hp
             . rcases QF.1 hp with hp | hp
               . rw [QS.1 hp];exact hr0
               . cases hp
             . cases hp)).weak ?_
            have hrow:row<((B3.tree e sh false xs).box (A3 s.boxes)).rows.length:=by simpa [B3.box] using hrl
            have hL:∀ k,k ∉ ks->A3 (Ak hh (.tree e sh false (xs.set row y)) (I3 ks s.boxes)) k=A3 s.boxes k:=by
             intro k hk;unfold A3;by_cases e1:k=hh
             . subst e1;rw [A9,hl];simp [B3.len]
             . rw [Ac _ _ e1,E8];have:ks.any (Nat.beq k)=false:=XD.2 λz hz e2=>hk (QC e2 ▸ hz);rw [this];rfl
            refine A0w (dl:=[]) (h:=hh) (row:=row) (e:=e) (sh:=sh) (y:=y) (cs:=cs) (cs':=cs') (ks:=ks) (hf1:=b1.hf) (rows1:=b1.rows) (xs':=xs.set row y) rfl (λt z hz=>?_) (λk hk t z hz=>?_) (A9 _ _ _) (by show (_:List (List C))[row]? = _;exact ZQ hrow) (λi q j c hi hq hc=>?_) (λj hj=>?_) ht hg1 c3 hy (λk hk=>by simp at hk) (by simp) c4 rfl ?_ (λ_ _ _ _ _ _ k hk=>by simp at hk)
            . rcases E9 hL hz with rfl | ⟨sv,h2,rfl,_⟩
              . exact .inl rfl
              . refine .inr ?_;show A1 t (Aj (SV.s (A3 s.boxes)) s.slots)=_;rw [Ae,h2];rfl
            . rcases E9 hL hz with rfl | ⟨sv,h2,rfl,h3⟩
              . rfl
              . rw [So];exact h3 k (by simpa using hk)
            . have hq:(((B3.tree e sh false xs).box (A3 s.boxes)).rows.set row (cs.map (SV.c (A3 s.boxes))))[i]? = some q:=hq;rw [ZW (Ne.symm hi)] at hq;simp only [B3.box,QK] at hq;obtain ⟨u,_,rfl⟩:=QB.1 hq;rw [QK] at hc;obtain ⟨z,_,rfl⟩:=QB.1 hc;exact ⟨z,rfl⟩
            . show A1 j (Ak hh b1 (Aj (B3.box (A3 s.boxes)) s.boxes))=_;rw [Ac _ _ hj,Ae]
            . show (((B3.tree e sh false xs).box (A3 s.boxes)).rows.set row _).set row _=_;rw [Qaw];simp only [B3.box,JS]
         . cases h
       . cases h
     . cases h
   . cases h
 . cases h
def Bd4:SV->Option Nat
 | .hs tb 0 1=>some tb
 | .hw tb=>some tb
 | _=>none
def A1r (T:Ty) (K:Am) (o:Oper) (s:St3):Option (Bool × St3) :=
 match o.op,o.dst with
 | .call c,some kd=>match c.callee,c.args.toList,c.argTypes.toList with
  | .builtin .append,[x,y],[t,t']=>match s.val x,Bd4 (s.val y),Ty.d T t with
   | .hw h,some tb,some (.slice e2)=>match A1 h s.boxes,A1 tb s.boxes,T e2 with
    | some (.tree e sh false xs),some (.var _ _ _ cs),some ei=>match Nc s.boxes h cs with
     | some (g,cs',ks)=>match sh.all false cs' with
      | some z=>bif Nat.beq t t'&&Nat.beq e e2&&Nat.beq ei.size sh.size&&Nat.ble 1 ei.size&&Nat.ble 1 ei.bytes&&Nat.blt h 1000&&Nat.blt tb 1000 && !Nat.beq tb h && !ks.any (Nat.beq tb)&&Kz ks&&Nat.beq cs.length sh.size&&Rx h [tb] (h::([tb]++ks)) s.boxes&&Nat.blt kd K.N then
        some (g&&decide ((xs.length+1)*ei.bytes<=140737488355328),{ slots:=Ak kd (.hw h) (G0 (h::([tb]++ks)) s.slots),boxes:=Ak h (.tree e sh false (xs++[z])) (I3 ([tb]++ks) s.boxes) }) else none
      | none=>none
     | none=>none
    | _,_,_=>none
   | _,_,_=>none
  | _,_,_=>none
 | _,_=>none
theorem Ac0 {b:Box} {h:Nat} (hb:∀ (i:Nat) (r:List C) (j:Nat) (c:C),b.rows[i]? = some r->r[j]? = some c->c.men h=false):b.kill h=b:=by
 cases hf:b.hf with
 | true=>exact Ju hf
 | false =>
  have e:b.kill h={ b with rows:=b.rows.map λr=>r.map λc=>bif c.men h then .i .any else c }:=by unfold Box.kill;rw [hf];rfl
  have:(b.rows.map λr=>r.map λc=>bif c.men h then C.i .any else c)=b.rows:=by
   refine (ZH λr hr=>?_).trans (List.map_id _);refine (ZH λc hc=>?_).trans (List.map_id _);obtain ⟨i,hi⟩:=Qar.1 hr;obtain ⟨j,hj⟩:=Qar.1 hc;rw [hb i r j c hi hj];rfl
  rw [e,this]
theorem B77 {α:Type} {a:Array α} {x y:α} (h:a.toList=[x,y]):a = #[x,y]:=JU h
theorem Alx (hT:Aw P T) {K:Am} {o:Oper} {s s':St3} {nt:Nat} {g:Bool} (h:A1r T K o s=some (g,s')) (hg:g=true):Ch P K o (s.st nt) (s'.st nt):=by
 unfold A1r at h;split at h
 . rename_i c kd hop hdst;split at h
   . rename_i x y t t' hcal hargs htys;split at h
     . rename_i hh tb e2 hx hsrc hd;split at h
       . rename_i e sh xs e' hf' fz' cs ei hl hlt hei;split at h
         . rename_i g1 cs' ks ht;split at h
           . rename_i z hy
             cases hc:(Nat.beq t t'&&Nat.beq e e2&&Nat.beq ei.size sh.size&&Nat.ble 1 ei.size&&Nat.ble 1 ei.bytes&&Nat.blt hh 1000&&Nat.blt tb 1000 && !Nat.beq tb hh && !ks.any (Nat.beq tb)&&Kz ks&&Nat.beq cs.length sh.size&&Rx hh [tb] (hh::([tb]++ks)) s.boxes&&Nat.blt kd K.N) with
             | false=>rw [hc] at h;cases h
             | true =>
              rw [hc] at h;simp only [cond,QD,QI] at h;obtain ⟨h1,rfl⟩:=h;rw [hg] at h1;simp only [QE,QO,ZJ] at h1 hc;obtain ⟨hg1,hby⟩:=h1;obtain ⟨⟨⟨⟨⟨⟨⟨⟨⟨⟨⟨⟨k1,k2⟩,k3⟩,k4⟩,k5⟩,k6⟩,k7⟩,k8⟩,k9⟩,k10⟩,k11⟩,k12⟩,k13⟩:=hc;obtain rfl:=QC k1;obtain rfl:=QC k2;have k3:=QC k3;have k4:=ZY k4;have k5:=ZY k5
              have k6:hh<1000:=by simpa [ZP] using k6
              have k7:tb<1000:=by simpa [ZP] using k7
              have k8:tb ≠ hh:=Lk k8
              have k9:tb ∉ ks:=λhk=>by have:=XD.1 k9 tb hk;simp at this
              have k11:=QC k11;obtain ⟨f1,f2,f3,f4,f5,f6⟩:=P5 (L:=A3 s.boxes) ht hg1 (Ky k10)
              have hlh:A3 s.boxes hh=xs.length:=by simp [A3,hl,B3.len]
              have hlt1:A3 s.boxes tb=1:=by simp [A3,hlt,B3.len]
              have hva:(s.st nt).val x = .v (.one (.hs hh 0 xs.length)):=by rw [Bf hx rfl,<- hlh];rfl
              have hvy:(s.st nt).val y = .v (.one (.hs tb 0 1)):=by
               unfold Bd4 at hsrc;split at hsrc
               . rename_i hv;obtain rfl:=QA hsrc;exact Bf hv rfl
               . rename_i hv;obtain rfl:=QA hsrc;rw [Bf hv rfl,<- hlt1];rfl
               . cases hsrc
              let b:Box:=(B3.tree e sh false xs).box (A3 s.boxes)
              let row:List C:=cs.map (SV.c (A3 s.boxes))
              let b1:Box:={ b with hf:=row.all C4,rows:=b.rows++[row] }
              have hb:A1 hh (s.st nt).boxes=some b:=by
               show A1 hh (Aj (B3.box (A3 s.boxes)) s.boxes)=_;rw [Ae,hl];rfl
              have hbl:b.rows.length=xs.length:=by simp [b,B3.box]
              let X:S:=.v (.one (.hs hh 0 (xs.length+1)))
              let S1:St:={ (s.st nt).app hh b1 with slots:=Ak kd X ((s.st nt).app hh b1).slots }
              have hput:((s.st nt).app hh b1).putD K o.dst X=some S1:=by
               rw [hdst];simp only [St.putD,k13,cond];rfl
              have hden:Ch P K o (s.st nt) S1:=by
               refine Ch.of hput λΓ w E a hK hs=>?_;have hvv:=hs.val_sound x;have hvu:=hs.val_sound y;rw [hva] at hvv;rw [hvy] at hvu
               have hbt:A1 tb (s.st nt).boxes=some ((B3.var e' hf' fz' cs).box (A3 s.boxes)):=by
                show A1 tb (Aj (B3.box (A3 s.boxes)) s.boxes)=_;rw [Ae,hlt];rfl
               obtain ⟨u',w',E',e1,e2,e3⟩:=B6n (P:=P) (ty:=o.type) hT hs hd hei k4 k5 hvv hb (by show sh.size=_;exact k3.symm) rfl rfl rfl rfl hbl.symm hvu hbt (by show cs.length=_;rw [k11,k3]) rfl (row:=row) rfl f1 f3 hby (.inl k6)
               refine ⟨_,u',w',E',?_,.inl rfl,e2,e3⟩;obtain ⟨dst,op,type,pos,after,guard⟩:=o;simp only at hop;subst hop;obtain ⟨callee,args,argTypes⟩:=c;simp only at hcal hargs htys;subst hcal;obtain rfl:=B77 hargs;obtain rfl:=B77 htys;simp [execOp,resolve,invoke,builtin,e1]
              refine hden.weak ?_
              have hL:∀ k,k ∉ hh::([tb]++ks)->A3 (Ak hh (.tree e sh false (xs++[z])) (I3 ([tb]++ks) s.boxes)) k=A3 s.boxes k:=by
               intro k hk;simp only [QU,not_or] at hk;unfold A3;rw [Ac _ _ hk.1,E8];have:([tb]++ks).any (Nat.beq k)=false:=XD.2 λq hq e2=>hk.2 (QC e2 ▸ hq);rw [this];rfl
              have hLh:A3 (Ak hh (.tree e sh false (xs++[z])) (I3 ([tb]++ks) s.boxes)) hh=xs.length+1:=by
               unfold A3;rw [A9];simp [B3.len]
              have slot:∀ t' q,A1 t' (Aj (SV.s (A3 (Ak hh (.tree e sh false (xs++[z])) (I3 ([tb]++ks) s.boxes)))) (Ak kd (.hw hh) (G0 (hh::([tb]++ks)) s.slots)))=some q->(t'=kd/\q=X) \/ (t' ≠ kd/\(q = .dead \/ ∃ sv,A1 t' s.slots=some sv/\q=sv.s (A3 s.boxes) /\ ∀ k ∈ hh::([tb]++ks),sv.men k=false)):=by
               intro t' q hq;rw [<- Dc] at hq;by_cases e1:t'=kd
               . subst e1;rw [A9] at hq;refine .inl ⟨rfl,?_⟩;rw [<- QA hq];show S.v (.one (.hs hh 0 _))=_;rw [hLh]
               . rw [Ac _ _ e1] at hq;exact .inr ⟨e1,E9 hL hq⟩
              refine A0w (dl:=[tb]) (h:=hh) (row:=xs.length) (e:=e) (sh:=sh) (y:=z) (cs:=cs) (cs':=cs') (ks:=ks) (hf1:=row.all C4) (rows1:=b.rows++[row]) (xs':=xs++[z]) rfl (λt' q hq=>?_) (λk hk t' q hq=>?_) (A9 _ _ _) (by rw [QZ (by omega),hbl];simp;rfl) (λi q j c' hi hq hc'=>?_) (λj hj=>?_) ht hg1 k10 hy (λk hk=>by obtain rfl:=QS.1 hk;exact ⟨k7,k8,k9⟩) (by simp) k12 rfl ?_ (λi r j c' hi hc' k hk=>?_)
              . rcases slot t' q hq with ⟨rfl,rfl⟩ | ⟨hne,rfl | ⟨sv,h2,rfl,h3⟩⟩
                . exact .inr (A9 _ _ _)
                . exact .inl rfl
                . refine .inr ?_;show A1 t' (Ak kd X (Pc hh (Aj (SV.s (A3 s.boxes)) s.slots)))=_;rw [Ac _ _ hne];unfold Pc
                  rw [A1w (λx=>bif S.men hh x then .dead else x),Ae,h2]
                  simp only [QQ,So,h3 hh (by simp),cond]
              . rcases slot t' q hq with ⟨rfl,rfl⟩ | ⟨hne,rfl | ⟨sv,h2,rfl,h3⟩⟩
                . refine H5 λe1=>?_;rcases QF.1 hk with hk | hk
                  . obtain rfl:=QS.1 hk;exact k8 e1.symm
                  . exact (f4 k hk).1.ne e1.symm
                . rfl
                . rw [So];exact h3 k (by simp only [QU];exact .inr hk)
              . have hlt2 : i < b.rows.length := by
                 have:=(QP.1 hq).1;simp at this;omega
                rw [ZA hlt2] at hq;simp only [b,B3.box,QK] at hq;obtain ⟨u,_,rfl⟩:=QB.1 hq;rw [QK] at hc';obtain ⟨u2,_,rfl⟩:=QB.1 hc';exact ⟨u2,rfl⟩
              . show A1 j (Ak hh b1 (killB hh (Aj (B3.box (A3 s.boxes)) s.boxes)))=_;rw [Ac _ _ hj,E7,Ae]
                cases hb3:A1 j s.boxes with
                | none=>rfl
                | some b3 =>
                 simp only [QQ];congr 1;by_cases e1:j=tb
                 . subst e1;rw [hlt] at hb3;obtain rfl:=QA hb3;refine Ac0 λi r j' c' hi hc'=>?_;simp only [B3.box] at hi
                   cases i with
                   | zero =>
                    obtain rfl:=QA hi;exact f3 c' (QX hc')
                   | succ i=>simp at hi
                 . exact Ac0 (Ih (Li k12 hb3 hj (by simpa using e1) hh (by simp)))
              . rw [<- hbl];simp only [b,B3.box]
                rw [KE _ _ (by simp)]
                simp
              . obtain rfl:=QS.1 hk;by_cases hlt2:i<b.rows.length
                . rw [ZA hlt2] at hi;simp only [b,B3.box,QK] at hi;obtain ⟨u,_,rfl⟩:=QB.1 hi;rw [QK] at hc';obtain ⟨u2,_,rfl⟩:=QB.1 hc';rfl
                . rw [QZ (by omega)] at hi
                  have hi0:i-b.rows.length=0:=by have:=(QP.1 hi).1;simp at this;omega
                  rw [hi0] at hi;simp at hi;subst hi;obtain ⟨u,hu,rfl⟩:=ZM.1 (QX hc');rw [Qp];exact f6 k k9 u hu
           . cases h
         . cases h
       . cases h
     . cases h
   . cases h
 . cases h
def A1q (sh:Sh) (k:Nat) (s:St3):Option St3 :=
 match A1 k s.boxes with
 | some (.rep e false n cs)=>match sh.all true cs with
  | some x=>bif (sh.cells x).all (λc=>(C.i c).okT) then some { s with boxes:=Ak k (.tree e sh false (List.replicate n x)) s.boxes } else none
  | none=>none
 | some (.arr e sh' false [])=>bif Nat.beq sh.size sh'.size then some { s with boxes:=Ak k (.tree e sh false []) s.boxes } else none
 | _=>none
theorem Alw {sh:Sh} {k:Nat} {s s':St3} {nt:Nat} (h:A1q sh k s=some s'):C3 (s.st nt) (s'.st nt):=by
 have fin:∀ {b:B3} {e:TypeId} {sh0:Sh} {xs:List sh0.den},A1 k s.boxes=some b->xs.length=b.len->All (b.box (A3 s.boxes)) ((B3.arr e sh0 false xs).box (A3 s.boxes)) ->
   (∀ x ∈ xs,(sh0.cells x).all (λc=>(C.i c).okT)=true)->s'={ s with boxes:=Ak k (.tree e sh0 false xs) s.boxes }->C3 (s.st nt) (s'.st nt):=by
  intro b e sh0 xs hl hlen hsub hok hs';subst hs'
  have hL:A3 (Ak k (.tree e sh0 false xs) s.boxes)=A3 s.boxes:=by
   funext j;unfold A3;by_cases e1:j=k
   . subst e1;rw [A9,hl];exact hlen
   . rw [Ac _ _ e1]
  let ab:Box:=(B3.arr e sh0 false xs).box (A3 s.boxes)
  have hb:A1 k (s.st nt).boxes=some (b.box (A3 s.boxes)):=by
   show A1 k (Aj (B3.box (A3 s.boxes)) s.boxes)=_;rw [Ae,hl];rfl
  have w1:C3 (s.st nt) { s.st nt with boxes:=Ak k ab (s.st nt).boxes }:=λΓ w E tmps hs=>by
   refine ⟨E,hs.sub rfl (λt x hx=>⟨x,hx,λ_ _ _ h=>h⟩) (λj b' hj=>?_) (λj b' hj=>?_)⟩
   . by_cases e1:j=k
     . subst e1;have hj:A1 j (Ak j ab (s.st nt).boxes)=some b':=hj;rw [A9] at hj;obtain rfl:=QA hj;exact ⟨_,hb,hsub⟩
     . have hj:A1 j (Ak k ab (s.st nt).boxes)=some b':=hj;rw [Ac _ _ e1] at hj
       exact ⟨b',hj,⟨rfl,rfl,rfl,rfl,λ_=>rfl,rfl,λi r hi=>⟨r,hi,rfl,λj c hj=>⟨c,hj,F3.refl c⟩⟩,λhf i r j' c hi hc=>by
        obtain ⟨g,cap,_,⟨arr,_,_,_,_,_,_,hI,_⟩,_⟩:=hs.boxes j b' hj
        exact hI hf i r j' c hi hc⟩⟩
   . by_cases e1:j=k
     . subst e1;show (A1 j (Ak j ab (s.st nt).boxes)).isSome=true;rw [A9];rfl
     . show (A1 j (Ak k ab (s.st nt).boxes)).isSome=true;rw [Ac _ _ e1,hj];rfl
  have w2:C3 { s.st nt with boxes:=Ak k ab (s.st nt).boxes } { s.st nt with boxes:=Ak k { ab with tr:=true } (Ak k ab (s.st nt).boxes) }:=λΓ w E tmps hs =>
   ⟨E,Aeb hs (A9 _ _ _) rfl λi r j c hi hc=>by
    simp only [ab,B3.box,QK] at hi;obtain ⟨x,hx,rfl⟩:=QB.1 hi;rw [QK] at hc;obtain ⟨y,hy,rfl⟩:=QB.1 hc
    exact QM.1 (hok x (QX hx)) y (QX hy)⟩
  refine w1.trans (w2.trans (Cx rfl (λt x hx=>.inr ?_) λj=>?_))
  . have hx:A1 t (Aj (SV.s (A3 (Ak k (.tree e sh0 false xs) s.boxes))) s.slots)=some x:=hx;rw [hL] at hx;exact hx
  . show A1 j (Aj (B3.box (A3 (Ak k (.tree e sh0 false xs) s.boxes))) (Ak k (.tree e sh0 false xs) s.boxes))=A1 j (Ak k { ab with tr:=true } (Ak k ab (Aj (B3.box (A3 s.boxes)) s.boxes)));rw [hL,Ae];by_cases e1:j=k
    . subst e1;rw [A9,A9];rfl
    . rw [Ac _ _ e1,Ac _ _ e1,Ac _ _ e1,Ae]
 unfold A1q at h;split at h
 . rename_i e n cs hl;split at h
   . rename_i x hx
     cases hc:(sh.cells x).all (λc=>(C.i c).okT) with
     | false=>rw [hc] at h;cases h
     | true =>
      rw [hc] at h;have hs':=(QA h).symm
      have hdec:(TB.arr e sh false).dec (.rep e false n cs)=some (List.replicate n x):=by
       simp only [TB.dec,XF,BEq.rfl,ZG,cond,hx,QQ]
      obtain ⟨q1,q2⟩:=A7z (L:=A3 s.boxes) hdec
      refine fin (e:=e) (sh0:=sh) (xs:=List.replicate n x) hl (by simpa [TB.enc,B3.len] using q2) q1 (λy hy=>?_) hs'
      rw [List.eq_of_mem_replicate hy];exact hc
   . cases h
 . rename_i e sh' hl
   cases hc:Nat.beq sh.size sh'.size with
   | false=>rw [hc] at h;cases h
   | true =>
    rw [hc] at h;have hs':=(QA h).symm
    exact fin (e:=e) (sh0:=sh) (xs:=[]) hl rfl ⟨rfl,QC hc,rfl,rfl,(λe=>by cases e),rfl,(λi r hi=>by simp [B3.box] at hi),λ_ i r j c hi=>by simp [B3.box] at hi⟩ (λy hy=>by cases hy) hs'
 . cases h
end Go.Ev

/- DERIVED. A slice of a tree is taken out to be written, and put back, over shapes. -/
namespace Go.Ev
open Go
variable {P:Program} {T:Ty}
theorem Ch.pre {K:Am} {o:Oper} {s s1 s2:St} (hw:C3 s s1) (h:Ch P K o s1 s2):Ch P K o s s2:=λΓ w E a ro n X hN hX hx hs next Q k=>by
 obtain ⟨E',hs'⟩:=hw Γ w E _ hs;exact h Γ w E' a ro n X hN hX hx hs' next Q k
def B6h {α:Type} (T:Ty) (K:Am) (kk:Nat) (o:Oper) (s:St3) (k:St3->Option α):Option α :=
 match o.op,o.dst with
 | .load t a,some d=>match T t,s.val a with
  | some ti,.hp h row col=>match A1 h s.boxes with
   | some (.tree e sh false xs)=>match (sh.exp (xs.getD row sh.dflt))[col]? with
    | some (.d (.sl t') ys)=>bif Nat.beq ti.size 1 && !Ea ti.d&&Nat.ble (col+ti.size) sh.size&&sh.flat&&Nat.beq t'.size 1&&Nat.ble 2000 kk&&(A1 kk s.boxes).isNone&&s.clean kk&&Nat.blt d K.N then
      (bif decide (row<xs.length) then (bif ys.isEmpty then k { s with slots:=Ak d (.d (.sl t') []) s.slots } else
       k { slots:=Ak d (.hw kk) s.slots,boxes:=Ak kk (.arr Dh t' false ys) (Ak h (.hole e sh false xs row col kk) s.boxes) }) else none) else none
    | _=>none
   | _=>none
  | _,_=>none
 | _,_=>none
theorem Aw3 {y:I} (h:V9 y):y.flatSl:=by
 rcases h with ⟨v,rfl⟩ | ⟨nl,sz,rows,rfl,hl⟩
 . trivial
 . exact ⟨rfl,hl⟩
theorem G2 {sh:Sh} {xs:List sh.den} {row:Nat} (h:row<xs.length):(xs.map λx=>(sh.cells x).map C.i)[row]? = some ((sh.cells (xs.getD row sh.dflt)).map .i):=by
 simp only [QK,QN h,QQ,QG,XR]
theorem Al7 {sh:Sh} {x:sh.den} {col:Nat} {t':Sh} {ys:List t'.den} (h:(sh.exp x)[col]? = some (.d (.sl t') ys)):((sh.cells x).map C.i)[col]? = some (.i (.sl 0 false t'.size (ys.map t'.cells))):=by
 rw [<- J7 (λ_=>0),QK,h];rfl
theorem B2h {s:St3} {nt h row col kk:Nat} {e:TypeId} {sh:Sh} {xs:List sh.den} {t':Sh} {ys:List t'.den}
  (hl:A1 h s.boxes=some (.tree e sh false xs)) (hc:(sh.exp (xs.getD row sh.dflt))[col]? = some (.d (.sl t') ys)) (hrow:row<xs.length) (hfl:sh.flat=true) (h1:t'.size=1)
  (hk:2000<=kk) (hkn:A1 kk s.boxes=none) (hcl:s.clean kk=true) (hne:ys ≠ []) :
  C3 (s.st nt) ((⟨s.slots,Ak kk (.arr Dh t' false ys) (Ak h (.hole e sh false xs row col kk) s.boxes)⟩:St3).st nt):=by
 intro Γ w E tmps hs
 have hkh:h ≠ kk:=λe=>by subst e;rw [hl] at hkn;cases hkn
 have hcell:=Al7 hc;rw [h1] at hcell
 have hb:A1 h (s.st nt).boxes=some ((B3.tree e sh false xs).box (A3 s.boxes)):=by
  show A1 h (Aj (B3.box (A3 s.boxes)) s.boxes)=_;rw [Ae,hl];rfl
 obtain ⟨E',hs'⟩:=A8d hs hb rfl rfl hk (by show A1 kk (Aj _ s.boxes)=_;rw [Ae,hkn];rfl) (G2 hrow) hcell (by simpa using hne) (λi q j y hi hj=>by
  simp only [B3.box,QK] at hi;obtain ⟨x,_,rfl⟩:=QB.1 hi;rw [QK] at hj;obtain ⟨z,hz,hzy⟩:=QB.1 hj;obtain rfl:=C.i.inj hzy
  exact Aw3 (Aw2 sh x hfl z (QX hz)))
 simp only [St3.clean,QE,QM,ZJ] at hcl
 have hL:∀ k,k ≠ kk->A3 s.boxes k=A3 (Ak kk (.arr Dh t' false ys) (Ak h (.hole e sh false xs row col kk) s.boxes)) k:=by
  intro k hk;unfold A3;rw [Ac _ _ hk];by_cases e1:k=h
  . subst e1;rw [A9,hl];rfl
  . rw [Ac _ _ e1]
 refine Cx (s':=((⟨s.slots,Ak kk (.arr Dh t' false ys) (Ak h (.hole e sh false xs row col kk) s.boxes)⟩:St3).st nt)) (by rfl) (λt x hx=>.inr ?_) (λk=>?_) Γ w E' tmps hs'
 . have hx:A1 t (Aj (SV.s (A3 (Ak kk (.arr Dh t' false ys) (Ak h (.hole e sh false xs row col kk) s.boxes)))) s.slots)=some x:=hx;rw [Ae] at hx;obtain ⟨z,hz,rfl⟩:=QB.1 hx;show A1 t (Aj (SV.s (A3 s.boxes)) s.slots)=_;rw [Ae,hz];exact XU some (Ym hL (hcl.1 _ (Ck hz)))
 . show A1 k (Aj (B3.box (A3 (Ak kk (.arr Dh t' false ys) (Ak h (.hole e sh false xs row col kk) s.boxes)))) (Ak kk (.arr Dh t' false ys) (Ak h (.hole e sh false xs row col kk) s.boxes)))=A1 k (Ak kk _ (Ak h _ (Aj (B3.box (A3 s.boxes)) s.boxes)));rw [Ae];by_cases e1:k=kk
   . subst e1;rw [A9,A9];simp [B3.box,h1]
   . rw [Ac _ _ e1,Ac _ _ e1];by_cases e2:k=h
     . subst e2;rw [A9,A9]
       have hlk:A3 (Ak kk (.arr Dh t' false ys) (Ak k (.hole e sh false xs row col kk) s.boxes)) kk=ys.length:=by
        unfold A3;rw [A9];rfl
       simp only [QQ,B3.box,hlk,Sf,QG,G2 hrow,XR,ZB]
     . rw [Ac _ _ e2,Ac _ _ e2,Ae]
       cases hz:A1 k s.boxes with
       | none=>rfl
       | some b=>exact XU some (Lj hL (hcl.2 _ (Ck hz))).symm
theorem Bcw (hT:Aw P T) {α:Type} {K:Am} {kk:Nat} {o:Oper} {s:St3} {nt:Nat} {k:St3->Option α} {r:α} (h:B6h T K kk o s k=some r) :
  ∃ s':St3,Ch P K o (s.st nt) (s'.st nt)/\k s'=some r:=by
 unfold B6h at h;split at h
 . rename_i t a d hop hdst;split at h
   . rename_i ti hh row col hti ha;split at h
     . rename_i e sh xs hl;split at h
       . rename_i t' ys hc
         cases hcd:(Nat.beq ti.size 1 && !Ea ti.d&&Nat.ble (col+ti.size) sh.size&&sh.flat&&Nat.beq t'.size 1&&Nat.ble 2000 kk&&(A1 kk s.boxes).isNone&&s.clean kk&&Nat.blt d K.N) with
         | false=>rw [hcd] at h;cases h
         | true =>
          rw [hcd] at h;simp only [cond] at h;simp only [QE] at hcd;obtain ⟨⟨⟨⟨⟨⟨⟨⟨c1,c2⟩,c3⟩,c4⟩,c5⟩,c6⟩,c7⟩,c8⟩,c9⟩:=hcd
          cases hrow:decide (row<xs.length) with
          | false=>rw [hrow] at h;cases h
          | true =>
           rw [hrow] at h;simp only at h;have hrow:=JF hrow;have hcell:=Al7 hc
           cases hem:ys.isEmpty with
           | true =>
            rw [hem] at h;simp only at h;obtain rfl:=YK.1 hem;refine ⟨_,?_,h⟩;have hva:(s.st nt).val a = .v (.one (.hp hh row col)):=Bf ha rfl
            have hbx:(s.st nt).box hh=some ((B3.tree e sh false xs).box (A3 s.boxes)):=by
             show A1 hh (Aj (B3.box (A3 s.boxes)) s.boxes)=_;rw [Ae,hl];rfl
            have hr0:((B3.tree e sh false xs).box (A3 s.boxes)).rows[row]? = some ((sh.cells (xs.getD row sh.dflt)).map .i):=G2 hrow
            have hcore:Ct T (some ((sh.cells (xs.getD row sh.dflt)).map .i)) o (s.st nt)=some ⟨.v (.one (.i (.sl 0 false t'.size []))),.none,[((B3.tree e sh false xs).box (A3 s.boxes)).rows[row]? = some ((sh.cells (xs.getD row sh.dflt)).map .i)]⟩:=by
             unfold Ct;rw [hop];have hcell:((sh.cells (xs.getD row sh.dflt)).map C.i)[col]? = some (.i (.sl 0 false t'.size [])):=hcell;have c3':Nat.ble (col+ti.size) ((B3.tree e sh false xs).box (A3 s.boxes)).sz=true:=c3;have c4':((B3.tree e sh false xs).box (A3 s.boxes)).tr=true:=rfl;simp only [Fk,hti,hva,hbx,hcell,c1,c2,c3',c4',C.okT,ZG,ZR,Bool.and_false,cond]
            have hstep:Cd P T K o { cells:=some ((sh.cells (xs.getD row sh.dflt)).map .i) } (s.st nt)=some ((⟨Ak d (.d (.sl t') []) s.slots,s.boxes⟩:St3).st nt,[((B3.tree e sh false xs).box (A3 s.boxes)).rows[row]? = some ((sh.cells (xs.getD row sh.dflt)).map .i)]++[]++[]):=by
             unfold Cd;simp only [hcore,St.eff,St.putD,hdst,c9,cond,QQ];simp only [St3.st,<- Dc];rfl
            exact Cv hT hstep (λp hp=>by
             rcases QF.1 hp with hp | hp
             . rcases QF.1 hp with hp | hp
               . rw [QS.1 hp];exact hr0
               . cases hp
             . cases hp)
           | false =>
            rw [hem] at h;simp only at h;refine ⟨_,?_,h⟩
            have hne:ys ≠ []:=λe=>by subst e;cases hem
            have c5:=QC c5
            have c7:A1 kk s.boxes=none:=by simpa using c7
            have hkh:hh ≠ kk:=λe=>by subst e;rw [hl] at c7;cases c7
            refine (Ch.pre (B2h hl hc hrow c4 c5 (ZY c6) c7 c8 hne) ?_)
            let s1:St3:=⟨s.slots,Ak kk (.arr Dh t' false ys) (Ak hh (.hole e sh false xs row col kk) s.boxes)⟩
            have hva:(s1.st nt).val a = .v (.one (.hp hh row col)):=Bf (s:=s1) ha rfl
            have hl1:A1 hh s1.boxes=some (.hole e sh false xs row col kk):=by
             show A1 hh (Ak kk _ (Ak hh _ s.boxes))=_;rw [Ac _ _ hkh,A9]
            have hbx:(s1.st nt).box hh=some ((B3.hole e sh false xs row col kk).box (A3 s1.boxes)):=by
             show A1 hh (Aj (B3.box (A3 s1.boxes)) s1.boxes)=_;rw [Ae,hl1];rfl
            have hlk:A3 s1.boxes kk=ys.length:=by unfold A3;show (match A1 kk (Ak kk _ _) with | some b=>B3.len b | none=>0)=_;rw [A9];rfl
            have hr0:((B3.hole e sh false xs row col kk).box (A3 s1.boxes)).rows[row]? = some (((sh.cells (xs.getD row sh.dflt)).map .i).set col (.hs kk 0 (A3 s1.boxes kk))):=by
             simp only [B3.box,Sf,QG,G2 hrow,XR]
             rw [ZQ (by simpa using hrow)]
            have hcl2:(((sh.cells (xs.getD row sh.dflt)).map C.i).set col (.hs kk 0 (A3 s1.boxes kk)))[col]? = some (.hs kk 0 (A3 s1.boxes kk)):=ZQ (QP.1 hcell).1
            have hcore:Ct T (some (((sh.cells (xs.getD row sh.dflt)).map .i).set col (.hs kk 0 (A3 s1.boxes kk)))) o (s1.st nt)=some ⟨.v (.one (.hs kk 0 (A3 s1.boxes kk))),.none,[((B3.hole e sh false xs row col kk).box (A3 s1.boxes)).rows[row]? = some (((sh.cells (xs.getD row sh.dflt)).map .i).set col (.hs kk 0 (A3 s1.boxes kk)))]⟩:=by
             unfold Ct;rw [hop];have c3':Nat.ble (col+ti.size) ((B3.hole e sh false xs row col kk).box (A3 s1.boxes)).sz=true:=c3;have c4':((B3.hole e sh false xs row col kk).box (A3 s1.boxes)).tr=true:=rfl;simp only [Fk,hti,hva,hbx,hcl2,c1,c2,c3',c4',C.okT,ZG,ZR,Bool.and_false,cond]
            have hstep:Cd P T K o { cells:=some (((sh.cells (xs.getD row sh.dflt)).map .i).set col (.hs kk 0 (A3 s1.boxes kk))) } (s1.st nt)=some ((⟨Ak d (.hw kk) s1.slots,s1.boxes⟩:St3).st nt,[((B3.hole e sh false xs row col kk).box (A3 s1.boxes)).rows[row]? = some (((sh.cells (xs.getD row sh.dflt)).map .i).set col (.hs kk 0 (A3 s1.boxes kk)))]++[]++[]):=by
             unfold Cd;simp only [hcore,St.eff,St.putD,hdst,c9,cond,QQ];simp only [St3.st,<- Dc];rfl
            exact Cv hT hstep (λp hp=>by
             rcases QF.1 hp with hp | hp
             . rcases QF.1 hp with hp | hp
               . rw [QS.1 hp];exact hr0
               . cases hp
             . cases hp)
       . cases h
     . cases h
   . cases h
 . cases h
def holeH (kk:Nat):List (Nat × B3)->Option Nat
 | []=>none
 | (h,.hole _ _ _ _ _ _ k)::r=>bif Nat.beq k kk then some h else holeH kk r
 | _::r=>holeH kk r
def Afw (kk:Nat) (s:St3):Option (Bool × St3):=match holeH kk s.boxes with
 | none=>some (true,s)
 | some h=>match A1 h s.boxes with
  | some (.hole e sh false xs row col k0)=>match A1 kk s.boxes with
   | some (.arr e' t' false ys)=>match sh.all false ((sh.exp (xs.getD row sh.dflt)).set col (.d (.sl t') ys)) with
    | some z=>bif Nat.beq k0 kk&&Nat.beq e' Dh&&t'.lits&&Nat.beq t'.size 1&&Nat.ble 2000 kk && !Nat.beq h kk&&Nat.blt col sh.size&&s.boxes.all (λp=>Nat.beq p.1 h || Nat.beq p.1 kk || !p.2.men kk) then
      some (decide (row<xs.length),⟨G0 [kk] s.slots,Ak h (.tree e sh false (xs.set row z)) (C1 kk s.boxes)⟩) else none
    | none=>none
   | _=>none
  | _=>none
theorem Auv {kk:Nat} {s s':St3} {g:Bool} {nt:Nat} (h:Afw kk s=some (g,s')) (hg:g=true):C3 (s.st nt) (s'.st nt):=by
 unfold Afw at h;split at h
 . simp only [QD,QI] at h;obtain ⟨_,rfl⟩:=h;exact λΓ w E tmps hs=>⟨E,hs⟩
 . rename_i hh _;split at h
   . rename_i e sh xs row col k0 hl;split at h
     . rename_i e' t' ys hlk;split at h
       . rename_i z hz
         cases hcd:(Nat.beq k0 kk&&Nat.beq e' Dh&&t'.lits&&Nat.beq t'.size 1&&Nat.ble 2000 kk && !Nat.beq hh kk&&Nat.blt col sh.size&&s.boxes.all (λp=>Nat.beq p.1 hh || Nat.beq p.1 kk || !p.2.men kk)) with
         | false=>rw [hcd] at h;cases h
         | true =>
          rw [hcd] at h;simp only [cond,QD,QI] at h;obtain ⟨h1,rfl⟩:=h;rw [hg] at h1;have hrow:=JF h1;simp only [QE,ZJ] at hcd;obtain ⟨⟨⟨⟨⟨⟨⟨c1,c2⟩,c3⟩,c4⟩,c5⟩,c6⟩,c7⟩,c8⟩:=hcd;obtain rfl:=QC c1;have c2:=QC c2;have c4:=QC c4;have c5:=ZY c5;have hne:hh ≠ k0:=Lk c6
          have c7:col<sh.size:=by simpa [ZP] using c7
          have nomen:∀ i b,i ≠ hh->i ≠ k0->A1 i s.boxes=some b->b.men k0=false:=λi b e1 e2 hb=>by
           have:=QM.1 c8 _ (Ck hb);simpa [H5 e1,H5 e2] using this
          intro Γ w E tmps hs
          have hlen0:A3 s.boxes k0=ys.length:=by unfold A3;rw [hlk];rfl
          obtain ⟨E1,hs1⟩:=Cx (s:=s.st nt) (s':=⟨Aj (SV.s (A3 s.boxes)) (G0 [k0] s.slots),Aj (B3.box (A3 s.boxes)) s.boxes,nt⟩) rfl (λt x hx=>by
           rcases E9 (L:=A3 s.boxes) (λ_ _=>rfl) hx with rfl | ⟨sv,h2,rfl,_⟩
           . exact .inl rfl
           . exact .inr (by show A1 t (Aj (SV.s (A3 s.boxes)) s.slots)=_;rw [Ae,h2];rfl)) (λ_=>rfl) Γ w E tmps hs
          have hr0:((B3.hole e sh false xs row col k0).box (A3 s.boxes)).rows[row]? = some (((sh.cells (xs.getD row sh.dflt)).map C.i).set col (.hs k0 0 (A3 s.boxes k0))):=by
           simp only [B3.box,Sf,QG,G2 hrow,XR]
           rw [ZQ (by simpa using hrow)]
          have hcl:col<((sh.cells (xs.getD row sh.dflt)).map C.i).length:=by simpa [Sh.cells_len] using c7
          have oldC:∀ (i:Nat) (q:List C) (j:Nat) (c:C),(xs.map λx=>(sh.cells x).map C.i)[i]? = some q->q[j]? = some c->∃ y,c = .i y:=by
           intro i q j c hi hj;rw [QK] at hi;obtain ⟨x,_,rfl⟩:=QB.1 hi;rw [QK] at hj;obtain ⟨y,_,rfl⟩:=QB.1 hj;exact ⟨y,rfl⟩
          have rows2:(Sf (xs.map λx=>(sh.cells x).map C.i) row col (.hs k0 0 (A3 s.boxes k0))).set row ((((sh.cells (xs.getD row sh.dflt)).map C.i).set col (.hs k0 0 (A3 s.boxes k0))).set col (.i (.sl 0 false t'.size (ys.map t'.cells))))=(xs.set row z).map λx=>(sh.cells x).map C.i:=by
           have a1:=(Cl hz).1 (A3 s.boxes);rw [JS,J7] at a1;unfold Sf;rw [Qaw,Qaw,JS,<- a1];rfl
          obtain ⟨E2,hs2⟩:=Yi hs1 (h:=hh) (k:=k0) (row:=row) (col:=col) (len:=A3 s.boxes k0) (b:=(B3.hole e sh false xs row col k0).box (A3 s.boxes)) (bk:=(B3.arr e' t' false ys).box (A3 s.boxes))
           (r:=((sh.cells (xs.getD row sh.dflt)).map C.i).set col (.hs k0 0 (A3 s.boxes k0))) (ys:=ys.map t'.cells) (hf':=true)
           (by show A1 hh (Aj _ s.boxes)=_;rw [Ae,hl];rfl) rfl hne (.inr c5) (by show A1 k0 (Aj _ s.boxes)=_;rw [Ae,hlk];rfl) rfl rfl hr0 (ZQ hcl)
           (by simp [B3.box,hlen0]) (by simp only [B3.box,XJ];rfl) (λi q j y hi hj=>by
            rw [QK] at hi;obtain ⟨u,_,rfl⟩:=QB.1 hi
            exact A60 t' u c3 y (QX hj)) c2 c4
           (λt x hx=>by
            rcases E9 (L:=A3 s.boxes) (λ_ _=>rfl) hx with rfl | ⟨sv,h2,rfl,h3⟩
            . rfl
            . rw [So];exact h3 k0 (by simp))
           (λi b' h1 h2 hb=>by
            have hb:A1 i (Aj (B3.box (A3 s.boxes)) s.boxes)=some b':=hb;rw [Ae] at hb;obtain ⟨b3,hb3,rfl⟩:=QB.1 hb
            exact Ih (nomen i b3 h2 h1 hb3))
           (λi q j c hi hj hn=>by
            simp only [B3.box,Sf,QG,G2 hrow,XR] at hi;by_cases e1:i=row
            . subst e1
              rw [ZQ (by simpa using hrow)] at hi
              obtain rfl:=QA hi;by_cases e2:j=col
              . exact absurd ⟨rfl,e2⟩ hn
              . rw [ZW (Ne.symm e2)] at hj;obtain ⟨y,rfl⟩:=oldC i _ j c (G2 hrow) hj;rfl
            . rw [ZW (Ne.symm e1)] at hi;obtain ⟨y,rfl⟩:=oldC i q j c hi hj
              rfl)
           (λ_ i q j c hi hj=>by
            have hi:((Sf (xs.map λx=>(sh.cells x).map C.i) row col (.hs k0 0 (A3 s.boxes k0))).set row ((((sh.cells (xs.getD row sh.dflt)).map C.i).set col (.hs k0 0 (A3 s.boxes k0))).set col (.i (.sl 0 false t'.size (ys.map t'.cells)))))[i]? = some q:=hi;rw [rows2,QK] at hi;obtain ⟨x,_,rfl⟩:=QB.1 hi;rw [QK] at hj;obtain ⟨y,_,rfl⟩:=QB.1 hj
            exact ⟨y,rfl⟩)
          have hL:∀ k,k ≠ k0->A3 s.boxes k=A3 (Ak hh (.tree e sh false (xs.set row z)) (C1 k0 s.boxes)) k:=by
           intro k hk;unfold A3;by_cases e1:k=hh
           . subst e1;rw [A9,hl];simp [B3.len]
           . rw [Ac _ _ e1,Az hk]
          refine Cx (s':=(⟨G0 [k0] s.slots,Ak hh (.tree e sh false (xs.set row z)) (C1 k0 s.boxes)⟩:St3).st nt) (by rfl) (λt x hx=>?_) (λk=>?_) Γ w E2 tmps hs2
          . rcases E9 (L:=A3 s.boxes) (L':=A3 (Ak hh (.tree e sh false (xs.set row z)) (C1 k0 s.boxes))) (λk hk=>(hL k (by simpa using hk)).symm) hx with rfl | ⟨sv,h2,rfl,h3⟩
            . exact .inl rfl
            . refine .inr ?_;show A1 t (Aj (SV.s (A3 s.boxes)) (G0 [k0] s.slots))=_
              have h3:=h3 k0 (by simp)
              unfold G0;rw [Ae,Ae,h2];simp [h3]
          . show A1 k (Aj (B3.box (A3 (Ak hh (.tree e sh false (xs.set row z)) (C1 k0 s.boxes)))) (Ak hh (.tree e sh false (xs.set row z)) (C1 k0 s.boxes)))=A1 k (Ak hh _ (C1 k0 (Aj (B3.box (A3 s.boxes)) s.boxes)));rw [Ae];by_cases e1:k=hh
            . subst e1;rw [A9,A9];have rows2:_=_:=rows2;simp only [QQ,B3.box];rw [rows2]
            . rw [Ac _ _ e1,Ac _ _ e1];by_cases e2:k=k0
              . subst e2;rw [Bj,Bj];rfl
              . rw [Az e2,Az e2,Ae]
                cases hz:A1 k s.boxes with
                | none=>rfl
                | some b=>exact XU some (Lj hL (nomen k b e1 e2 hz)).symm
       . cases h
     . cases h
   . cases h
inductive Shut where
 | hole (kk:Nat)
 | ren (l:List (Nat × Nat))
 | stl (h j:Nat) (sh:Sh)
def B2x (a b:Nat) (s:St3):Option St3:=match A1 a s.boxes with
 | some x=>bif Nat.blt a 1000&&Nat.blt b 1000 && !Nat.beq a b&&s.boxes.all (λp=>!p.2.men a&&(Nat.beq p.1 b || !p.2.men b)) then
   some ⟨Aj (λv=>bif v.men b then .dead else v.ren3 (Vc a b)) s.slots,Ak b x (C1 a (C1 b s.boxes))⟩ else none
 | none=>none
def Aev:List (Nat × Nat)->St3->Option St3
 | [],s=>some s
 | (a,b)::r,s=>(B2x a b s).bind (Aev r)
theorem Avd {b:Nat} {v:SV} (h:v.men b=false):v.ok3 (λk=>!Nat.beq k b)=true:=by
 have c:∀ x:SV,x.menC b=false->x.okC (λk=>!Nat.beq k b)=true:=λx hx=>by
  cases x <;> first | rfl | (simp only [SV.menC] at hx;simp only [SV.okC,hx,XH])
 have v2:∀ x:SV,x.menV b=false->x.okV (λk=>!Nat.beq k b)=true:=λx hx=>by
  cases x with
  | agg cs=>exact QM.2 λy hy=>c y (by have:=XD.1 hx y hy;simpa using this)
  | hw k=>exact c (.hw k) hx
  | hs k o l=>exact c (.hs k o l) hx
  | hp k o l=>exact c (.hp k o l) hx
  | _=>rfl
 cases v with
 | tup cs=>exact QM.2 λy hy=>v2 y (by have:=XD.1 h y hy;simpa using this)
 | agg cs=>exact v2 (.agg cs) h
 | hw k=>exact c (.hw k) h
 | hs k o l=>exact c (.hs k o l) h
 | hp k o l=>exact c (.hp k o l) h
 | _=>rfl
theorem B8i {a b:Nat} {s s':St3} {nt:Nat} (h:B2x a b s=some s'):C3 (s.st nt) (s'.st nt):=by
 unfold B2x at h;split at h
 . rename_i x hx
   cases hc:(Nat.blt a 1000&&Nat.blt b 1000 && !Nat.beq a b&&s.boxes.all (λp=>!p.2.men a&&(Nat.beq p.1 b || !p.2.men b))) with
   | false=>rw [hc] at h;cases h
   | true =>
    rw [hc] at h;obtain rfl:=QA h;simp only [QE,ZJ] at hc;obtain ⟨⟨⟨c1,c2⟩,c3⟩,c4⟩:=hc
    have c1:a<1000:=by simpa [ZP] using c1
    have c2:b<1000:=by simpa [ZP] using c2
    have c3:a ≠ b:=Lk c3
    have nob:∀ k y,A1 k s.boxes=some y->y.men a=false/\(k ≠ b->y.men b=false):=λk y hy=>by
     have:=QM.1 c4 _ (Ca hy);simp only [QE,XN,ZJ] at this;exact ⟨this.1,λhk=>this.2.resolve_left λe=>hk (QC e)⟩
    let L:=A3 s.boxes
    let nb:List (Nat × B3):=Ak b x (C1 a (C1 b s.boxes))
    have lk:∀ k,A1 k nb=if k=b then some x else if k=a then none else A1 k s.boxes:=λk=>by
     show A1 k (Ak b x (C1 a (C1 b s.boxes)))=_;by_cases e:k=b
     . subst e;rw [A9,QL rfl]
     . rw [Ac _ _ e,QJ e];by_cases e2:k=a
       . subst e2;rw [Bj,QL rfl]
       . rw [Az e2,Az e,QJ e2]
    have hL:∀ k,k ≠ b->A3 nb (Vc a b k)=L k:=λk hk=>by
     show (match A1 (Vc a b k) nb with | some b=>b.len | none=>0)=(match A1 k s.boxes with | some b=>b.len | none=>0)
     by_cases e:k=a
     . subst e;rw [Aqc,lk,QL rfl,hx]
     . rw [Qj e,lk,QJ hk,QJ e]
    let S1:St:={ s.st nt with slots:=Aj (SV.s L) (G0 [b] s.slots) }
    have w1:C3 (s.st nt) S1:=Cx rfl (λt z hz=>by
     rcases E9 (L:=L) (λ_ _=>rfl) hz with e | ⟨sv,h1,rfl,_⟩
     . exact .inl e
     . refine .inr ?_;show A1 t (Aj (SV.s L) s.slots)=_
       rw [Ae,h1];rfl) λ_=>rfl
    have nos:∀ t z,A1 t S1.slots=some z->z.men b=false:=λt z hz=>by
     rcases E9 (L:=L) (λ_ _=>rfl) hz with rfl | ⟨sv,_,rfl,h3⟩
     . rfl
     . rw [So];exact h3 b (by simp)
    have w2:C3 S1 { S1 with boxes:=C1 b S1.boxes }:=Afe c2 nos λk y hk hy=>by
     have hy:A1 k (Aj (B3.box L) s.boxes)=some y:=hy;rw [Ae] at hy;obtain ⟨y3,h3,rfl⟩:=QB.1 hy;exact Ih ((nob k y3 h3).2 hk)
    let S2:St:={ S1 with boxes:=C1 b S1.boxes }
    refine w1.trans (w2.trans ?_)
    have bx:∀ k,A1 k (Aj (B3.box (A3 nb)) nb)=if k=b then A1 a S2.boxes else if k=a then none else A1 k S2.boxes:=λk=>by
     have same:∀ j y,A1 j s.boxes=some y->(j ≠ b->y.box (A3 nb)=y.box L):=λj y hy hj=>by
      refine V3 λq hq=>?_;have n1:=nob j y hy
      have qa:q ≠ a:=λe=>by subst e;rw [n1.1] at hq;cases hq
      have qb:q ≠ b:=λe=>by subst e;rw [n1.2 hj] at hq;cases hq
      have:=hL q qb
      rwa [Qj qa] at this
     rw [Ae,lk]
     show _=if k=b then A1 a (C1 b (Aj (B3.box L) s.boxes)) else if k=a then none else A1 k (C1 b (Aj (B3.box L) s.boxes))
     by_cases e:k=b
     . rw [QL e,QL e,Az c3,Ae,hx];simp only [QQ];rw [same a x hx c3]
     . rw [QJ e,QJ e];by_cases e2:k=a
       . rw [QL e2,QL e2];rfl
       . rw [QJ e2,QJ e2,Az e,Ae]
         cases hy:A1 k s.boxes with
         | none=>rfl
         | some y=>simp only [QQ];rw [same k y hy e]
    refine B2g (s:=S2) c1 c2 c3 (Bj _ _) (λt z hz=>?_) bx (λk y hy=>?_)
    . have hz:A1 t (Aj (SV.s (A3 nb)) (Aj (λv=>bif v.men b then .dead else v.ren3 (Vc a b)) s.slots))=some z:=hz
      rw [Ae,Ae,Option.map_map] at hz;obtain ⟨v,hv,rfl⟩:=QB.1 hz
      refine ⟨(bif v.men b then SV.dead else v).s L,?_,?_⟩
      . show A1 t (Aj (SV.s L) (Aj (λx=>bif [b].any (λk=>x.men k) then .dead else x) s.slots))=_
        rw [Ae,Ae,hv];simp only [QQ,YW,List.any_nil,Qao]
      . simp only [Function.comp]
        cases hm:v.men b with
        | true=>rfl
        | false =>
         exact Av1 (p:=λk=>!Nat.beq k b) (λk hk=>hL k (Lk (by simpa using hk))) (Avd hm)
    . have hy:A1 k (C1 b (Aj (B3.box L) s.boxes))=some y:=hy;by_cases e:k=b
      . subst e;rw [Bj] at hy;cases hy
      . rw [Az e,Ae] at hy;obtain ⟨y3,h3,rfl⟩:=QB.1 hy;exact Ih (nob k y3 h3).1
 . cases h
theorem Ag2 {nt:Nat}:∀ {l:List (Nat × Nat)} {s s':St3},Aev l s=some s'->C3 (s.st nt) (s'.st nt)
 | [],s,s',h=>by obtain rfl:=QA h;exact λΓ w E tmps hs=>⟨E,hs⟩
 | (a,b)::r,s,s',h=>by
  simp only [Aev,YQ] at h;obtain ⟨s1,h1,h2⟩:=h;exact (B8i h1).trans (Ag2 h2)
def B2s (h j:Nat) (sh:Sh) (s:St3):Option (Bool × St3):=match A1 h s.boxes with
 | some (.var e hf fz cs)=>match cs[j]? with
  | some c=>match F1 s.boxes sh c with
   | some (g,x,ks)=>bif sh.one && !ks.any (Nat.beq h) then some (g,⟨s.slots,Ak h (.var e ((cs.set j (.d sh x)).all SV.isD) fz (cs.set j (.d sh x))) (Bm s.boxes ks)⟩) else none
   | none=>none
  | none=>none
 | _=>none
theorem B88 {h j:Nat} {sh:Sh} {s s':St3} {g:Bool} {nt:Nat} (hh:B2s h j sh s=some (g,s')) (hg:g=true):C3 (s.st nt) (s'.st nt):=by
 unfold B2s at hh;split at hh
 . rename_i e hf fz cs hl;split at hh
   . rename_i c hc;split at hh
     . rename_i g0 x ks hcv
       cases hb:(sh.one && !ks.any (Nat.beq h)) with
       | false=>rw [hb] at hh;cases hh
       | true =>
        rw [hb] at hh;simp only [cond,QD,QI] at hh;obtain ⟨rfl,rfl⟩:=hh;simp only [QE,ZJ] at hb;obtain ⟨h1,h2⟩:=hb;obtain ⟨q1,⟨ob,q2,q3⟩,q4⟩:=Yf h1 hcv hg
        have hn:h ∉ ks:=λhk=>by have:=XD.1 h2 h hk;simp at this
        let L:=A3 s.boxes
        let nb:B3:=.var e ((cs.set j (.d sh x)).all SV.isD) fz (cs.set j (.d sh x))
        have hbx:A1 h (s.st nt).boxes=some ((B3.var e hf fz cs).box L):=by
         show A1 h (Aj (B3.box L) s.boxes)=_;rw [Ae,hl];rfl
        have ex:(SV.d sh x).c L = .i (hd1 (sh.cells x)):=rfl
        have hw:=B2f (s:=s.st nt) (h:=h) (row:=0) (j:=j) (b:=(B3.var e hf fz cs).box L) (r:=cs.map (SV.c L)) (c:=c.c L) (c':=.i (hd1 (sh.cells x))) (obs:=ob) (ks:=ks) (hf':=(cs.set j (.d sh x)).all SV.isD) hbx rfl rfl
         (by rw [QK,hc];rfl) q2 q3 (V1 q4) hn (λhall i q l d hi hd=>by
          cases i with
          | zero =>
           have hi:some ((cs.map (SV.c L)).set j (.i (hd1 (sh.cells x))))=some q:=hi;obtain rfl:=QA hi;rw [<- ex,<- JS,QK] at hd;obtain ⟨y,hy,rfl⟩:=QB.1 hd;have:=QM.1 hall y (QX hy)
           cases y with
           | d t z=>exact ⟨_,rfl⟩
           | _=>cases this
          | succ i=>simp [B3.box] at hi)
        refine hw.trans (Cx rfl (λt z hz=>.inr ?_) λk=>?_)
        . have hz:A1 t (Aj (SV.s (A3 (Ak h nb (Bm s.boxes ks)))) s.slots)=some z:=hz
          have hL:A3 (Ak h nb (Bm s.boxes ks))=L:=by
           funext k;unfold A3;by_cases e1:k=h
           . subst e1;rw [A9];show (1:Nat)=A3 s.boxes k;simp [A3,hl,B3.len]
           . rw [Ac _ _ e1];show A3 (Bm s.boxes ks) k=L k;rw [D2]
          rw [hL] at hz;exact hz
        . have hL : A3 (Ak h nb (Bm s.boxes ks)) = L := by
           funext k;unfold A3;by_cases e1:k=h
           . subst e1;rw [A9];show (1:Nat)=A3 s.boxes k;simp [A3,hl,B3.len]
           . rw [Ac _ _ e1];show A3 (Bm s.boxes ks) k=L k;rw [D2]
          show A1 k (Aj (B3.box (A3 (Ak h nb (Bm s.boxes ks)))) (Ak h nb (Bm s.boxes ks)))=A1 k (Ak h _ (B1 (Aj (B3.box L) s.boxes) ks));rw [hL,Gk];by_cases e1:k=h
          . subst e1;rw [Ae,A9,A9];simp only [QQ,nb,B3.box,JS,JN];rfl
          . rw [Ae,Ac _ _ e1,Ac _ _ e1,Ae]
     . cases hh
   . cases hh
 . cases hh
def B6w:Shut->St3->Option (Bool × St3)
 | .hole kk,s=>Afw kk s
 | .ren l,s=>(Aev l s).map λs'=>(true,s')
 | .stl h j sh,s=>B2s h j sh s
theorem B2v {k:Shut} {s s':St3} {g:Bool} {nt:Nat} (h:B6w k s=some (g,s')) (hg:g=true):C3 (s.st nt) (s'.st nt):=by
 cases k with
 | hole kk=>exact Auv h hg
 | ren l =>
  obtain ⟨s1,h1,h2⟩:=QB.1 h;obtain ⟨_,rfl⟩:=KH h2;exact Ag2 h1
 | stl h0 j sh=>exact B88 h hg
end Go.Ev

/- DERIVED. Code over shapes: all paths, in one expression. -/
namespace Go.Ev
open Go
variable {P:Program} {T:Ty}
structure OA where
 ent:Option Ent:=none
 sh:Option Sh:=none
 fz:List (Nat × Sh):=[]
 entB:Option Ent3:=none
 hb:Nat:=0
 tr:Option Sh:=none
 alt:List Ent3:=[]
 bor:Option Nat:=none
 shut:Option Shut:=none
def OA.two (a:OA):Bool:=(a.ent.isSome&&a.entB.isSome) || !a.alt.isEmpty || (a.bor.isSome || a.shut.isSome)
theorem OA.two_false {a:OA} (h:a.two=false):(a.ent.isSome&&a.entB.isSome)=false/\a.alt=[]/\a.bor=none/\a.shut=none:=by
 unfold OA.two at h;simp only [Bool.or_eq_false_iff,Bool.not_eq_false'] at h
 exact ⟨h.1.1,YK.1 h.1.2,by simpa using h.2.1,by simpa using h.2.2⟩
structure RA where
 m:Nat:=0
 fz:List (Nat × Sh):=[]
 ops:List (Nat × OA):=[]
@[reducible] def KS (α:Type):List (Exit × Tm)->Type
 | []=>Unit
 | (_,X)::r=>(X.den->Option α) × KS α r
def Nm {α:Type} (k:Exit->St3->Option α):(l:List (Exit × Tm))->KS α l
 | []=>()
 | (x,X)::r=>(λw=>k x (X.enc w),Nm k r)
def Exit.eqb:Exit->Exit->Bool
 | .normal,.normal=>true
 | .ret,.ret=>true
 | .exit i,.exit j=>Nat.beq i j
 | _,_=>false
theorem Exit.eqb_eq {a b:Exit} (h:Exit.eqb a b=true):a=b:=by
 unfold Exit.eqb at h;split at h
 . rfl
 . rfl
 . rw [QC h]
 . cases h
def Ma {α:Type}:(l:List (Exit × Tm))->KS α l->Exit->St3->Option α
 | [],_,_,_=>none
 | (x,X)::r,ks,y,s=>bif Exit.eqb x y then (match X.dec s with
  | some w=>ks.1 w
  | none=>none) else Ma r ks.2 y s
structure LO (α:Type) where
 H:Tm
 outs:List (Exit × Tm)
 run:H.den->KS α outs->Option α
structure D3 (α:Type) where
 reg:List (Nat × RA):=[]
 join:List (Nat × Tm):=[]
 loop:List (Nat × LO α):=[]
 any:List (Nat × Tm):=[]
def C8:Code->Nat
 | .region id _ _=>id
 | .seq c d=>match C8 c with
  | 0=>C8 d
  | n+1=>n+1
 | .cond _ c d=>match C8 c with
  | 0=>C8 d
  | n+1=>n+1
 | .block _ c=>C8 c
 | .loop c=>C8 c
 | .rangeFunc _ _ a b=>match C8 a with
  | 0=>C8 b
  | n+1=>n+1
 | _=>0
def upd {α:Type} (k:Nat) (x:α):List (Nat × α)->List (Nat × α)
 | []=>[]
 | (j,y)::r=>bif Nat.beq j k then (j,x)::r else (j,y)::upd k x r
def Hs {α:Type}:List (Nat × Sh)->St3->(St3->Option α)->Option α
 | [],s,k=>k s
 | (t,sh)::r,s,k=>match Mu s t sh with
  | some (g,s1)=>bif g then Hs r s1 k else none
  | none=>none
def ob {α β:Type} (x:Option β) (k:β->Option α):Option α:=match x with
 | some r=>k r
 | none=>none
def gd {α:Type} (g:Bool) (x:Option α):Option α:=bif g then x else none
abbrev W (x:Int):Int:=IntKind.i64.wrap x
def A0i (T:Ty) (K:Am) (A:OA) (o:Oper) (s:St3):Option (Bool × St3) :=
 match Kr T A.sh o s with
 | some r=>match s.eff3 K o.dst r.eff with
  | some s1=>match s1.put3 K o.dst r.val with
   | some s'=>match A.tr with
    | none=>some (r.g,s')
    | some sh=>match o.dst with
     | some d=>(A1q sh d s').map λs2=>(r.g,s2)
     | none=>none
   | none=>none
  | none=>none
 | none=>match S8 T o s with
  | some q=>some q
  | none=>A1r T K o s
def Ali:List Ent3->Oper->St3->Option Ent3
 | [],_,_=>none
 | E::r,o,s=>match Jf E.f E.ts o s with
  | some _=>some E
  | none=>Ali r o s
theorem Alh:∀ {l:List Ent3} {o:Oper} {s:St3} {E:Ent3},Ali l o s=some E->E ∈ l
 | [],_,_,_,h=>by cases h
 | F::r,o,s,E,h=>by
  simp only [Ali] at h;split at h
  . cases h;exact YR
  . exact ZX _ (Alh h)
def Ql {α:Type} (T:Ty) (K:Am) (A:OA) (o:Oper) (s:St3) (k:St3->Option α):Option α :=
 match Ali A.alt o s with
 | some E=>Qk K E A.hb o s k
 | none=>match A.ent with
 | some E=>match Pz E o s with
  | some (g,x)=>bif g then ob (E.m x) (λr=>match s.put3 K o.dst (Ai E.rs r) with
    | some s'=>k s'
    | none=>none) else none
  | none=>match A.entB with
   | some F=>Qk K F A.hb o s k
   | none=>none
 | none=>match A.entB with
 | some E=>Qk K E A.hb o s k
 | none=>match A0i T K A o s with
  | some (g,s')=>bif g then k s' else none
  | none=>none
def Sc {α:Type} (T:Ty) (K:Am) (A:OA) (o:Oper) (s:St3) (k:St3->Option α):Option α :=
 match A.bor with
 | some kk=>B6h T K kk o s k
 | none=>match A.shut with
  | none=>Ql T K A o s k
  | some kk=>Ql T K A o s λs1=>match B6w kk s1 with
   | some (g,s2)=>bif g then k s2 else none
   | none=>none
def Aet {α:Type} (K:Am) (o:Oper) (s:St3) (k:St3->Option α):Option α :=
 match s.put3 K o.dst (.tup []) with
 | some s'=>k s'
 | none=>none
def Wu {α:Type} (ops:List Oper) (o:Oper) (s:St3) (f g:St3->Option α):Option α :=
 match o.guard with
 | none=>f s
 | some (j,want)=>match ops[j]? with
  | some p=>match p.dst with
   | some t=>match A1 t s.slots with
    | some (.d .bool b)=>bif b then
      (bif want then f { s with slots:=upd t (.d .bool true) s.slots } else g { s with slots:=upd t (.d .bool true) s.slots }) else
      (bif want then g { s with slots:=upd t (.d .bool false) s.slots } else f { s with slots:=upd t (.d .bool false) s.slots })
    | some (.tup [])=>g s
    | _=>none
   | none=>none
  | none=>none
def Ht {α:Type} (T:Ty) (K:Am) (ops:List Oper) (A:List (Nat × OA)):List (Nat × Oper)->St3->(St3->Option α)->Option α
 | [],s,k=>k s
 | (i,o)::r,s,k=>Hs ((A1 i A).getD {}).fz s λs0=>Wu ops o s0 (λs1=>Sc T K ((A1 i A).getD {}) o s1 λs2=>Ht T K ops A r s2 k) (λs1=>Aet K o s1 λs2=>Ht T K ops A r s2 k)
def OA.quiet (T:Ty) (A:OA) (o:Oper) (s:St3):Bool :=
 A.fz.isEmpty&&A.tr.isNone&&A.alt.isEmpty&&(A.bor.isNone&&A.shut.isNone)&&(match A.entB with | some _=>false | none=>true)&&(match o.dst with | some _=>true | none=>false)&&(match A.ent with
 | some _=>true
 | none=>match Kr T A.sh o s with
  | some r=>match r.eff with
   | .none=>true
   | _=>false
  | none=>false)
def Ag8 {α:Type} (T:Ty) (K:Am) (ops:List Oper) (A:List (Nat × OA)):List (Nat × Oper)->St3->(St3->Option α)->Option α
 | [],s,k=>k s
 | (i,o)::r,s,k=>Wu ops o s
   (λs1=>bif OA.quiet T ((A1 i A).getD {}) o s1 then Sc T K ((A1 i A).getD {}) o s1 (λs2=>Ag8 T K ops A r s2 k) else none)
   (λs1=>bif o.dst.isSome then Aet K o s1 (λs2=>Ag8 T K ops A r s2 k) else none)
def B2z {α:Type} (P:Program) (T:Ty) (K:Am) (A:RA) (ops:Array Oper) (draw:Bool) (s:St3) (k:St3->Option α):Option α :=
 bif draw then
  bif Ed ops A.m then Hs A.fz s λs0=>Ag8 T K ops.toList A.ops ((A7 ops.toList).take A.m) s0 λs1=>Ht T K ops.toList A.ops ((A7 ops.toList).drop A.m) s1 k else none
 else Ht T K ops.toList A.ops (A7 ops.toList) s k
def Ab:Code->List (Nat × Code)
 | .seq c d=>Ab c++Ab d
 | .cond _ c d=>Ab c++Ab d
 | .block _ c=>Ab c
 | .loop c=>[(C8 c,.loop c)]
 | .rangeFunc f ps a b=>[(match C8 a with | 0=>C8 b | n+1=>n+1,.rangeFunc f ps a b)]
 | _=>[]
def Au:Code->List (Nat × Array Oper)
 | .seq c d=>Au c++Au d
 | .cond _ c d=>Au c++Au d
 | .block _ c=>Au c
 | .loop c=>Au c
 | .region id ops true=>[(id,ops)]
 | _=>[]
def V7 (id:Nat):List (Nat × Tm)->List Tm
 | []=>[]
 | (i,X)::r=>bif Nat.beq i id then X::V7 id r else V7 id r
def Aew {α:Type} (s:St3) (f:(X:Tm)->X.den->Option α):List Tm->Option α
 | []=>none
 | X::r=>match X.dec s with
  | some w=>f X w
  | none=>Aew s f r
def Bi {α:Type} (P:Program) (T:Ty) (K:Am) (D:D3 α):Code->St3->(Exit->St3->Option α)->Option α
 | .skip,s,k=>k .normal s
 | .region id ops draw,s,k=>match V7 id D.any with
  | []=>B2z P T K ((A1 id D.reg).getD {}) ops draw s (k .normal)
  | X::r=>bif draw then Aew s (λX w=>Ht T K ops.toList ((A1 id D.reg).getD {}).ops (A7 ops.toList) (X.enc w) (k .normal)) (X::r) else none
 | .seq c d,s,k=>match A1 (C8 d) D.join with
  | none=>Bi P T K D c s λx s1=>match x with
   | .normal=>Bi P T K D d s1 k
   | x=>k x s1
  | some X=>(λ(J:X.den->Option α)=>Bi P T K D c s λx s1=>match x with
   | .normal=>match X.dec s1 with
    | some w=>J w
    | none=>none
   | x=>k x s1) λw=>Bi P T K D d (X.enc w) k
 | .cond (.tmp t) c d,s,k=>match A1 t s.slots with
  | some (.d .bool b)=>bif b then Bi P T K D c { s with slots:=upd t (.d .bool true) s.slots } k else Bi P T K D d { s with slots:=upd t (.d .bool false) s.slots } k
  | _=>none
 | .block id c,s,k=>Bi P T K D c s λx s1=>match x with
  | .exit j=>bif Nat.beq j id then k .normal s1 else k (.exit j) s1
  | x=>k x s1
 | .loop c,s,k=>match A1 (C8 c) D.loop with
  | some L=>match L.H.dec s with
   | some v=>L.run v (Nm k L.outs)
   | none=>bif (Ab c).isEmpty then Bi P T K D c s λx s1=>match x with
    | .normal=>match L.H.dec s1 with
     | some v=>L.run v (Nm k L.outs)
     | none=>none
    | x=>k x s1 else none
  | none=>none
 | .rangeFunc _ _ a b,s,k=>match A1 (match C8 a with | 0=>C8 b | n+1=>n+1) D.loop with
  | some L=>match L.H.dec s with
   | some v=>L.run v (Nm k L.outs)
   | none=>none
  | none=>none
 | .exit id,s,k=>k (.exit id) s
 | .ret,s,k=>k .ret s
 | _,_,_=>none
def A5 {α:Type} {V Ks:Type} (B:V->(V->Option α)->Ks->Option α):Nat->V->Ks->Option α
 | 0,_,_=>none
 | n+1,v,ks=>B v (λv'=>A5 B n v' ks) ks
def A80 {α:Type} (H:Tm) (outs:List (Exit × Tm)) (f:H.den->Option α) (ks:KS α outs) (x:Exit) (s:St3):Option α :=
 match x with
 | .normal=>match H.dec s with
  | some v=>f v
  | none=>none
 | x=>Ma outs ks x s
def A8k (T:Ty) (s:St3):ResultVar->Option SV
 | .tmp t=>A1 t s.slots
 | .cell a t=>match s.val (.tmp a) with
  | .hp h row col=>match A1 h s.boxes with
   | some (.var _ _ _ _)=>match Ys T t (.hp h row col) s.boxes with
    | some r=>some r.val
    | none=>none
   | _=>none
  | _=>none
def Wi (T:Ty) (s:St3) (rv:ResultVar) (t:Sh):Option (Bool × t.den × List Nat) :=
 match A8k T s rv with
 | some v=>Yd s.boxes t v
 | none=>none
def Iq (T:Ty) (s:St3):(ts:List Sh)->List ResultVar->Option (Bool × HL ts)
 | [],[]=>some (true,())
 | [t],[rv]=>match Wi T s rv t with
  | some (g,x,_)=>some (g,x)
  | none=>none
 | t::u::r,rv::rvs=>match Wi T s rv t,Iq T s (u::r) rvs with
  | some (g,x,_),some (g',xs)=>some (g&&g',(x,xs))
  | _,_=>none
 | _,_=>none
def B3o (T:Ty) (rs:List Sh) (rvs:List ResultVar) (x:Exit) (s:St3):Option (HL rs) :=
 match x with
 | .exit _=>none
 | .normal=>match Iq T s rs rvs with
  | some (g,y)=>bif g then some y else none
  | none=>none
 | .ret=>match Iq T s rs rvs with
  | some (g,y)=>bif g then some y else none
  | none=>none
 | _=>none
def F7 (i:Nat):List SV->List (Nat × SV)
 | []=>[]
 | x::r=>(i,x)::F7 (i+1) r
def Ya (ts:List Sh) (x:HL ts):St3:=⟨F7 0 (Er ts x),[]⟩
end Go.Ev

/- DERIVED. Code over shapes is what the code does. -/
namespace Go.Ev
open Go
variable {P:Program} {T:Ty} {α:Type}
theorem Aum {f:SV->S} {t:Nat} {x y:SV} (hxy:f x=f y):∀ {l:List (Nat × SV)},A1 t l=some y->Aj f (upd t x l)=Aj f l
 | [],h=>by cases h
 | (j,z)::r,h=>by
  simp only [A1] at h;simp only [upd]
  cases hb:Nat.beq j t with
  | true =>
   rw [hb] at h;simp only [cond,QD] at h;subst h;simp [Aj,hxy]
  | false =>
   rw [hb] at h;have:=Aum hxy h;simp only [Aj] at this;simp [Aj,this]
theorem Q2 {nt:Nat}:∀ {l:List (Nat × Sh)} {s:St3} {k:St3->Option α} {r:α},Hs l s k=some r->∃ s' fz ob,Eu fz (s.st nt)=some (s'.st nt,ob)/\(∀ p ∈ ob,p)/\k s'=some r/\(l=[]->fz=[]/\s'=s)
 | [],s,k,r,h=>⟨s,[],[],rfl,by simp,h,λ_=>⟨rfl,rfl⟩⟩
 | (t,sh)::l,s,k,r,h=>by
  simp only [Hs] at h;split at h
  . rename_i g s1 hs
    cases g with
    | false=>cases h
    | true =>
     obtain ⟨x',ob,h1,h2⟩:=Se (nt:=nt) hs rfl;obtain ⟨s2,fz,ob2,h3,h4,h5,_⟩:=Q2 (nt:=nt) (l:=l) h
     refine ⟨s2,(t,x')::fz,ob++ob2,by simp only [Eu,h1,h3],λp hp=>?_,h5,λe=>by cases e⟩
     rcases QF.1 hp with hp | hp
     . exact h2 p hp
     . exact h4 p hp
  . cases h
theorem Aqn {o:Oper} {s:St3} {nt:Nat} {A:Option Sh} {r:R3} (h:Kr T A o s=some r) (hg:r.g=true) (he:r.eff = .none) :
  ∃ D obs,(∀ p ∈ obs,p)/\quiet P T o D (s.st nt)=some (r.val.s (A3 s.boxes),obs):=by
 obtain ⟨hnt,q,h1,h2,h3⟩:=Al5 (nt:=nt) h hg;unfold Ii at h3;rw [he] at h3
 refine ⟨{ cells:=hnt },q.ob++[],by simpa using h2,?_⟩
 unfold quiet;simp only [h1,h3.1,Option.getD_none,h3.2]
theorem B2u {K:Am} {o:Oper} {D:Fn} {s:St} (fz:List (Nat × V)):Cd P T K o { D with fz:=fz } s=Cd P T K o D s:=rfl
def OA.S (P:Program) (a:OA):Prop:=(∀ E,a.ent=some E->E.Sound P)/\(∀ E,a.entB=some E->E.Sound P) /\ ∀ E,E ∈ a.alt->E.Sound P
theorem Alc (hT:Aw P T) {K:Am} {A:OA} {o:Oper} {s s':St3} {nt:Nat} {g:Bool} (h:A0i T K A o s=some (g,s')) (hg:g=true) :
  ∃ D obs,Cd P T K o D (s.st nt)=some (s'.st nt,obs) /\ ∀ p ∈ obs,p:=by
 unfold A0i at h;split at h
 . rename_i q hq;split at h
   . rename_i s1 he;split at h
     . rename_i s2 hp
       have key:q.g=true->∃ D obs,Cd P T K o D (s.st nt)=some (s2.st nt,obs) /\ ∀ p ∈ obs,p:=λhg=>by
        obtain ⟨hnt,r1,h1,h2,h3⟩:=Al5 (nt:=nt) hq hg;obtain ⟨h4,h5⟩:=Bcu (nt:=nt) he h3;have h6:=Qm (nt:=nt) hp;rw [<- h5] at h6
        refine ⟨{ cells:=hnt },r1.ob++[]++[],?_,by simpa using h2⟩
        unfold Cd;simp only [h1,h4,Option.getD_none,h6,QQ]
       split at h
       . simp only [QD,QI] at h;obtain ⟨rfl,rfl⟩:=h;exact key hg
       . split at h
         . simp only [QB,QI] at h;obtain ⟨s3,h3,rfl,rfl⟩:=h;obtain ⟨D,obs,k1,k2⟩:=key hg
           exact ⟨{ own:=some (s3.st nt) },_,rfl,λp hp=>by
            rw [QS.1 hp]
            exact (Cv hT k1 k2).weak (Alw h3)⟩
         . cases h
     . cases h
   . cases h
 . split at h
   . rename_i q hq;obtain rfl:=QA h
     exact ⟨{ own:=some (s'.st nt) },_,rfl,λp hp=>by rw [QS.1 hp];exact Aec hT hq hg⟩
   . exact ⟨{ own:=some (s'.st nt) },_,rfl,λp hp=>by rw [QS.1 hp];exact Alx hT h hg⟩
theorem Abm (hT:Aw P T) {K:Am} {A:OA} {o:Oper} {s:St3} {nt:Nat} {k:St3->Option α} {r:α} (h:Ql T K A o s k=some r) (hE:A.S P) :
  ∃ s' D obs,Cd P T K o D (s.st nt)=some (s'.st nt,obs)/\(∀ p ∈ obs,p)/\k s'=some r:=by
 unfold Ql at h;split at h
 . rename_i E hal;exact Vy h (hE.2.2 E (Alh hal))
 split at h
 . rename_i E hent;split at h
   . rename_i g x hc
     cases g with
     | false=>cases h
     | true =>
      simp only [cond,ob] at h;split at h
      . rename_i y hm;split at h
        . rename_i s' hp;obtain ⟨obs,h1,h2⟩:=A5e (T:=T) (nt:=nt) hc hm (hE.1 E hent);have:=Qm (nt:=nt) hp;rw [A8h] at this;obtain ⟨D',obs',h3,h4⟩:=Si h2 this;exact ⟨s',D',obs',h3,h4 h1,h⟩
        . cases h
      . cases h
   . split at h
     . rename_i F hF;exact Vy h (hE.2.1 F hF)
     . cases h
 split at h
 . rename_i E hent;exact Vy h (hE.2.1 E hent)
 . split at h
   . rename_i g s' hq
     cases g with
     | false=>cases h
     | true =>
      obtain ⟨D,obs,h1,h2⟩:=Alc (nt:=nt) hT hq rfl;exact ⟨s',D,obs,h1,h2,h⟩
   . cases h
theorem B2t (hT:Aw P T) {K:Am} {A:OA} {o:Oper} {s:St3} {nt:Nat} {k:St3->Option α} {r:α} (h:Sc T K A o s k=some r) (hE:A.S P) :
  ∃ s' D obs,Cd P T K o D (s.st nt)=some (s'.st nt,obs)/\(∀ p ∈ obs,p)/\k s'=some r:=by
 unfold Sc at h;split at h
 . obtain ⟨s',h1,h2⟩:=Bcw (nt:=nt) hT h
   exact ⟨s',{ own:=some (s'.st nt) },_,rfl,λp hp=>by rw [QS.1 hp];exact h1,h2⟩
 . split at h
   . exact Abm hT h hE
   . obtain ⟨s1,D,obs,h1,h2,h3⟩:=Abm (nt:=nt) hT h hE;split at h3
     . rename_i g s2 hs
       cases g with
       | false=>cases h3
       | true=>exact ⟨s2,{ own:=some (s2.st nt) },_,rfl,λp hp=>by rw [QS.1 hp];exact (Cv hT h1 h2).weak (B2v hs rfl),h3⟩
     . cases h3
theorem Av4 {K:Am} {A:OA} {o:Oper} {s:St3} {nt:Nat} {k:St3->Option α} {r:α} (h:Sc T K A o s k=some r) (hq:A.quiet T o s=true) (hE:A.S P) :
  ∃ t s' D x obs,o.dst=some t/\Nat.blt t K.N=true/\quiet P T o D (s.st nt)=some (x,obs)/\(∀ p ∈ obs,p)/\k s'=some r/\s'.st nt={ s.st nt with slots:=Ak t x (s.st nt).slots }:=by
 unfold OA.quiet at hq;simp only [QE] at hq;obtain ⟨⟨⟨⟨⟨⟨_,hqt⟩,hqa⟩,hqb,hqc⟩,hq0⟩,hq1⟩,hq2⟩:=hq
 have putI:∀ {s s':St3} {y:SV},s.put3 K o.dst y=some s'->∃ t,o.dst=some t/\Nat.blt t K.N=true/\s'.st nt={ s.st nt with slots:=Ak t (y.s (A3 s.boxes)) (s.st nt).slots }:=by
  intro s s' y hp;unfold St3.put3 at hp
  cases hd:o.dst with
  | none=>rw [hd] at hq1;cases hq1
  | some t =>
   rw [hd] at hp;simp only at hp
   cases hb:Nat.blt t K.N with
   | false=>rw [hb] at hp;cases hp
   | true =>
    rw [hb] at hp;obtain rfl:=QA hp
    exact ⟨t,rfl,hb,by simp only [St3.st,Dc]⟩
 unfold Sc at h
 rw [show A.bor=none by simpa using hqb,show A.shut=none by simpa using hqc] at h
 simp only at h;unfold Ql at h;split at h
 . rename_i E hal;rw [YK.1 hqa] at hal;cases hal
 split at h
 . rename_i E hent;split at h
   . rename_i g x hc
     cases g with
     | false=>cases h
     | true =>
      simp only [cond,ob] at h;split at h
      . rename_i y hm;split at h
        . rename_i s' hp;obtain ⟨obs,h1,h2⟩:=A5e (T:=T) (nt:=nt) hc hm (hE.1 E hent);obtain ⟨t,p1,p2,p3⟩:=putI hp;rw [A8h] at p3;exact ⟨t,s',_,_,obs,p1,p2,h2,h1,h,p3⟩
        . cases h
      . cases h
   . split at h
     . rename_i F hF;rw [hF] at hq0;cases hq0
     . cases h
 split at h
 . rename_i E hB;rw [hB] at hq0;cases hq0
 . rename_i hent _ _;rw [hent] at hq2;simp only at hq2
   cases hcq:Kr T A.sh o s with
   | none=>rw [hcq] at hq2;cases hq2
   | some q =>
    rw [hcq] at hq2;simp only at hq2
    have he:q.eff = .none:=by
     cases e:q.eff <;> first | rfl | (rw [e] at hq2;cases hq2)
    have htr:A.tr=none:=by
     cases e:A.tr with
     | none=>rfl
     | some _=>rw [e] at hqt;cases hqt
    unfold A0i at h;rw [hcq] at h;simp only [he,St3.eff3,htr] at h;split at h
    . rename_i g s' hb;split at hb
      . rename_i s2 hp;simp only [QD,QI] at hb;obtain ⟨hg,rfl⟩:=hb
        cases g with
        | false=>cases h
        | true =>
         simp only [cond] at h;obtain ⟨D,obs,h1,h2⟩:=Aqn (P:=P) (nt:=nt) hcq hg he;obtain ⟨t,p1,p2,p3⟩:=putI hp;exact ⟨t,_,D,_,obs,p1,p2,h2,h1,h,p3⟩
      . cases hb
    . cases h
theorem Abp {s:St3} {nt t:Nat} {b:Bool} (h:A1 t s.slots=some (.d .bool b)):A1 t (s.st nt).slots=some (.v (.one (.i (.lit (.bool b))))):=by
 simp only [St3.st,Ae,h];rfl
theorem Jp {s:St3} {nt t:Nat} {b:Bool} (h:A1 t s.slots=some (.d .bool b)):(({ s with slots:=upd t (.d .bool b) s.slots }:St3).st nt)=s.st nt:=by
 simp only [St3.st];rw [Aum rfl h]
theorem Ac3 {ops:List Oper} {o:Oper} {s:St3} {nt:Nat} {f g:St3->Option α} {r:α} (h:Wu ops o s f g=some r) :
  ∃ s0,s0.st nt=s.st nt/\((H8 (s.st nt) ops o=some true/\f s0=some r) \/ (H8 (s.st nt) ops o=some false/\g s0=some r)):=by
 unfold Wu at h;unfold H8;split at h
 . rename_i hg;rw [hg]
   exact ⟨s,rfl,.inl ⟨by first | rfl | trivial,h⟩⟩
 . rename_i j want hg;rw [hg];simp only;split at h
   . rename_i p hp;simp only [hp];split at h
     . rename_i t ht;simp only [ht];split at h
       . rename_i b hl;simp only [Abp (nt:=nt) hl]
         cases b <;> cases want <;> simp only [cond] at h
         . exact ⟨_,Jp hl,.inl ⟨by first | rfl | trivial,h⟩⟩
         . exact ⟨_,Jp hl,.inr ⟨by first | rfl | trivial,h⟩⟩
         . exact ⟨_,Jp hl,.inr ⟨by first | rfl | trivial,h⟩⟩
         . exact ⟨_,Jp hl,.inl ⟨by first | rfl | trivial,h⟩⟩
       . rename_i hl
         have:A1 t (s.st nt).slots=some (.tup []):=by
          simp only [St3.st,Ae,hl];rfl
         simp only [this]
         exact ⟨s,rfl,.inr ⟨by first | rfl | trivial,h⟩⟩
       . cases h
     . cases h
   . cases h
theorem Afv {K:Am} {o:Oper} {s:St3} {nt:Nat} {k:St3->Option α} {r:α} (h:Aet K o s k=some r):∃ s',(s.st nt).putD K o.dst (.tup [])=some (s'.st nt)/\k s'=some r:=by
 unfold Aet at h;split at h
 . rename_i s' hp;exact ⟨s',Qm (nt:=nt) hp,h⟩
 . cases h
theorem Io {K:Am} {ops:List Oper} {Ds Ds':List (Nat × Fn)}:∀ (l:List (Nat × Oper)) (s:St),(∀ p ∈ l,A1 p.1 Ds=A1 p.1 Ds')->Dd P T K ops Ds l s=Dd P T K ops Ds' l s
 | [],_,_=>rfl
 | (i,o)::r,s,h=>by
  have h0:=h (i,o) (by simp)
  have ih:=λs=>Io (K:=K) (ops:=ops) r s λp hp=>h p (by simp [hp])
  simp only [Dd];rw [show A1 i Ds=A1 i Ds' from h0];simp only [ih]
theorem In {K:Am} {ops:List Oper} {Ds Ds':List (Nat × Fn)}:∀ (l:List (Nat × Oper)) (xs:List (Nat × Nat × S)) (s:St),(∀ p ∈ l,A1 p.1 Ds=A1 p.1 Ds')->Fz P T K ops Ds l xs s=Fz P T K ops Ds' l xs s
 | [],_,_,_=>rfl
 | (i,o)::r,xs,s,h=>by
  have h0:=h (i,o) (by simp)
  have ih:=λxs s=>In (K:=K) (ops:=ops) r xs s λp hp=>h p (by simp [hp])
  simp only [Fz];rw [show A1 i Ds=A1 i Ds' from h0];simp only [ih]
theorem B6 {β:Type} {i j:Nat} {x:β} {l:List (Nat × β)} (h:i ≠ j):A1 j ((i,x)::l)=A1 j l:=by
 simp only [A1]
 have:Nat.beq i j=false:=by cases e:Nat.beq i j with | false=>rfl | true=>exact absurd (QC e) h
 rw [this];rfl
theorem Bk {β:Type} {i:Nat} {x:β} {l:List (Nat × β)}:A1 i ((i,x)::l)=some x:=by
 simp only [A1,XF];rfl
theorem Yo (hT:Aw P T) {K:Am} {ops:List Oper} {A:List (Nat × OA)} {nt:Nat} (hE:∀ i a,A1 i A=some a->a.S P):∀ (l:List (Nat × Oper)) (s:St3) (k:St3->Option α) (r:α),(l.map (·.1)).Nodup->Ht T K ops A l s k=some r ->
  ∃ s' Ds obs,k s'=some r/\Dd P T K ops Ds l (s.st nt)=some (s'.st nt,obs) /\ ∀ p ∈ obs,p
 | [],s,k,r,_,h=>⟨s,[],[],h,rfl,by simp⟩
 | (i,o)::l,s,k,r,hn,h=>by
  simp only [QW,KC] at hn;simp only [Ht] at h;obtain ⟨s0,fz,ob0,h1,h2,h3,_⟩:=Q2 (nt:=nt) h;obtain ⟨s00,e1,hg⟩:=Ac3 (nt:=nt) h3
  have hEi:((A1 i A).getD {}).S P:=by
   cases hl:A1 i A with
   | none=>exact ⟨(λE h=>by cases h),(λE h=>by cases h),(λE h=>by cases h)⟩
   | some a=>exact hE i a hl
  rcases hg with ⟨g1,g2⟩ | ⟨g1,g2⟩
  . obtain ⟨s1,D,ob1,h4,h5,h6⟩:=B2t (P:=P) (nt:=nt) hT g2 hEi;obtain ⟨s',Ds,ob2,h7,h8,h9⟩:=Yo hT hE l s1 k r hn.2 h6;refine ⟨s',(i,{ D with fz:=fz })::Ds,ob0++(ob1++ob2),h7,?_,λp hp=>?_⟩
    . simp only [Dd,Bk,XR,h1];rw [e1] at h4;simp only [Yl,g1,B2u,h4]
      rw [Io (Ds':=Ds) l _ λp hp=>B6 λe=>hn.1 (by rw [e];exact ZM.2 ⟨p,hp,rfl⟩),h8]
    . rcases QF.1 hp with hp | hp
      . exact h2 p hp
      . rcases QF.1 hp with hp | hp
        . exact h5 p hp
        . exact h9 p hp
  . obtain ⟨s1,h4,h6⟩:=Afv (nt:=nt) g2;obtain ⟨s',Ds,ob2,h7,h8,h9⟩:=Yo hT hE l s1 k r hn.2 h6;refine ⟨s',(i,{ fz:=fz })::Ds,ob0++([]++ob2),h7,?_,λp hp=>?_⟩
    . simp only [Dd,Bk,XR,h1];rw [e1] at h4;simp only [Yl,g1,h4,QQ]
      rw [Io (Ds':=Ds) l _ λp hp=>B6 λe=>hn.1 (by rw [e];exact ZM.2 ⟨p,hp,rfl⟩),h8]
    . rcases QF.1 hp with hp | hp
      . exact h2 p hp
      . exact h9 p (by simpa using hp)
theorem Abw {β:Type} {i:Nat} {d:β} {Ds:List (Nat × β)} {ks:List Nat} (h:∀ j,(A1 j Ds).isSome=true ↔ j ∈ ks):∀ j,(A1 j ((i,d)::Ds)).isSome=true ↔ j ∈ i::ks:=by
 intro j;by_cases e:i=j
 . subst e;rw [Bk];simp
 . rw [B6 e,h j];simp [Ne.symm e]
theorem Vg {β:Type} {j:Nat}:∀ {a b:List (Nat × β)},(A1 j a).isSome=true->A1 j (a++b)=A1 j a
 | [],_,h=>by cases h
 | (i,x)::r,b,h=>by
  by_cases e:i=j
  . subst e;rw [YI,Bk,Bk]
  . rw [B6 e] at h;rw [YI,B6 e,B6 e,Vg h]
theorem Vh {β:Type} {j:Nat}:∀ {a b:List (Nat × β)},A1 j a=none->A1 j (a++b)=A1 j b
 | [],_,_=>rfl
 | (i,x)::r,b,h=>by
  by_cases e:i=j
  . subst e;rw [Bk] at h
    cases h
  . rw [B6 e] at h;rw [YI,B6 e,Vh h]
theorem A8l {K:Am} {ops:List Oper} {A:List (Nat × OA)} {nt:Nat} (hE:∀ i a,A1 i A=some a->a.S P):∀ (l:List (Nat × Oper)) (s:St3) (k:St3->Option α) (r:α),(l.map (·.1)).Nodup->Ag8 T K ops A l s k=some r ->
  ∃ s' Ds obs,k s'=some r/\(∀ xs,∃ ys,Fz P T K ops Ds l xs (s.st nt)=some (ys,s'.st nt,obs))/\(∀ p ∈ obs,p) /\ ∀ j,(A1 j Ds).isSome=true ↔ j ∈ l.map (·.1)
 | [],s,k,r,_,h=>⟨s,[],[],h,λxs=>⟨xs,rfl⟩,by simp,λj=>by simp [A1]⟩
 | (i,o)::l,s,k,r,hn,h=>by
  simp only [QW,KC] at hn;simp only [Ag8] at h
  have hEi:((A1 i A).getD {}).S P:=by
   cases hl:A1 i A with
   | none=>exact ⟨(λE h=>by cases h),(λE h=>by cases h),(λE h=>by cases h)⟩
   | some a=>exact hE i a hl
  obtain ⟨s00,e1,hg⟩:=Ac3 (nt:=nt) h;rcases hg with ⟨g1,g2⟩ | ⟨g1,g2⟩
  . cases hq:OA.quiet T ((A1 i A).getD {}) o s00 with
    | false=>rw [hq] at g2;cases g2
    | true =>
     rw [hq] at g2;simp only [cond] at g2;obtain ⟨t,s1,D,x,ob1,d1,d2,d3,d4,d5,d6⟩:=Av4 (P:=P) (nt:=nt) g2 hq hEi;obtain ⟨s',Ds,ob2,h7,h8,h9,h10⟩:=A8l hE l s1 k r hn.2 d5;refine ⟨s',(i,D)::Ds,ob1++ob2,h7,λxs=>?_,λp hp=>?_,Abw h10⟩
     . obtain ⟨ys,h8⟩:=h8 ((i,t,x)::xs);refine ⟨ys,?_⟩;rw [e1] at d3 d6;simp only [Fz,d1,Bk,XR,Sj,g1,d3,d2,cond]
       rw [<- d6,In (Ds':=Ds) l _ _ λp hp=>B6 λe=>hn.1 (by rw [e];exact ZM.2 ⟨p,hp,rfl⟩),h8]
     . rcases QF.1 hp with hp | hp
       . exact d4 p hp
       . exact h9 p hp
  . cases hd:o.dst with
    | none=>rw [hd] at g2;cases g2
    | some t =>
     rw [hd] at g2;simp only [Option.isSome_some,cond] at g2;obtain ⟨s1,h4,h6⟩:=Afv (nt:=nt) g2;rw [hd] at h4;simp only [St.putD] at h4
     cases hb:Nat.blt t K.N with
     | false=>rw [hb] at h4;cases h4
     | true =>
      rw [hb] at h4;simp only [cond,QD] at h4;obtain ⟨s',Ds,ob2,h7,h8,h9,h10⟩:=A8l hE l s1 k r hn.2 h6
      refine ⟨s',(i,{})::Ds,[]++ob2,h7,λxs=>?_,λp hp=>h9 p (by simpa using hp),Abw h10⟩
      obtain ⟨ys,h8⟩:=h8 ((i,t,.tup [])::xs);refine ⟨ys,?_⟩;rw [e1] at h4;simp only [Fz,hd,Bk,XR,Sj,g1,hb,cond]
      rw [h4,In (Ds':=Ds) l _ _ λp hp=>B6 λe=>hn.1 (by rw [e];exact ZM.2 ⟨p,hp,rfl⟩),h8]
theorem Fg (l:List Oper):((A7 l).map (·.1)).Nodup:=by
 have:(A7 l).map (·.1)=List.range l.length:=by
  apply JD;intro j;simp only [A7,XJ,QK,YZ];by_cases hj:j<l.length
  . simp [hj]
  . simp [hj]
 rw [this];exact Qaq
theorem B8j (hT:Aw P T) (hfol:P.follows .mixedOrders=true) {K:Am} {A:RA} {id:Nat} {ops:Array Oper} {draw:Bool} {s:St3} {nt:Nat} {k:St3->Option α} {r:α}
  (hE:∀ i a,A1 i A.ops=some a->a.S P) (h:B2z P T K A ops draw s k=some r) :
  ∃ s',Code.Den P K (.region id ops draw) (s.st nt) .normal (s'.st nt)/\k s'=some r:=by
 unfold B2z at h
 cases draw with
 | true =>
  simp only [cond] at h
  cases hok:Ed ops A.m with
  | false=>rw [hok] at h;cases h
  | true =>
   rw [hok] at h;obtain ⟨s0,fz,ob0,h1,h2,h3,_⟩:=Q2 (nt:=nt) h;obtain ⟨s1,Ds1,ob1,h4,h5,h6,h6'⟩:=A8l (P:=P) (nt:=nt) hE _ s0 _ _ ((Fg ops.toList).sublist ((List.take_sublist _ _).map _)) h3;obtain ⟨s2,Ds2,ob2,h7,h8,h9⟩:=Yo (P:=P) (nt:=nt) hT hE _ s1 _ _ ((Fg ops.toList).sublist ((List.drop_sublist _ _).map _)) h4;refine ⟨s2,?_,h7⟩;have hnd:=Fg ops.toList
   have e1:∀ p ∈ (A7 ops.toList).take A.m,A1 p.1 (Ds1++Ds2)=A1 p.1 Ds1:=λp hp=>by
    have:=(h6' p.1).2 (ZM.2 ⟨p,hp,rfl⟩);exact Vg this
   have e2:∀ p ∈ (A7 ops.toList).drop A.m,A1 p.1 (Ds1++Ds2)=A1 p.1 Ds2:=λp hp=>by
    refine Vh ?_
    cases hl:A1 p.1 Ds1 with
    | none=>rfl
    | some d =>
     exfalso
     have hm:=(h6' p.1).1 (by rw [hl];rfl)
     have hd:p.1 ∈ ((A7 ops.toList).drop A.m).map (·.1):=ZM.2 ⟨p,hp,rfl⟩;rw [<- JA A.m (A7 ops.toList),YX,List.nodup_append] at hnd;exact hnd.2.2 _ hm _ hd rfl
   obtain ⟨ys,h5⟩:=h5 []
   have:Wd P T K ops A.m (Ds1++Ds2) fz (s.st nt)=some (s2.st nt,(P.follows .mixedOrders=true)::(ob0++(ob1++ob2))):=by
    unfold Wd;rw [hok];simp only [cond,h1];rw [In _ _ _ e1,h5];simp only;rw [Io _ _ e2,h8]
   refine Ag0 hT this λp hp=>?_;rcases QU.1 hp with rfl | hp
   . exact hfol
   . rcases QF.1 hp with hp | hp
     . exact h2 p hp
     . rcases QF.1 hp with hp | hp
       . exact h6 p hp
       . exact h9 p hp
 | false =>
  simp only [cond] at h;obtain ⟨s2,Ds2,ob2,h7,h8,h9⟩:=Yo (P:=P) (nt:=nt) hT hE _ s _ _ (Fg ops.toList) h;refine ⟨s2,?_,h7⟩
  have:Kw P T K ops { ds:=Ds2,drop:=[] } (s.st nt)=some ((s2.st nt).forget [],ob2):=by
   unfold Kw;simp only [h8]
  have:=Ag4 (id:=id) hT this h9
  have e:(s2.st nt).forget []=s2.st nt:=by
   have:Af8 [] (s2.st nt).slots=(s2.st nt).slots:=Qaa.2 λ_ _=>rfl;unfold St.forget;rw [this]
  rw [e] at this;exact this
end Go.Ev
