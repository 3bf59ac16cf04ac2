/- DERIVED. The evaluator over shapes of data: calls, trees, all paths. -/
import Derived.Test.YtcpdoafoahaagaaGreatEc

set_option linter.all false
set_option linter.unusedVariables false
set_option linter.unusedSimpArgs false

/- DERIVED. What is settled, and results, over shapes; templates of states. -/
namespace Go.Ev
open Go
variable {P:Program} {T:Ty}
theorem A9o {bs:List (Nat × B3)} {t:Sh} {v:SV} {g:Bool} {x:t.den} {ks:List Nat} (ht:t.one=true) (h:F0 bs t v=some (g,x,ks)) (hg:g=true) :
  v.cellB=true/\(∃ ob,P5 (A2 · (Ak (B3.box (A5 bs)) bs)) (v.c (A5 bs)) (.i (hd1 (t.cells x)))=some (ob,ks) /\ ∀ p ∈ ob,p) /\ ∀ k ∈ ks,k<1000/\(A2 k bs).isSome=true:=by
 unfold F0 at h;split at h
 . rename_i hh;split at h
   . rename_i t0;split at h
     . rename_i e sh fz xs hl
       cases hk:Nat.blt hh 1000 with
       | false=>rw [hk] at h;cases h
       | true =>
        rw [hk] at h;simp only [cond,QE,QG] at h;obtain ⟨y,hy,rfl,rfl,rfl⟩:=h;obtain ⟨rfl,rfl⟩:=Db hy
        have hle:A5 bs hh=xs.length:=by simp [A5,hl,B3.len]
        refine ⟨rfl,⟨[0+A5 bs hh<=(xs.map λy=>(sh.cells y).map C.i).length,((xs.map λy=>(sh.cells y).map C.i).drop 0).take (A5 bs hh)=(xs.map sh.cells).map (·.map .i)],?_,?_⟩,?_⟩
        . simp only [P5,SV.c,Bl,hl,QR,B3.box,Sh.cells,hd1,XU,ZV,YF,ZJ,cond]
        . simp only [QT,XQ,or_false,forall_eq_or_imp,forall_eq]
          refine ⟨by simp [hle],?_⟩
          rw [ZP,hle,YM (by simp),XB]
          rfl
        . intro k hk';simp only [QO] at hk';subst hk'
          exact ⟨by simpa [ZR] using hk,by rw [hl];rfl⟩
     . cases h
   . cases h
 . rename_i hh off len;split at h
   . rename_i t0;split at h
     . rename_i e sh fz xs hl
       cases hk:Nat.blt hh 1000 with
       | false=>rw [hk] at h;cases h
       | true =>
        rw [hk] at h;simp only [cond,QE,QG] at h;obtain ⟨y,hy,rfl,rfl,rfl⟩:=h;obtain ⟨rfl,rfl⟩:=Db hy;simp only [QP] at hg;refine ⟨rfl,⟨[off+len<=(xs.map λy=>(sh.cells y).map C.i).length,((xs.map λy=>(sh.cells y).map C.i).drop off).take len=(((xs.drop off).take len).map sh.cells).map (·.map .i)],?_,?_⟩,?_⟩
        . simp only [P5,SV.c,Bl,hl,QR,B3.box,Sh.cells,hd1,XU,ZV,YF,ZJ,cond]
        . simp only [QT,XQ,or_false,forall_eq_or_imp,forall_eq]
          refine ⟨by simpa using hg,?_⟩
          rw [XB,JC,KF];rfl
        . intro k hk';simp only [QO] at hk';subst hk'
          exact ⟨by simpa [ZR] using hk,by rw [hl];rfl⟩
     . cases h
   . cases h
 . rename_i cs;split at h
   . rename_i t0
     cases hd:cs.all SV.isD with
     | false=>rw [hd] at h;cases h
     | true =>
      rw [hd] at h;simp only [cond,QE,QG] at h;obtain ⟨y,hy,rfl,rfl,rfl⟩:=h;obtain ⟨_,_,h3,_⟩:=Ct hy
      refine ⟨hd,⟨[C.i (.ref 0 (cs.map SV.i0))=C.i (.ref 0 (t0.cells y))],rfl,by simp [h3 hd]⟩,by simp⟩
   . cases h
 . rename_i h1 h2 h3;rw [ht] at h;simp only [cond,QE,QG] at h;obtain ⟨y,hy,rfl,rfl,rfl⟩:=h;obtain ⟨q1,ob,q2,q3⟩:=Qu (L:=A5 bs) ht hy
   refine ⟨Ok q1,⟨ob,?_,q3⟩,by simp⟩
   have hI:C6 (v.c (A5 bs))=true:=M9 (A67 q1);unfold P5;split
   . rename_i he _;rw [he] at hI;cases hI
   . rw [q2];rfl
def Oc (bs:List (Nat × B3)) (cs:List SV) (ds:List I) (ks:List Nat):Prop :=
 (∃ ob,Ed (A2 · (Ak (B3.box (A5 bs)) bs)) (cs.map (SV.c (A5 bs))) (ds.map .i)=some (ob,ks) /\ ∀ p ∈ ob,p) /\ ∀ k ∈ ks,k<1000/\(A2 k bs).isSome=true
theorem Oc.app {bs:List (Nat × B3)}:∀ {cs cs':List SV} {ds ds':List I} {ks ks':List Nat},Oc bs cs ds ks->Oc bs cs' ds' ks'->Oc bs (cs++cs') (ds++ds') (ks++ks')
 | [],cs',[],ds',ks,ks',h,h'=>by
  obtain ⟨⟨ob,h,_⟩,_⟩:=h;simp only [XV,Ed,QC,QG] at h;obtain ⟨_,rfl⟩:=h;exact h'
 | [],cs',d::ds,ds',_,_,h,_=>by obtain ⟨⟨ob,h,_⟩,_⟩:=h;simp [Ed] at h
 | c::cs,cs',[],ds',_,_,h,_=>by obtain ⟨⟨ob,h,_⟩,_⟩:=h;simp [Ed] at h
 | c::cs,cs',d::ds,ds',ks,ks',h,h'=>by
  obtain ⟨⟨ob,h,ho⟩,hk⟩:=h;simp only [QS,Ed] at h;split at h
  . rename_i p k q l h1 h2;simp only [QC,QG] at h;obtain ⟨rfl,rfl⟩:=h;obtain ⟨⟨ob2,h3,ho2⟩,hk2⟩:=Oc.app (cs:=cs) (ds:=ds) (ks:=l) ⟨⟨q,h2,λx hx=>ho x (QD.2 (.inr hx))⟩,λk hk'=>hk k (QD.2 (.inr hk'))⟩ h';refine ⟨⟨p++ob2,?_,λx hx=>?_⟩,λj hj=>?_⟩
    . simp only [YB,QS,Ed,h1,h3,ZQ]
    . rcases QD.1 hx with hx | hx
      . exact ho x (QD.2 (.inl hx))
      . exact ho2 x hx
    . rw [ZQ] at hj;rcases QD.1 hj with hj | hj
      . exact hk j (QD.2 (.inl hj))
      . exact hk2 j hj
  . cases h
theorem Az3 {bs:List (Nat × B3)}:∀ (t:Sh) (cs:List SV) (g:Bool) (x:t.den) (ks:List Nat) (r:List SV),t.impB bs cs=some (g,x,ks,r)->g=true->∃ pre,cs=pre++r/\Oc bs pre (t.cells x) ks/\pre.all SV.cellB=true:=by
 have cell:∀ (t:Sh) (c:SV) (r q:List SV) (g:Bool) (x:t.den) (ks:List Nat),t.one=true->(F0 bs t c).map (λp=>(p.1,p.2.1,p.2.2,r))=some (g,x,ks,q)->g=true->∃ pre,c::r=pre++q/\Oc bs pre (t.cells x) ks/\pre.all SV.cellB=true:=by
  intro t c r q g x ks ht h hg;simp only [QE,QG] at h;obtain ⟨⟨g',x',k'⟩,h1,rfl,rfl,rfl,rfl⟩:=h;obtain ⟨hc,⟨ob,h2,h3⟩,h4⟩:=A9o ht h1 hg
  refine ⟨[c],rfl,⟨⟨ob++[],?_,by simpa using h3⟩,h4⟩,by simp [hc]⟩
  rw [Qr t x' ht];simp only [QS,XV,Ed,h2,XN]
 intro t
 induction t with
 | pair a b iha ihb =>
  intro cs g x ks r h hg;simp only [Sh.impB] at h;split at h
  . rename_i g1 y k1 q h1;split at h
    . rename_i g2 z k2 q' h2;simp only [QC,QG] at h;obtain ⟨rfl,rfl,rfl,rfl⟩:=h;simp only [QF] at hg;obtain ⟨p1,e1,c1,i1⟩:=iha _ _ _ _ _ h1 hg.1;obtain ⟨p2,e2,c2,i2⟩:=ihb _ _ _ _ _ h2 hg.2
      exact ⟨p1++p2,by rw [e1,e2,ZQ],c1.app c2,by simp [i1,i2]⟩
    . cases h
  . cases h
 | st t ih=>intro cs g x ks r h hg;exact ih _ _ _ _ _ h hg
 | unit =>
  intro cs g x ks r h _;simp only [Sh.impB,QC,QG] at h;obtain ⟨_,_,rfl,rfl⟩:=h
  exact ⟨[],rfl,⟨⟨[],rfl,by simp⟩,by simp⟩,rfl⟩
 | int k=>intro cs g x ks r h hg;cases cs with | nil=>simp [Sh.impB] at h | cons c cs=>exact cell _ _ _ _ _ _ _ rfl h hg
 | bool=>intro cs g x ks r h hg;cases cs with | nil=>simp [Sh.impB] at h | cons c cs=>exact cell _ _ _ _ _ _ _ rfl h hg
 | str=>intro cs g x ks r h hg;cases cs with | nil=>simp [Sh.impB] at h | cons c cs=>exact cell _ _ _ _ _ _ _ rfl h hg
 | nil=>intro cs g x ks r h hg;cases cs with | nil=>simp [Sh.impB] at h | cons c cs=>exact cell _ _ _ _ _ _ _ rfl h hg
 | fn f=>intro cs g x ks r h hg;cases cs with | nil=>simp [Sh.impB] at h | cons c cs=>exact cell _ _ _ _ _ _ _ rfl h hg
 | sl t _=>intro cs g x ks r h hg;cases cs with | nil=>simp [Sh.impB] at h | cons c cs=>exact cell _ _ _ _ _ _ _ rfl h hg
 | ref t _=>intro cs g x ks r h hg;cases cs with | nil=>simp [Sh.impB] at h | cons c cs=>exact cell _ _ _ _ _ _ _ rfl h hg
 | clo f c _=>intro cs g x ks r h hg;cases cs with | nil=>simp [Sh.impB] at h | cons v cs=>exact cell _ _ _ _ _ _ _ rfl h hg
theorem F8 {L:Nat->Nat} {v:SV} (h:v.cellB=true):v.s L = .v (.one (v.c L))/\v.v L = .one (v.c L):=by cases v <;> first | exact ⟨rfl,rfl⟩ | cases h
theorem P4 {bs:List (Nat × B3)} {t:Sh} {v:SV} {g:Bool} {x:t.den} {ks:List Nat} (h:Wz bs t v=some (g,x,ks)) (hg:g=true) :
  v.s (A5 bs) = .v (v.v (A5 bs))/\(∃ ob,Ik (A2 · (Ak (B3.box (A5 bs)) bs)) (v.v (A5 bs)) (t.v x)=some (ob,ks) /\ ∀ p ∈ ob,p) /\ ∀ k ∈ ks,k<1000/\(A2 k bs).isSome=true:=by
 unfold Wz at h
 cases ht:t.one with
 | true =>
  rw [ht] at h;obtain ⟨hc,⟨ob,h1,h2⟩,h3⟩:=A9o ht h hg;obtain ⟨e1,e2⟩:=F8 (L:=A5 bs) hc
  refine ⟨by rw [e1,e2],⟨ob,?_,h2⟩,h3⟩
  simp only [e2,Sh.v,ht,cond,Ik,h1]
 | false =>
  rw [ht] at h;simp only [cond] at h;split at h
  . rename_i cs;split at h
    . rename_i g1 y k1 hi;simp only [QC,QG] at h;obtain ⟨rfl,rfl,rfl⟩:=h;obtain ⟨pre,e,⟨⟨ob,h1,h2⟩,h3⟩,_⟩:=Az3 _ _ _ _ _ _ hi hg;rw [XN] at e;subst e;refine ⟨rfl,⟨ob,?_,h2⟩,h3⟩;simp only [SV.v,Sh.v,ht,cond,Ik,h1]
    . cases h
  . cases h
theorem A2s {bs:List (Nat × B3)} {L:Nat->Nat} {ks:List Nat} (h:∀ k ∈ ks,k<1000/\(A2 k bs).isSome=true):Gx (Ak (B3.box L) bs) ks=true:=by
 unfold Gx;refine QL.2 λk hk=>?_;obtain ⟨h1,h2⟩:=h k hk;rw [Au,KU,h2];simpa [ZR] using h1
theorem R2 {s s':St3} {nt:Nat} {t:Nat} {sh:Sh} {g:Bool} (h:M7 s t sh=some (g,s')) (hg:g=true) :
  ∃ (x':V) (ob:List Prop),Up (s.st nt) t x'=some (s'.st nt,ob) /\ ∀ p ∈ ob,p:=by
 unfold M7 at h;split at h
 . rename_i v hv;split at h
   . rename_i g1 x ks hc;simp only [QC,QG] at h;obtain ⟨rfl,rfl⟩:=h;obtain ⟨h1,⟨ob,h2,h3⟩,h4⟩:=P4 hc hg;refine ⟨sh.v x,ob,?_,h3⟩
     have hl:A2 t (s.st nt).slots=some (.v (v.v (A5 s.boxes))):=by
      simp only [St3.st,Au,hv,QR,h1]
     have h2':Ik (A2 · (s.st nt).boxes) (v.v (A5 s.boxes)) (sh.v x)=some (ob,ks):=h2;have hz:Gx (s.st nt).boxes ks=true:=A2s h4;simp only [Up,hl,h2',hz,cond,QC,QG,and_true];simp only [St3.st];congr 1
     . rw [Ea,<- (Hr (L:=A5 s.boxes) sh x).2,Ek]
     . rw [Ea];exact I4 _ _ _
   . cases h
 . cases h
inductive TS where
 | d (t:Sh)
 | ag (t:Sh)
 | k (v:SV)
 | hs (h:Nat)
@[reducible] def TS.den:TS->Type
 | .d t=>t.den
 | .ag t=>t.den
 | .k _=>Unit
 | .hs _=>Nat × Nat
def TS.enc:(t:TS)->t.den->SV
 | .d t,x=>.d t x
 | .ag t,x=>.agg (t.exp x)
 | .k v,_=>v
 | .hs h,x=>.hs h x.1 x.2
def SV.same:SV->SV->Bool
 | .hw h,.hw h'=>Nat.beq h h'
 | .hp h r c,.hp h' r' c'=>Nat.beq h h'&&Nat.beq r r'&&Nat.beq c c'
 | .dead,_=>true
 | .d t _,.d t' _=>(match t with
  | .nil=>true
  | .fn _=>true
  | _=>false)&&t.eqb t'
 | _,_=>false
def TS.dec:(t:TS)->SV->Option t.den
 | .d t,v=>match v with
  | .rf cs=>match t with
   | .ref t0=>bif cs.all SV.isD then t0.all false cs else none
   | _=>none
  | v=>bif t.one then v.as true t else none
 | .ag t,v=>match v with
  | .agg cs=>t.all true cs
  | _=>none
 | .k c,v=>bif c.same v then some () else none
 | .hs h,v=>match v with
  | .hs h' o l=>bif Nat.beq h h' then some (o,l) else none
  | _=>none
inductive TB where
 | arr (e:TypeId) (t:Sh) (fz:Bool)
 | var (e:TypeId) (hf fz:Bool) (cs:List TS)
 | tree (e:TypeId) (t:Sh) (fz:Bool)
@[reducible] def DL:List TS->Type
 | []=>Unit
 | t::r=>t.den × DL r
def Ih:(l:List TS)->DL l->List SV
 | [],_=>[]
 | t::r,x=>t.enc x.1::Ih r x.2
def A7i:(l:List TS)->List SV->Option (DL l)
 | [],[]=>some ()
 | t::r,v::vs=>match t.dec v,A7i r vs with
  | some x,some xs=>some (x,xs)
  | _,_=>none
 | _,_=>none
@[reducible] def TB.den:TB->Type
 | .arr _ t _=>List t.den
 | .var _ _ _ cs=>DL cs
 | .tree _ t _=>List t.den
def TB.enc:(b:TB)->b.den->B3
 | .arr e t fz,xs=>.arr e t fz xs
 | .var e hf fz cs,xs=>.var e hf fz (Ih cs xs)
 | .tree e t fz,xs=>.tree e t fz xs
def TB.dec:(b:TB)->B3->Option b.den
 | .arr e t fz,b=>match b with
  | .arr e' t' fz' xs=>bif Nat.beq e e'&&(fz==fz') then (Sh.sl t').to (.sl t) xs else none
  | .rep e' fz' n cs=>bif Nat.beq e e'&&(fz==fz') then (t.all true cs).map λx=>List.replicate n x else none
  | _=>none
 | .var e hf fz cs,b=>match b with
  | .var e' hf' fz' vs=>bif Nat.beq e e'&&(hf==hf')&&(fz==fz')&&vs.all SV.cellB then (match A7i cs vs with
   | some x=>bif (Ih cs x).all SV.cellB&&(!hf || (Ih cs x).all SV.imm) then some x else none
   | none=>none) else none
  | _=>none
 | .tree e t fz,b=>match b with
  | .tree e' t' fz' xs=>bif Nat.beq e e'&&(fz==fz') then (Sh.sl t').to (.sl t) xs else none
  | _=>none
@[reducible] def DK (β:Type) (den:β->Type):List (Nat × β)->Type
 | []=>Unit
 | (_,t)::r=>den t × DK β den r
def Af5:(l:List (Nat × TS))->DK TS TS.den l->List (Nat × SV)
 | [],_=>[]
 | (k,t)::r,x=>(k,t.enc x.1)::Af5 r x.2
def A7h:(l:List (Nat × TS))->List (Nat × SV)->Option (DK TS TS.den l)
 | [],[]=>some ()
 | (k,t)::r,(j,v)::vs=>bif Nat.beq k j then (match t.dec v,A7h r vs with
  | some x,some xs=>some (x,xs)
  | _,_=>none) else none
 | _,_=>none
def T9:(l:List (Nat × TB))->DK TB TB.den l->List (Nat × B3)
 | [],_=>[]
 | (k,t)::r,x=>(k,t.enc x.1)::T9 r x.2
def A7j:(l:List (Nat × TB))->List (Nat × B3)->Option (DK TB TB.den l)
 | [],[]=>some ()
 | (k,t)::r,(j,v)::vs=>bif Nat.beq k j then (match t.dec v,A7j r vs with
  | some x,some xs=>some (x,xs)
  | _,_=>none) else none
 | _,_=>none
structure Tm where
 slots:List (Nat × TS)
 boxes:List (Nat × TB):=[]
 drop:List Nat:=[]
 fz:List (Nat × Sh):=[]
@[reducible] def Tm.den (X:Tm):Type:=DK TS TS.den X.slots × DK TB TB.den X.boxes
def Tm.enc (X:Tm) (x:X.den):St3:=⟨Af5 X.slots x.1,T9 X.boxes x.2⟩
def Ra:List (Nat × TS)->List (Nat × SV)->List (Nat × SV)
 | X,sl=>sl.filter λp=>X.any λq=>Nat.beq q.1 p.1
def Aau:List Nat->St3->Option St3
 | [],s=>some s
 | h::r,s=>bif Nat.blt h 1000&&s.clean h then Aau r { s with boxes:=Ij h s.boxes } else none
def Iz:List (Nat × Sh)->St3->Option St3
 | [],s=>some s
 | (t,sh)::r,s=>match A2 t s.slots with
  | some (.d _ _)=>Iz r s
  | _=>match M7 s t sh with
   | some (g,s1)=>bif g then Iz r s1 else none
   | none=>none
def Tm.dec1 (X:Tm) (s:St3):Option X.den :=
 match Aau X.drop { s with slots:=Ra X.slots s.slots } with
 | some s2=>match A7h X.slots s2.slots,A7j X.boxes s2.boxes with
  | some x,some y=>some (x,y)
  | _,_=>none
 | none=>none
def Tm.dec (X:Tm) (s:St3):Option X.den :=
 match Iz X.fz s with
 | some s1=>X.dec1 s1
 | none=>none
end Go.Ev

/- DERIVED. Calls that are handed boxes or hand out boxes, over shapes. -/
namespace Go.Ev
open Go
variable {P:Program} {T:Ty}
inductive CK where
 | im (t:Sh)
 | own (e:TypeId) (t:Sh)
 | ptr (e:TypeId) (t:Sh)
 | back (k:Nat)
 | win (e:TypeId) (t:Sh)
 | tree (e:TypeId) (t:Sh)
 | emp (t:Sh)
@[reducible] def CK.den:CK->Type
 | .im t=>t.den
 | .own _ t=>List t.den
 | .ptr _ t=>t.den
 | .back _=>Unit
 | .win _ t=>List t.den × Nat × Nat
 | .tree _ t=>List t.den
 | .emp _=>Unit
@[reducible] def DC:List CK->Type
 | []=>Unit
 | [c]=>c.den
 | c::d::r=>c.den × DC (d::r)
inductive PK where
 | im (t:Sh)
 | one (c:CK)
 | mix (cs:List CK)
@[reducible] def PK.den:PK->Type
 | .im t=>t.den
 | .one c=>c.den
 | .mix cs=>DC cs
@[reducible] def HP:List PK->Type
 | []=>Unit
 | [p]=>p.den
 | p::q::r=>p.den × HP (q::r)
def CK.sv (k:Nat):(c:CK)->c.den->SV
 | .im t,x=>.d t x
 | .own _ _,_=>.hw k
 | .ptr _ _,_=>.hp k 0 0
 | .back j,_=>.hw j
 | .win _ _,x=>.hs k x.2.1 x.2.2
 | .tree _ _,_=>.hw k
 | .emp t,_=>.d (.sl t) []
def CK.bx (k:Nat):(c:CK)->c.den->List (Nat × B3)
 | .own e t,xs=>[(k,.arr e t false xs)]
 | .ptr e t,x=>[(k,.var e true false (t.exp x))]
 | .win e t,x=>[(k,.arr e t false x.1)]
 | .tree e t,xs=>[(k,.tree e t false xs)]
 | _,_=>[]
def Ul (k:Nat):(cs:List CK)->DC cs->List SV
 | [],_=>[]
 | [c],x=>[c.sv k x]
 | c::d::r,x=>c.sv k x.1::Ul (k+1) (d::r) x.2
def L9 (k:Nat):(cs:List CK)->DC cs->List (Nat × B3)
 | [],_=>[]
 | [c],x=>c.bx k x
 | c::d::r,x=>c.bx k x.1++L9 (k+1) (d::r) x.2
def PK.n:PK->Nat
 | .mix cs=>cs.length
 | _=>1
def PK.isIm:PK->Bool
 | .im _=>true
 | _=>false
def PK.sv (k:Nat):(p:PK)->p.den->SV
 | .im t,x=>t.sv x
 | .one c,x=>c.sv k x
 | .mix cs,x=>.agg (Ul k cs x)
def PK.bx (k:Nat):(p:PK)->p.den->List (Nat × B3)
 | .im _,_=>[]
 | .one c,x=>c.bx k x
 | .mix cs,x=>L9 k cs x
def Br (k:Nat):(ps:List PK)->HP ps->List SV
 | [],_=>[]
 | [p],x=>[p.sv k x]
 | p::q::r,x=>p.sv k x.1::Br (k+p.n) (q::r) x.2
def Ci (k:Nat):(ps:List PK)->HP ps->List (Nat × B3)
 | [],_=>[]
 | [p],x=>p.bx k x
 | p::q::r,x=>p.bx k x.1++Ci (k+p.n) (q::r) x.2
def CK.owns (k:Nat):CK->List (Nat × CK)
 | .own e t=>[(k,.own e t)]
 | .ptr e t=>[(k,.ptr e t)]
 | .win e t=>[(k,.own e t)]
 | .tree e t=>[(k,.tree e t)]
 | _=>[]
def Akk (k:Nat):List CK->List (Nat × CK)
 | []=>[]
 | c::r=>c.owns k++Akk (k+1) r
def PK.owns (k:Nat):PK->List (Nat × CK)
 | .im _=>[]
 | .one c=>c.owns k
 | .mix cs=>Akk k cs
def Ao (k:Nat):List PK->List (Nat × CK)
 | []=>[]
 | p::r=>p.owns k++Ao (k+p.n) r
@[reducible] def DO:List (Nat × CK)->Type
 | []=>Unit
 | [p]=>p.2.den
 | p::q::r=>p.2.den × DO (q::r)
def bxO:(os:List (Nat × CK))->DO os->List (Nat × B3)
 | [],_=>[]
 | [p],x=>p.2.bx p.1 x
 | p::q::r,x=>p.2.bx p.1 x.1++bxO (q::r) x.2
@[reducible] def HR (rs:List PK):List (Nat × CK)->Type
 | []=>HP rs
 | p::r=>HP rs × DO (p::r)
def Lk {rs:List PK}:{os:List (Nat × CK)}->HR rs os->HP rs
 | [],y=>y
 | _::_,y=>y.1
def Axl {rs:List PK}:{os:List (Nat × CK)}->HR rs os->DO os
 | [],_=>()
 | _::_,y=>y.2
structure Iw where
 f:Nat
 ts:List PK
 rs:List PK
def J6 (E:Iw) (x:HP E.ts):List (Nat × B3):=Ci 1000 E.ts x
def B6 (E:Iw) (y:HR E.rs (Ao 1000 E.ts)):List (Nat × B3):=Ci 0 E.rs (Lk y)++bxO (Ao 1000 E.ts) (Axl y)
def Bs (bs:List (Nat × B3)):List (Nat × Box):=Ak (B3.box (A5 bs)) bs
def Iw.Den (P:Program) (E:Iw) (nt:Nat) (x:HP E.ts) (y:HR E.rs (Ao 1000 E.ts)):Prop :=
 Iv P E.f nt [] (Bs (J6 E x)) ((Br 1000 E.ts x).map (SV.v (A5 (J6 E x)))) ((Ge (Br 0 E.rs (Lk y))).s (A5 (B6 E y))) nt (Bs (B6 E y))
@[reducible] def HF (os:List (Nat × CK)):List (List PK)->Type
 | []=>Unit
 | [rs]=>HR rs os
 | rs::r::q=>HR rs os ⊕ HF os (r::q)
def B79 {A B α:Type} (z:A ⊕ B) (f:A->Option α) (g:B->Option α):Option α:=match z with
 | .inl a=>f a
 | .inr b=>g b
def Il {α:Type} (os:List (Nat × CK)):(fs:List (List PK))->HF os fs->((rs:List PK)->HR rs os->Option α)->Option α
 | [],_,_=>none
 | [rs],y,k=>k rs y
 | rs::r::q,z,k=>B79 z (λy=>k rs y) (λz=>Il os (r::q) z k)
def A7u (os:List (Nat × CK)):(fs:List (List PK))->HF os fs->((rs:List PK)->HR rs os->Prop)->Prop
 | [],_,_=>True
 | [rs],y,k=>k rs y
 | rs::_::_,.inl y,k=>k rs y
 | _::r::q,.inr z,k=>A7u os (r::q) z k
theorem Lz {α:Type} {os:List (Nat × CK)} {p:(rs:List PK)->HR rs os->Prop}:∀ {fs:List (List PK)} {z:HF os fs} {k:(rs:List PK)->HR rs os->Option α} {r:α},Il os fs z k=some r->A7u os fs z p->∃ rs y,k rs y=some r/\p rs y
 | [],_,_,_,h,_=>by cases h
 | [rs],y,k,r,h,hp=>⟨rs,y,h,hp⟩
 | rs::_::_,.inl y,k,r,h,hp=>⟨rs,y,h,hp⟩
 | _::r::q,.inr z,k,_,h,hp=>Lz (fs:=r::q) h hp
structure Ent3 where
 f:Nat
 ts:List PK
 forms:List (List PK)
 m:HP ts->Option (HF (Ao 1000 ts) forms)
def Ent3.Sound (P:Program) (E:Ent3):Prop:=∀ (nt:Nat) (x:HP E.ts) (z:HF (Ao 1000 E.ts) E.forms),E.m x=some z->A7u (Ao 1000 E.ts) E.forms z λrs y=>Iw.Den P ⟨E.f,E.ts,rs⟩ nt x y
def I3 (rn:List (Nat × Nat)) (k:Nat):Nat:=match A2 k rn with
 | some h=>h
 | none=>0
def Io:List (Nat × Nat)->Nat->Option Nat
 | [],_=>none
 | (k,h')::r,h=>bif Nat.beq h' h then some k else Io r h
def E9:List (Nat × Nat)->Bool
 | []=>true
 | (k,h)::r=>r.all (λp=>!Nat.beq p.1 k && !Nat.beq p.2 h)&&E9 r
def By {β:Type}:List (Nat × β)->List (Nat × Nat)->Bool
 | [],[]=>true
 | (k,_)::B,(k',_)::R=>Nat.beq k k'&&By B R
 | _,_=>false
def V8:List (Nat × B3)->List (Nat × Nat)->List (Nat × B3)->List (Nat × B3)
 | (_,b)::B,(_,h)::R,bs=>B0 h b (V8 B R bs)
 | _,_,bs=>bs
theorem Afo {a b:Nat} (h:Nat.beq a b=false):a ≠ b:=λe=>by subst e;simp at h
theorem A3e {a b:Nat} (h:a ≠ b):Nat.beq a b=false:=by cases hb:Nat.beq a b with | false=>rfl | true=>exact absurd (QB hb) h
theorem Jz {k h:Nat} {r:List (Nat × Nat)} (hg:E9 ((k,h)::r)=true):(∀ p ∈ r,p.1 ≠ k/\p.2 ≠ h)/\E9 r=true:=by
 simp only [E9,QF,QL,ZU] at hg;exact ⟨λp hp=>⟨Afo (hg.1 p hp).1,Afo (hg.1 p hp).2⟩,hg.2⟩
theorem De {β:Type}:∀ {rn:List (Nat × β)} {k:Nat} {h:β},A2 k rn=some h->(k,h) ∈ rn
 | [],_,_,e=>by cases e
 | (k',h')::r,k,h,e=>by
  simp only [A2] at e
  cases hb:Nat.beq k' k with
  | true=>rw [hb] at e;obtain rfl:=QA e;rw [QB hb];exact XY
  | false=>rw [hb] at e;exact ZM _ (De e)
theorem Yo:∀ {rn:List (Nat × Nat)} {k h:Nat},Io rn h=some k->(k,h) ∈ rn
 | [],_,_,e=>by cases e
 | (k',h')::r,k,h,e=>by
  simp only [Io] at e
  cases hb:Nat.beq h' h with
  | true=>rw [hb] at e;obtain rfl:=QA e;rw [QB hb];exact XY
  | false=>rw [hb] at e;exact ZM _ (Yo e)
theorem Mv:∀ {rn:List (Nat × Nat)} {k h:Nat},E9 rn=true->(k,h) ∈ rn->A2 k rn=some h/\Io rn h=some k
 | [],_,_,_,e=>by cases e
 | (k',h')::r,k,h,hg,e=>by
  obtain ⟨h1,h2⟩:=Jz hg;simp only [A2,Io];rcases QT.1 e with e | e
  . obtain ⟨rfl,rfl⟩:=KN e;simp only [XU,cond];exact ⟨trivial,trivial⟩
  . obtain ⟨e1,e2⟩:=Mv h2 e;rw [A3e (h1 _ e).1.symm,A3e (h1 _ e).2.symm];exact ⟨e1,e2⟩
theorem Ej {β:Type}:∀ {B:List (Nat × β)} {R:List (Nat × Nat)},By B R=true->∀ k,(A2 k B).isSome=(A2 k R).isSome
 | [],[],_,_=>rfl
 | (k1,b)::B,(k2,h)::R,e,k=>by
  simp only [By,QF] at e;obtain rfl:=QB e.1;simp only [A2]
  cases Nat.beq k1 k with
  | true=>rfl
  | false=>exact Ej e.2 k
 | [],_::_,e,_=>by simp [By] at e
 | _::_,[],e,_=>by simp [By] at e
theorem V1 {β:Type}:∀ {B:List (Nat × β)} {R:List (Nat × Nat)} {k:Nat} {b:β},By B R=true->E9 R=true->(k,b) ∈ B->A2 k B=some b
 | [],_,_,_,_,_,e=>by cases e
 | (k1,b1)::B,(k2,h)::R,k,b,hs,hg,e=>by
  simp only [By,QF] at hs;obtain rfl:=QB hs.1;obtain ⟨h1,h2⟩:=Jz hg;simp only [A2];rcases QT.1 e with e | e
  . obtain ⟨rfl,rfl⟩:=KN e;simp only [XU,cond]
  . have:=V1 hs.2 h2 e
    have hk:(A2 k R).isSome=true:=by rw [<- Ej hs.2 k,this];rfl
    obtain ⟨h',hh⟩:=QY.1 hk;rw [A3e (h1 _ (De hh)).1.symm];exact this
 | _::_,[],_,_,hs,_,_=>by simp [By] at hs
theorem Zh:∀ {B:List (Nat × B3)} {R:List (Nat × Nat)} {bs:List (Nat × B3)},By B R=true->E9 R=true->∀ h,A2 h (V8 B R bs)=match Io R h with | some k=>A2 k B | none=>A2 h bs
 | [],[],_,_,_,h=>rfl
 | (k1,b)::B,(k2,h2)::R,bs,hs,hg,h=>by
  simp only [By,QF] at hs;obtain rfl:=QB hs.1;obtain ⟨g1,g2⟩:=Jz hg;simp only [V8,Io]
  cases hb:Nat.beq h2 h with
  | true =>
   obtain rfl:=QB hb;simp only [cond,Ax,A2,XU]
  | false =>
   simp only [cond];rw [Aw _ _ (Afo hb).symm,Zh hs.2 g2 h]
   cases hw:Io R h with
   | none=>rfl
   | some k =>
    simp only [A2];rw [A3e (g1 _ (Yo hw)).1.symm];rfl
 | [],_::_,_,e,_,_=>by simp [By] at e
 | _::_,[],_,e,_,_=>by simp [By] at e
def Qt (bs:List (Nat × B3)) (k:Nat):(c:CK)->SV->Option (c.den × List (Nat × Nat))
 | .im t,v=>bif t.one then (v.as true t).map λx=>(x,[]) else none
 | .own e t,.hw h=>match A2 h bs with
  | some (.arr e' sh false xs)=>bif Nat.beq e e' then ((Sh.sl sh).to (.sl t) xs).map λx=>(x,[(k,h)]) else none
  | _=>none
 | .ptr e t,.hp h 0 0=>match A2 h bs with
  | some (.var e' true false cs)=>bif Nat.beq e e'&&cs.all SV.isD then (t.all false cs).map λx=>(x,[(k,h)]) else none
  | _=>none
 | .tree e t,.hw h=>match A2 h bs with
  | some (.tree e' sh false xs)=>bif Nat.beq e e' then ((Sh.sl sh).to (.sl t) xs).map λx=>(x,[(k,h)]) else none
  | _=>none
 | .win e t,.hs h off len=>match A2 h bs with
  | some (.arr e' sh false xs)=>bif Nat.beq e e' then ((Sh.sl sh).to (.sl t) xs).map λx=>((x,off,len),[(k,h)]) else none
  | _=>none
 | _,_=>none
def Fp (bs:List (Nat × B3)) (k:Nat):(cs:List CK)->List SV->Option (DC cs × List (Nat × Nat))
 | [],[]=>some ((),[])
 | [c],[v]=>Qt bs k c v
 | c::d::r,v::vs=>match Qt bs k c v,Fp bs (k+1) (d::r) vs with
  | some (x,q),some (y,q')=>some ((x,y),q++q')
  | _,_=>none
 | _,_=>none
def A7l (bs:List (Nat × B3)) (k:Nat):(p:PK)->SV->Option (Bool × p.den × List Nat × List (Nat × Nat))
 | .im t,v=>(A2z bs t v).map λq=>(q.1,q.2.1,q.2.2,[])
 | .one c,v=>(Qt bs k c v).map λq=>(true,q.1,[],q.2)
 | .mix cs,.agg vs=>(Fp bs k cs vs).map λq=>(true,q.1,[],q.2)
 | _,_=>none
def M2 (bs:List (Nat × B3)) (k:Nat):(ps:List PK)->List SV->Option (Bool × HP ps × List Nat × List (Nat × Nat))
 | [],[]=>some (true,(),[],[])
 | [p],[v]=>A7l bs k p v
 | p::q::r,v::vs=>match A7l bs k p v,M2 bs (k+p.n) (q::r) vs with
  | some (g,x,l,n),some (g',y,l',n')=>some (g&&g',(x,y),l++l',n++n')
  | _,_=>none
 | _,_=>none
def Ft (bs B:List (Nat × B3)) (q:List (Nat × Nat)):Prop :=
 ∀ k b,(k,b) ∈ B->∃ h b',(k,h) ∈ q/\A2 h bs=some b'/\b'.len=b.len/\(∀ L L',b'.box L=b.box L') /\ ∀ L,(b.box L).fz=false/\(b.box L).hf=true
theorem Ft.app {bs B B':List (Nat × B3)} {q q':List (Nat × Nat)} (h:Ft bs B q) (h':Ft bs B' q'):Ft bs (B++B') (q++q'):=by
 intro k b hb;rcases QD.1 hb with hb | hb
 . obtain ⟨x,y,h1,h2⟩:=h k b hb;exact ⟨x,y,QD.2 (.inl h1),h2⟩
 . obtain ⟨x,y,h1,h2⟩:=h' k b hb;exact ⟨x,y,QD.2 (.inr h1),h2⟩
theorem Ti {bs:List (Nat × B3)} {hd:Nat->Nat->Bool} {L:Nat->Nat} {k:Nat} {c:CK} {v:SV} {x:c.den} {q:List (Nat × Nat)} (h:Qt bs k c v=some (x,q))
  (hq:∀ p ∈ q,hd p.1 p.2=true) (hL:∀ k' b,(k',b) ∈ c.bx k x->L k'=b.len) :
  v.cellB=true/\(∃ ob,Pl hd (A2 · (Ak (B3.box (A5 bs)) bs)) (v.c (A5 bs)) ((c.sv k x).c L)=some (ob,[]) /\ ∀ p ∈ ob,p)/\(c.sv k x).cellB=true/\Ft bs (c.bx k x) q:=by
 unfold Qt at h;split at h
 . rename_i t
   cases ht:t.one with
   | false=>rw [ht] at h;cases h
   | true =>
    rw [ht] at h;simp only [cond,QE,QG] at h;obtain ⟨y,hy,rfl,rfl⟩:=h;obtain ⟨q1,ob,q2,q3⟩:=Qu (L:=A5 bs) ht hy
    refine ⟨Ok q1,⟨ob,?_,q3⟩,ht,λk b hb=>by cases hb⟩
    have hc:=Axr (L:=A5 bs) q1;rw [hc] at q2 ⊢;simp only [CK.sv,SV.c,Pl,G7,V.noH,C6,ZJ,cond,Zz,q2,QR]
 . rename_i e t hh;split at h
   . rename_i e' sh xs hl
     cases he:Nat.beq e e' with
     | false=>rw [he] at h;cases h
     | true =>
      rw [he] at h;simp only [cond,QE,QG] at h;obtain ⟨y,hy,rfl,rfl⟩:=h;obtain ⟨rfl,rfl⟩:=Db hy;obtain rfl:=QB he
      have hle:A5 bs hh=xs.length:=by simp [A5,hl,B3.len]
      have hk:L k=xs.length:=hL k (.arr e sh false xs) (by simp [CK.bx])
      refine ⟨rfl,⟨[0=0,A5 bs hh=L k],?_,by simp [hle,hk]⟩,rfl,λk' b hb=>?_⟩
      . simp only [CK.sv,SV.c,Pl,hq (k,hh) (by simp),cond]
      . simp only [CK.bx,QO,QG] at hb;obtain ⟨rfl,rfl⟩:=hb
        exact ⟨hh,_,by simp,hl,rfl,λ_ _=>rfl,λ_=>⟨rfl,rfl⟩⟩
   . cases h
 . rename_i e t hh;split at h
   . rename_i e' cs hl
     cases he:(Nat.beq e e'&&cs.all SV.isD) with
     | false=>rw [he] at h;cases h
     | true =>
      rw [he] at h;simp only [cond,QE,QG] at h;obtain ⟨y,hy,rfl,rfl⟩:=h;simp only [QF] at he;obtain rfl:=QB he.1;obtain ⟨a1,_,_,a4⟩:=Ct hy
      refine ⟨rfl,⟨[0=0,0=0],?_,by simp⟩,rfl,λk' b hb=>?_⟩
      . simp only [CK.sv,SV.c,Pl,hq (k,hh) (by simp),cond]
      . simp only [CK.bx,QO,QG] at hb;obtain ⟨rfl,rfl⟩:=hb
        refine ⟨hh,_,by simp,hl,rfl,λL1 L2=>?_,λ_=>⟨rfl,rfl⟩⟩
        simp only [B3.box,a1,Lw,A7d,a4]
   . cases h
 . rename_i e t hh;split at h
   . rename_i e' sh xs hl
     cases he:Nat.beq e e' with
     | false=>rw [he] at h;cases h
     | true =>
      rw [he] at h;simp only [cond,QE,QG] at h;obtain ⟨y,hy,rfl,rfl⟩:=h;obtain ⟨rfl,rfl⟩:=Db hy;obtain rfl:=QB he
      have hle:A5 bs hh=xs.length:=by simp [A5,hl,B3.len]
      have hk:L k=xs.length:=hL k (.tree e sh false xs) (by simp [CK.bx])
      refine ⟨rfl,⟨[0=0,A5 bs hh=L k],?_,by simp [hle,hk]⟩,rfl,λk' b hb=>?_⟩
      . simp only [CK.sv,SV.c,Pl,hq (k,hh) (by simp),cond]
      . simp only [CK.bx,QO,QG] at hb;obtain ⟨rfl,rfl⟩:=hb
        exact ⟨hh,_,by simp,hl,rfl,λ_ _=>rfl,λ_=>⟨rfl,rfl⟩⟩
   . cases h
 . rename_i e t hh off len;split at h
   . rename_i e' sh xs hl
     cases he:Nat.beq e e' with
     | false=>rw [he] at h;cases h
     | true =>
      rw [he] at h;simp only [cond,QE,QG] at h;obtain ⟨y,hy,rfl,rfl⟩:=h;obtain ⟨rfl,rfl⟩:=Db hy;obtain rfl:=QB he
      refine ⟨rfl,⟨[off=off,len=len],?_,by simp⟩,rfl,λk' b hb=>?_⟩
      . simp only [CK.sv,SV.c,Pl,hq (k,hh) (by simp),cond]
      . simp only [CK.bx,QO,QG] at hb;obtain ⟨rfl,rfl⟩:=hb
        exact ⟨hh,_,by simp,hl,rfl,λ_ _=>rfl,λ_=>⟨rfl,rfl⟩⟩
   . cases h
 . cases h
theorem Zp {bs:List (Nat × B3)} {hd:Nat->Nat->Bool} {L:Nat->Nat}:∀ {cs:List CK} {k:Nat} {vs:List SV} {x:DC cs} {q:List (Nat × Nat)},Fp bs k cs vs=some (x,q) ->
  (∀ p ∈ q,hd p.1 p.2=true)->(∀ k' b,(k',b) ∈ L9 k cs x->L k'=b.len) ->
  (∃ ob,M3 hd (A2 · (Ak (B3.box (A5 bs)) bs)) (vs.map (SV.c (A5 bs))) ((Ul k cs x).map (SV.c L))=some (ob,[]) /\ ∀ p ∈ ob,p)/\Ft bs (L9 k cs x) q
 | [],k,[],x,q,h,_,_=>⟨⟨[],rfl,by simp⟩,λk b hb=>by cases hb⟩
 | [],k,_::_,_,_,h,_,_=>by simp [Fp] at h
 | [c],k,[],_,_,h,_,_=>by simp [Fp] at h
 | [c],k,[v],x,q,h,hq,hL=>by
  obtain ⟨_,⟨ob,h1,h2⟩,_,h3⟩:=Ti (hd:=hd) (L:=L) (x:=x) h hq hL
  refine ⟨⟨ob++[],?_,by simpa using h2⟩,h3⟩
  simp only [Ul,QS,XV,M3,h1,XN]
 | [c],k,v::w::r,_,_,h,_,_=>by simp [Fp] at h
 | c::d::r,k,[],_,_,h,_,_=>by simp [Fp] at h
 | c::d::r,k,v::vs,x,q,h,hq,hL=>by
  simp only [Fp] at h;split at h
  . rename_i x1 q1 y1 q2 h1 h2;simp only [QC,QG] at h;obtain ⟨rfl,rfl⟩:=h
    obtain ⟨_,⟨ob,a1,a2⟩,_,a3⟩:=Ti (hd:=hd) (L:=L) h1 (λp hp=>hq p (QD.2 (.inl hp))) (λk' b hb=>hL k' b (by simp only [L9];exact QD.2 (.inl hb)))
    obtain ⟨⟨ob',b1,b2⟩,b3⟩:=Zp (hd:=hd) (L:=L) h2 (λp hp=>hq p (QD.2 (.inr hp))) (λk' b hb=>hL k' b (by simp only [L9];exact QD.2 (.inr hb)))
    refine ⟨⟨ob++ob',?_,λp hp=>(QD.1 hp).elim (a2 p) (b2 p)⟩,a3.app b3⟩;simp only [Ul,QS,M3,a1,b1,XN]
  . cases h
theorem Ak2 {bs:List (Nat × B3)} {hd:Nat->Nat->Bool} {L:Nat->Nat} {k:Nat} {p:PK} {v:SV} {g:Bool} {x:p.den} {bor:List Nat} {q:List (Nat × Nat)} (h:A7l bs k p v=some (g,x,bor,q)) (hg:g=true)
  (hq:∀ p ∈ q,hd p.1 p.2=true) (hL:∀ k' b,(k',b) ∈ p.bx k x->L k'=b.len) :
  (∃ ob,A2y hd (A2 · (Ak (B3.box (A5 bs)) bs)) p.isIm (v.s (A5 bs)) ((p.sv k x).v L)=some (ob,bor) /\ ∀ p ∈ ob,p)/\(∀ k ∈ bor,∃ b,A2 k (Ak (B3.box (A5 bs)) bs)=some b/\b.fz=false)/\Ft bs (p.bx k x) q/\v.alive=true:=by
 cases p with
 | im t =>
  simp only [A7l,QE,QG] at h;obtain ⟨⟨g',y,b⟩,h1,rfl,rfl,rfl,rfl⟩:=h;obtain ⟨ob,a1,a2,a3⟩:=A7m h1 hg
  refine ⟨⟨ob,?_,a2⟩,a3,(λk b hb=>by cases hb),Tq h1⟩
  simp only [A2y,PK.isIm,cond,PK.sv,(Hr t y).1];exact a1
 | one c =>
  simp only [A7l,QE,QG] at h;obtain ⟨⟨y,b⟩,h1,rfl,rfl,rfl,rfl⟩:=h;obtain ⟨c1,⟨ob,a1,a2⟩,c2,a3⟩:=Ti (hd:=hd) (L:=L) h1 hq hL
  refine ⟨⟨ob,?_,a2⟩,by simp,a3,B9 λe=>by subst e;cases c1⟩
  simp only [A2y,PK.isIm,cond,PK.sv,(F8 c1).1,(F8 c2).2];exact a1
 | mix cs =>
  cases v with
  | agg vs =>
   simp only [A7l] at h;simp only [QE,QG] at h;obtain ⟨⟨y,b⟩,h1,rfl,rfl,rfl,rfl⟩:=h;obtain ⟨⟨ob,a1,a2⟩,a3⟩:=Zp (hd:=hd) (L:=L) h1 hq hL
   refine ⟨⟨ob,?_,a2⟩,by simp,a3,rfl⟩
   simp only [A2y,PK.isIm,cond,PK.sv,SV.s,SV.v];exact a1
  | _=>cases h
theorem Afr {bs:List (Nat × B3)} {hd:Nat->Nat->Bool} {L:Nat->Nat}:∀ {ps:List PK} {k:Nat} {vs:List SV} {g:Bool} {x:HP ps} {bor:List Nat} {q:List (Nat × Nat)},M2 bs k ps vs=some (g,x,bor,q)->g=true ->
  (∀ p ∈ q,hd p.1 p.2=true)->(∀ k' b,(k',b) ∈ Ci k ps x->L k'=b.len) ->
  (∃ ob,Gz hd (A2 · (Ak (B3.box (A5 bs)) bs)) (ps.map PK.isIm) (vs.map (SV.s (A5 bs))) ((Br k ps x).map (SV.v L))=some (ob,bor) /\ ∀ p ∈ ob,p)/\(∀ k ∈ bor,∃ b,A2 k (Ak (B3.box (A5 bs)) bs)=some b/\b.fz=false)/\Ft bs (Ci k ps x) q /\ ∀ v ∈ vs,v.alive=true
 | [],k,[],g,x,bor,q,h,_,_,_=>by
  simp only [M2,QC,QG] at h;obtain ⟨_,_,rfl,rfl⟩:=h
  exact ⟨⟨[],rfl,by simp⟩,by simp,(λk b hb=>by cases hb),by simp⟩
 | [],k,_::_,_,_,_,_,h,_,_,_=>by simp [M2] at h
 | [p],k,[],_,_,_,_,h,_,_,_=>by simp [M2] at h
 | [p],k,[v],g,x,bor,q,h,hg,hq,hL=>by
  obtain ⟨⟨ob,h1,h2⟩,h3,h4,h5⟩:=Ak2 (hd:=hd) (L:=L) (x:=x) h hg hq hL
  refine ⟨⟨ob++[],?_,by simpa using h2⟩,h3,h4,by simpa using h5⟩
  simp only [Br,QS,XV,Gz,h1,XN]
 | [p],k,v::w::r,_,_,_,_,h,_,_,_=>by simp [M2] at h
 | p::p2::r,k,[],_,_,_,_,h,_,_,_=>by simp [M2] at h
 | p::p2::r,k,v::vs,g,x,bor,q,h,hg,hq,hL=>by
  simp only [M2] at h;split at h
  . rename_i g1 x1 l1 q1 g2 y1 l2 q2 h1 h2;simp only [QC,QG] at h;obtain ⟨rfl,rfl,rfl,rfl⟩:=h;simp only [QF] at hg
    obtain ⟨⟨ob,a1,a2⟩,a3,a4,a5⟩:=Ak2 (hd:=hd) (L:=L) h1 hg.1 (λp hp=>hq p (QD.2 (.inl hp))) (λk' b hb=>hL k' b (by simp only [Ci];exact QD.2 (.inl hb)))
    obtain ⟨⟨ob',b1,b2⟩,b3,b4,b5⟩:=Afr (hd:=hd) (L:=L) h2 hg.2 (λp hp=>hq p (QD.2 (.inr hp))) (λk' b hb=>hL k' b (by simp only [Ci];exact QD.2 (.inr hb)))
    refine ⟨⟨ob++ob',?_,λp hp=>(QD.1 hp).elim (a2 p) (b2 p)⟩,λj hj=>(QD.1 hj).elim (a3 j) (b3 j),a4.app b4,by simpa using ⟨a5,b5⟩⟩
    simp only [QS] at b1;simp only [Br,QS,Gz,a1,b1]
  . cases h
end Go.Ev

/- DERIVED. A state that a template takes may be read as the template's. -/
namespace Go.Ev
open Go
variable {P:Program} {T:Ty}
def G8 (x x':S):Prop:=∀ (w:World) (E:Env) (v:Value),Rs w E v x->Rs w E v x'
def Es (c c':C):Prop:=∀ (w:World) (E:Env) (v:Value),Rc w E v c->Rc w E v c'
structure Ani (b b':Box):Prop where
 e:b'.e=b.e
 sz:b'.sz=b.sz
 fz:b'.fz=b.fz
 tr:b'.tr=b.tr
 trr:b'.tr=true->b'.rows=b.rows
 len:b'.rows.length=b.rows.length
 rows:∀ (i:Nat) (r':List C),b'.rows[i]? = some r'->∃ r,b.rows[i]? = some r/\r'.length=r.length /\ ∀ (j:Nat) (c':C),r'[j]? = some c'->∃ c,r[j]? = some c/\Es c c'
 hf:b'.hf=true->∀ (i:Nat) (r:List C) (j:Nat) (c:C),b'.rows[i]? = some r->r[j]? = some c->∃ x,c = .i x
theorem C2.sub {w:World} {E:Env} {b b':Box} {g cap:Nat} (h:C2 w E b g cap) (hb:Ani b b'):C2 w E b' g cap:=by
 obtain ⟨arr,a1,a2,a3,a4,a5,a6,a7,a8,a9⟩:=h
 refine ⟨arr,by rw [hb.e];exact a1,by rw [hb.sz];exact a2,by rw [hb.len];exact a3,a4,λi r hi=>?_,λi r j c hi hj=>?_,λhf i r j c hi hj=>hb.hf hf i r j c hi hj,λhf=>a8 (by rw [<- hb.fz];exact hf),a9⟩
 . obtain ⟨r0,h1,h2,_⟩:=hb.rows i r hi;rw [h2,hb.sz];exact a5 i r0 h1
 . obtain ⟨r0,h1,_,h3⟩:=hb.rows i r hi;obtain ⟨c0,h4,h5⟩:=h3 j c hj;obtain ⟨v,h6,h7⟩:=a6 i r0 j c0 h1 h4
   exact ⟨v,by rw [hb.sz];exact h6,h5 _ _ _ h7⟩
theorem A8.sub {Γ:Ctx} {w:World} {E:Env} {s s':St} {tmps:Array Value} (hs:A8 Γ w E s tmps) (hnt:s'.nt=s.nt)
  (h1:∀ t x',A2 t s'.slots=some x'->∃ x,A2 t s.slots=some x/\G8 x x')
  (h2:∀ h b',A2 h s'.boxes=some b'->∃ b,A2 h s.boxes=some b/\Ani b b')
  (h3:∀ h b,A2 h s.boxes=some b->(A2 h s'.boxes).isSome=true):A8 Γ w E s' tmps where
 fr:=hs.fr
 held:=hs.held
 tow:=hs.tow
 wf:=by rw [hnt];exact hs.wf
 old:=hs.old
 nt:=by rw [hnt];exact hs.nt
 tag:=hs.tag
 new:=hs.new
 boxes:=λh b' hb'=>by
  obtain ⟨b,hb,hsub⟩:=h2 h b' hb';obtain ⟨g,cap,hβ,hat,hω,hS⟩:=hs.boxes h b hb
  refine ⟨g,cap,by rw [hsub.sz];exact hβ,by rw [hsub.tr];exact hat.sub hsub,hω,λe=>?_⟩
  have h5:=hS (by rw [<- hsub.tr];exact e)
  unfold Sep at h5 ⊢;rw [hsub.trr e,hsub.sz];exact h5
 inj:=λh h' b b' g g' z z' hb hb' hz hz' hne=>by
  obtain ⟨b0,hb0,_⟩:=h2 h b hb;obtain ⟨b1,hb1,_⟩:=h2 h' b' hb';exact hs.inj h h' b0 b1 g g' z z' hb0 hb1 hz hz' hne
 own:=λh b' g z hb' hz=>by
  obtain ⟨b,hb,hsub⟩:=h2 h b' hb';rw [hsub.fz];exact hs.own h b g z hb hz
 slots:=λt x' hx'=>by
  obtain ⟨x,hx,hsub⟩:=h1 t x' hx';exact hsub _ _ _ (hs.slots t x hx)
 tsize:=hs.tsize
 dom:=λh x hx=>by
  obtain ⟨b,hb⟩:=QY.1 (hs.dom h x hx);exact h3 h b hb
 stay:=hs.stay
 fzn:=λh b' g z hb' hz hf=>by
  obtain ⟨b,hb,hsub⟩:=h2 h b' hb'
  exact hs.fzn h b g z hb hz (by rw [<- hsub.fz];exact hf)
theorem Es.refl (c:C):Es c c:=λ_ _ _ h=>h
theorem G8.refl (x:S):G8 x x:=λ_ _ _ h=>h
theorem G8.dead (x:S):G8 x .dead:=λ_ _ _ _=>.dead
theorem Ab6 {c c':C} (h:∃ ob,Qz c c'=some ob /\ ∀ p ∈ ob,p):Es c c':=by
 obtain ⟨ob,h1,h2⟩:=h;exact λw E v hv=>Li hv h1 h2
def Afx (cs cs':List C):Prop:=cs'.length=cs.length /\ ∀ (j:Nat) (c':C),cs'[j]? = some c'->∃ c,cs[j]? = some c/\Es c c'
theorem A7x:∀ (cs cs':List C) (ob:List Prop),Dw cs cs'=some ob->(∀ p ∈ ob,p)->Afx cs cs'
 | [],[],_,_,_=>⟨rfl,λj c hj=>by simp at hj⟩
 | [],_::_,_,h,_=>by simp [Dw] at h
 | _::_,[],_,h,_=>by simp [Dw] at h
 | c::cs,c'::cs',ob,h,ho=>by
  simp only [Dw] at h;split at h
  . rename_i p q h1 h2;obtain rfl:=QA h;obtain ⟨i1,i2⟩:=A7x cs cs' q h2 (λx hx=>ho x (QD.2 (.inr hx)))
    refine ⟨by simp [i1],λj d hj=>?_⟩
    cases j with
    | zero =>
     simp at hj;subst hj;exact ⟨c,rfl,Ab6 ⟨p,h1,λx hx=>ho x (QD.2 (.inl hx))⟩⟩
    | succ j=>exact i2 j d (by simpa using hj)
  . cases h
theorem Ff.subL {L:Nat->Nat} {cs:List SV} {ds:List I} (h:Ff L cs ds):Afx (cs.map (SV.c L)) (ds.map .i):=by
 obtain ⟨ob,h1,h2⟩:=h;exact A7x _ _ _ h1 h2
theorem Afx.agg {cs cs':List C} (h:Afx cs cs'):G8 (.v (.agg cs)) (.v (.agg cs')):=by
 intro w E v hv
 cases hv with
 | v hv =>
  cases hv with
  | agg hv =>
   refine .v (.agg ⟨by rw [h.1];exact hv.1,λj v c hv' hc=>?_⟩)
   obtain ⟨c0,h1,h2⟩:=h.2 j c hc;exact h2 _ _ _ (hv.2 j v c0 hv' h1)
theorem Es.one {c c':C} (h:Es c c'):G8 (.v (.one c)) (.v (.one c')):=by
 intro w E v hv
 cases hv with
 | v hv=>cases hv with | one hv=>exact .v (.one (h _ _ _ hv))
theorem Ajx {L:Nat->Nat} {t:TS} {v:SV} {x:t.den} (h:t.dec v=some x):G8 (v.s L) ((t.enc x).s L)/\(v.cellB=true->(t.enc x).cellB=true->Es (v.c L) ((t.enc x).c L)):=by
 cases t with
 | d t =>
  simp only [TS.dec] at h;split at h
  . rename_i cs;split at h
    . rename_i t0
      cases hd:cs.all SV.isD with
      | false=>rw [hd] at h;cases h
      | true =>
       rw [hd] at h;simp only [cond] at h;obtain ⟨_,_,h3,_⟩:=Ct h
       have e:(SV.rf cs).c L=(SV.d (.ref t0) x).c L:=by
        simp only [SV.c,h3 hd,Sh.cells,hd1]
       have hc:Es ((SV.rf cs).c L) ((TS.enc (.d (.ref t0)) x).c L):=by
        show Es _ ((SV.d (.ref t0) x).c L);rw [<- e];exact Es.refl _
       exact ⟨hc.one,λ_ _=>hc⟩
    . cases h
  . rename_i hnr
    cases ht:t.one with
    | false=>rw [ht] at h;cases h
    | true =>
     rw [ht] at h;obtain ⟨q1,q2⟩:=Qu (L:=L) ht h;have hc:Es (v.c L) ((TS.enc (.d t) x).c L):=Ab6 q2
     have e:v.s L = .v (.one (v.c L)):=by cases v <;> first | rfl | cases q1
     refine ⟨?_,λ_ _=>hc⟩;rw [e];exact hc.one
 | ag t =>
  simp only [TS.dec] at h;split at h
  . rename_i cs;obtain ⟨h1,h2⟩:=A31 (L:=L) h
    refine ⟨?_,λhc=>by cases hc⟩
    show G8 (.v (.agg (cs.map (SV.c L)))) (.v (.agg ((t.exp x).map (SV.c L))));rw [Lw];exact h1.subL.agg
  . cases h
 | k c =>
  simp only [TS.dec] at h
  cases hs:c.same v with
  | false=>rw [hs] at h;cases h
  | true =>
   show G8 (v.s L) (c.s L)/\(v.cellB=true->c.cellB=true->Es (v.c L) (c.c L));unfold SV.same at hs;split at hs
   . obtain rfl:=QB hs;exact ⟨G8.refl _,λ_ _=>Es.refl _⟩
   . simp only [QF] at hs;obtain rfl:=QB hs.1.1;obtain rfl:=QB hs.1.2;obtain rfl:=QB hs.2;exact ⟨G8.refl _,λ_ _=>Es.refl _⟩
   . exact ⟨G8.dead _,λ_ h=>by cases h⟩
   . rename_i t x' t' y;simp only [QF] at hs;obtain rfl:=Sh.eqb_eq hs.2
     have:SV.d t x'=SV.d t y:=by
      split at hs
      . rfl
      . rfl
      . exact absurd hs.1 (by simp)
     rw [this];exact ⟨G8.refl _,λ_ _=>Es.refl _⟩
   . cases hs
 | hs h' =>
  simp only [TS.dec] at h;split at h
  . rename_i k o l
    cases hk:Nat.beq h' k with
    | false=>rw [hk] at h;cases h
    | true =>
     rw [hk] at h;obtain rfl:=QB hk;simp only [cond,QC] at h;subst h;exact ⟨G8.refl _,λ_ _=>Es.refl _⟩
  . cases h
theorem Afb:∀ {l:List (Nat × TS)} {sl:List (Nat × SV)} {x:DK TS TS.den l},A7h l sl=some x->∀ (L:Nat->Nat) (k:Nat) (y:S),A2 k (Ak (SV.s L) (Af5 l x))=some y->∃ z,A2 k (Ak (SV.s L) sl)=some z/\G8 z y
 | [],[],_,_,_,k,y,h=>by simp [Af5,Ak,A2] at h
 | [],_::_,_,h,_,_,_,_=>by simp [A7h] at h
 | _::_,[],_,h,_,_,_,_=>by simp [A7h] at h
 | (k,t)::r,(j,v)::vs,x,h,L,i,y,hy=>by
  simp only [A7h] at h
  cases hk:Nat.beq k j with
  | false=>rw [hk] at h;cases h
  | true =>
   rw [hk] at h;obtain rfl:=QB hk;simp only [cond] at h;split at h
   . rename_i a as h1 h2;obtain rfl:=QA h;simp only [Af5,Ak,QS,A2] at hy ⊢
     cases hb:Nat.beq k i with
     | true =>
      rw [hb] at hy;simp only [cond,QC] at hy;subst hy;exact ⟨_,rfl,(Ajx h1).1⟩
     | false =>
      rw [hb] at hy;exact Afb h2 L i y hy
   . cases h
theorem Afc {L:Nat->Nat}:∀ {l:List TS} {vs:List SV} {x:DL l},A7i l vs=some x->vs.all SV.cellB=true->(Ih l x).all SV.cellB=true->Afx (vs.map (SV.c L)) ((Ih l x).map (SV.c L))
 | [],[],_,_,_,_=>⟨rfl,λj c h=>by simp [Ih] at h⟩
 | [],_::_,_,h,_,_=>by simp [A7i] at h
 | _::_,[],_,h,_,_=>by simp [A7i] at h
 | t::r,v::vs,x,h,hc,hc'=>by
  simp only [A7i] at h;split at h
  . rename_i a as h1 h2;obtain rfl:=QA h;simp only [YE,QF,Ih] at hc hc';obtain ⟨i1,i2⟩:=Afc (L:=L) h2 hc.2 hc'.2
    refine ⟨by simpa [Ih] using i1,λj c hj=>?_⟩
    cases j with
    | zero =>
     simp [Ih] at hj;subst hj;exact ⟨_,rfl,(Ajx h1).2 hc.1 hc'.1⟩
    | succ j=>exact i2 j c (by simpa [Ih] using hj)
  . cases h
theorem Anb {L:Nat->Nat} {t:TB} {b:B3} {x:t.den} (h:t.dec b=some x):Ani (b.box L) ((t.enc x).box L)/\(t.enc x).len=b.len:=by
 cases t with
 | tree e t fz =>
  simp only [TB.dec] at h;split at h
  . rename_i e' t' fz' xs
    cases hc:(Nat.beq e e'&&(fz==fz')) with
    | false=>rw [hc] at h;cases h
    | true =>
     rw [hc] at h;simp only [QF] at hc;obtain rfl:=QB hc.1;obtain rfl:=eq_of_beq hc.2;obtain ⟨rfl,rfl⟩:=Db h;refine ⟨⟨rfl,rfl,rfl,rfl,λ_=>rfl,rfl,λi r hi=>⟨r,hi,rfl,λj c hj=>⟨c,hj,Es.refl c⟩⟩,λ_ i r j c hi hj=>?_⟩,rfl⟩;simp only [TB.enc,B3.box,QN] at hi;obtain ⟨x,_,rfl⟩:=QE.1 hi;rw [QN] at hj;obtain ⟨y,_,rfl⟩:=QE.1 hj;exact ⟨y,rfl⟩
  . cases h
 | arr e t fz =>
  simp only [TB.dec] at h;split at h
  . rename_i e' t' fz' xs
    cases hc:(Nat.beq e e'&&(fz==fz')) with
    | false=>rw [hc] at h;cases h
    | true =>
     rw [hc] at h;simp only [QF] at hc;obtain rfl:=QB hc.1;obtain rfl:=eq_of_beq hc.2;obtain ⟨rfl,rfl⟩:=Db h;refine ⟨⟨rfl,rfl,rfl,rfl,λ_=>rfl,rfl,λi r hi=>⟨r,hi,rfl,λj c hj=>⟨c,hj,Es.refl c⟩⟩,λ_ i r j c hi hj=>?_⟩,rfl⟩;simp only [TB.enc,B3.box,QN] at hi;obtain ⟨y,_,rfl⟩:=QE.1 hi;rw [QN] at hj;obtain ⟨z,_,rfl⟩:=QE.1 hj;exact ⟨z,rfl⟩
  . rename_i e' fz' n cs
    cases hc:(Nat.beq e e'&&(fz==fz')) with
    | false=>rw [hc] at h;cases h
    | true =>
     rw [hc] at h;simp only [cond,QE] at h;obtain ⟨y,hy,rfl⟩:=h;simp only [QF] at hc;obtain rfl:=QB hc.1;obtain rfl:=eq_of_beq hc.2;obtain ⟨h1,h2⟩:=A31 (L:=L) hy;have hL:=h1.subL
     have hz:cs.length=t.size:=by have:=hL.1;simp [Sh.cells_len] at this;omega
     refine ⟨⟨rfl,by simp [TB.enc,B3.box,hz],rfl,rfl,λe=>(by cases e),by simp [TB.enc,B3.box],λi r hi=>?_,λ_ i r j c hi hj=>?_⟩,by simp [TB.enc,B3.len]⟩
     . simp only [TB.enc,B3.box,List.map_replicate,XO] at hi;split at hi
       . rename_i hlt;obtain rfl:=QA hi
         exact ⟨cs.map (SV.c L),by simp [B3.box,XO,hlt],hL.1,hL.2⟩
       . cases hi
     . simp only [TB.enc,B3.box,List.map_replicate,XO] at hi;split at hi
       . obtain rfl:=QA hi;rw [QN] at hj;obtain ⟨z,_,rfl⟩:=QE.1 hj;exact ⟨z,rfl⟩
       . cases hi
  . cases h
 | var e hf fz cs =>
  simp only [TB.dec] at h;split at h
  . rename_i e' hf' fz' vs
    cases hc:(Nat.beq e e'&&(hf==hf')&&(fz==fz')&&vs.all SV.cellB) with
    | false=>rw [hc] at h;cases h
    | true =>
     rw [hc] at h;simp only [cond] at h;simp only [QF] at hc;obtain rfl:=QB hc.1.1.1;obtain rfl:=eq_of_beq hc.1.1.2;obtain rfl:=eq_of_beq hc.1.2;split at h
     . rename_i y hy
       cases he:((Ih cs y).all SV.cellB&&(!hf || (Ih cs y).all SV.imm)) with
       | false=>rw [he] at h;cases h
       | true =>
        rw [he] at h;obtain rfl:=QA h;simp only [QF,XA,ZU] at he;have hL:=Afc (L:=L) hy hc.2 he.1
        refine ⟨⟨rfl,by have:=hL.1;simpa [TB.enc,B3.box] using this,rfl,rfl,λe=>(by cases e),rfl,λi r hi=>?_,λhf' i r j c hi hj=>?_⟩,rfl⟩
        . cases i with
          | zero =>
           simp [TB.enc,B3.box] at hi;subst hi;exact ⟨vs.map (SV.c L),rfl,hL.1,hL.2⟩
          | succ i=>simp [TB.enc,B3.box] at hi
        . have hf'':hf=true:=hf'
          have hi':(Ih cs y).all SV.imm=true:=by
           rcases he.2 with h0 | h0
           . rw [hf''] at h0;cases h0
           . exact h0
          cases i with
          | zero =>
           simp [TB.enc,B3.box] at hi;subst hi;rw [QN] at hj;obtain ⟨z,hz,rfl⟩:=QE.1 hj;have:=M9 (L:=L) (QL.1 hi' z (ZH hz))
           cases hzc:z.c L with
           | i q=>exact ⟨q,rfl⟩
           | hs=>rw [hzc] at this;cases this
           | hp=>rw [hzc] at this;cases this
          | succ i=>simp [TB.enc,B3.box] at hi
     . cases h
  . cases h
theorem Afd {L:Nat->Nat}:∀ {l:List (Nat × TB)} {bs:List (Nat × B3)} {x:DK TB TB.den l},A7j l bs=some x ->
  (∀ k b',A2 k (Ak (B3.box L) (T9 l x))=some b'->∃ b,A2 k (Ak (B3.box L) bs)=some b/\Ani b b')/\(∀ k b,A2 k (Ak (B3.box L) bs)=some b->(A2 k (Ak (B3.box L) (T9 l x))).isSome=true)/\A5 (T9 l x)=A5 bs
 | [],[],_,_=>⟨λk b h=>by simp [T9,Ak,A2] at h,λk b h=>by simp [Ak,A2] at h,rfl⟩
 | [],_::_,_,h=>by simp [A7j] at h
 | _::_,[],_,h=>by simp [A7j] at h
 | (k,t)::r,(j,v)::vs,x,h=>by
  simp only [A7j] at h
  cases hk:Nat.beq k j with
  | false=>rw [hk] at h;cases h
  | true =>
   rw [hk] at h;obtain rfl:=QB hk;simp only [cond] at h;split at h
   . rename_i a as h1 h2;obtain rfl:=QA h;obtain ⟨i1,i2,i3⟩:=Afd (L:=L) h2;obtain ⟨b1,b2⟩:=Anb (L:=L) h1;refine ⟨λi b hb=>?_,λi b hb=>?_,?_⟩
     . simp only [T9,Ak,QS,A2] at hb ⊢
       cases hc:Nat.beq k i with
       | true=>rw [hc] at hb;simp only [cond,QC] at hb;subst hb;exact ⟨_,rfl,b1⟩
       | false=>rw [hc] at hb;exact i1 i b hb
     . simp only [T9,Ak,QS,A2] at hb ⊢
       cases hc:Nat.beq k i with
       | true=>rfl
       | false=>rw [hc] at hb;exact i2 i b hb
     . funext i;have e:=congrFun i3 i;simp only [A5,T9,A2] at e ⊢
       cases hc:Nat.beq k i with
       | true=>exact b2
       | false=>exact e
   . cases h
theorem V7 {X:List (Nat × TS)}:∀ {sl:List (Nat × SV)} {k:Nat} {x:SV},A2 k (Ra X sl)=some x->A2 k sl=some x
 | [],k,x,h=>by cases h
 | (j,y)::r,k,x,h=>by
  simp only [Ra,YL] at h
  have gone:(X.any λq=>Nat.beq q.1 j)=false->∀ q:List (Nat × SV),A2 j (q.filter λp=>X.any λz=>Nat.beq z.1 p.1)=none:=by
   intro hc q
   induction q with
   | nil=>rfl
   | cons p' r' ih' =>
    simp only [YL];split
    . rename_i hc';simp only [A2]
      cases hb':Nat.beq p'.1 j with
      | true=>have:=QB hb';rw [this,hc] at hc';cases hc'
      | false=>exact ih'
    . exact ih'
  simp only [A2]
  cases hb:Nat.beq j k with
  | true =>
   have:=QB hb;subst this
   cases hc:(X.any λq=>Nat.beq q.1 j) with
   | true =>
    rw [QK hc] at h;simp only [A2,hb,cond] at h;exact h
   | false =>
    rw [QH (by rw [hc];exact Bool.false_ne_true),gone hc] at h
    cases h
  | false =>
   simp only [cond];split at h
   . simp only [A2,hb,cond] at h;exact V7 h
   . exact V7 h
theorem Afa {α β:Type} (f:α->β) (h:Nat):∀ l:List (Nat × α),Ij h (Ak f l)=Ak f (Ij h l)
 | []=>rfl
 | (j,x)::r=>by
  have ih:=Afa f h r
  show (bif Nat.beq j h then Ij h (Ak f r) else (j,f x)::Ij h (Ak f r))=Ak f (bif Nat.beq j h then Ij h r else (j,x)::Ij h r)
  cases Nat.beq j h with
  | true=>exact ih
  | false =>
   show (j,f x)::Ij h (Ak f r)=(j,f x)::Ak f (Ij h r);rw [ih]
theorem Af9 {nt:Nat}:∀ (l:List Nat) {s s':St3},Aau l s=some s'->Jq l (s.st nt)=some (s'.st nt)
 | [],s,s',h=>by obtain rfl:=QA h;rfl
 | k::r,s,s',h=>by
  simp only [Aau] at h
  cases hc:(Nat.blt k 1000&&s.clean k) with
  | false=>rw [hc] at h;cases h
  | true =>
   rw [hc] at h;simp only [cond] at h;simp only [QF] at hc;have hcl:=hc.2;unfold St3.clean at hcl;simp only [QF,QL] at hcl;have ih:=Af9 (nt:=nt) r h
   have hd:(s.st nt).delBox k=some (({ s with boxes:=Ij k s.boxes }:St3).st nt):=by
    unfold St.delBox
    have h1:(s.st nt).slots.all (λp=>!p.2.men k)=true:=by
     simp only [St3.st,Ak,YH,QL,Function.comp,Axo];exact hcl.1
    have h2:O8 k (s.st nt).boxes=true:=by
     simp only [O8,St3.st,Ak,YH,QL,Function.comp,XA,ZU];intro p hp
     exact .inr (B1x (by simpa using hcl.2 p hp))
    rw [hc.1,h1,h2]
    have hL:∀ j,j ≠ k->A5 s.boxes j=A5 (Ij k s.boxes) j:=λj hj=>by
     unfold A5;rw [Gd hj]
    simp only [ZJ,cond,QC,St3.st];congr 1
    . exact Ln λp hp=>A5x hL (by simpa using hcl.1 p hp)
    . rw [<- Afa];congr 1
      exact Ln λp hp=>X6 hL (by simpa using hcl.2 p hp)
   simp only [Jq,hd];exact ih
theorem Tm.dec1_ok {X:Tm} {s:St3} {x:X.den} (h:X.dec1 s=some x) {nt:Nat} {Γ:Ctx} {w:World} {E:Env} {tmps:Array Value} (hs:A8 Γ w E (s.st nt) tmps):∃ E',A8 Γ w E' ((X.enc x).st nt) tmps:=by
 unfold Tm.dec1 at h;split at h
 . rename_i s2 hd;split at h
   . rename_i a b h1 h2;obtain rfl:=QA h
     have hs1:A8 Γ w E (({ s with slots:=Ra X.slots s.slots }:St3).st nt) tmps:=hs.less λt y hy=>by
      simp only [St3.st,Au] at hy ⊢;obtain ⟨z,hz,rfl⟩:=QE.1 hy;rw [V7 hz];rfl
     obtain ⟨E',hs2⟩:=Qq _ hs1 (Af9 _ hd);obtain ⟨b1,b2,b3⟩:=Afd (L:=A5 s2.boxes) h2;refine ⟨E',hs2.sub rfl (λt y hy=>?_) (λk b' hb=>?_) (λk b hb=>?_)⟩
     . simp only [Tm.enc,St3.st] at hy;rw [b3] at hy;exact Afb h1 _ t y hy
     . simp only [Tm.enc,St3.st] at hb;rw [b3] at hb;exact b1 k b' hb
     . simp only [Tm.enc,St3.st];rw [b3];exact b2 k b hb
   . cases h
 . cases h
theorem R1 {nt:Nat} {Γ:Ctx} {w:World} {tmps:Array Value}:∀ {l:List (Nat × Sh)} {s s':St3} {E:Env},Iz l s=some s'->A8 Γ w E (s.st nt) tmps->∃ E',A8 Γ w E' (s'.st nt) tmps
 | [],s,s',E,h,hs=>by
  simp only [Iz,QC] at h;subst h;exact ⟨E,hs⟩
 | (t,sh)::r,s,s',E,h,hs=>by
  have go:∀ {q},M7 s t sh=some q->(bif q.1 then Iz r q.2 else none)=some s'->∃ E',A8 Γ w E' (s'.st nt) tmps:=by
   rintro ⟨g,s1⟩ h1 h2
   cases g with
   | false=>cases h2
   | true =>
    obtain ⟨x',ob,q1,q2⟩:=R2 (nt:=nt) h1 rfl
    obtain ⟨E1,hs1⟩:=D8 [(t,x')] (s':=s1.st nt) (obs:=ob++[]) hs (by simp only [E7,q1]) (λp hp=>by simp only [XN] at hp;exact q2 p hp)
    exact R1 (l:=r) h2 hs1
  simp only [Iz] at h;split at h
  . exact R1 (l:=r) h hs
  . split at h
    . rename_i hq;exact go hq h
    . cases h
theorem Tm.dec_ok {X:Tm} {s:St3} {x:X.den} (h:X.dec s=some x) {nt:Nat} {Γ:Ctx} {w:World} {E:Env} {tmps:Array Value} (hs:A8 Γ w E (s.st nt) tmps):∃ E',A8 Γ w E' ((X.enc x).st nt) tmps:=by
 unfold Tm.dec at h;split at h
 . rename_i s1 h1;obtain ⟨E1,hs1⟩:=R1 h1 hs;exact Tm.dec1_ok h hs1
 . cases h
end Go.Ev

/- DERIVED. A call that is handed boxes or hands out boxes, decided. -/
namespace Go.Ev
open Go
variable {P:Program} {T:Ty}
def SV.renC (σ:Nat->Nat):SV->SV
 | .hw h=>.hw (σ h)
 | .hs h o l=>.hs (σ h) o l
 | .hp h r c=>.hp (σ h) r c
 | x=>x
def SV.renV (σ:Nat->Nat):SV->SV
 | .agg cs=>.agg (cs.map (SV.renC σ))
 | x=>x.renC σ
def SV.ren3 (σ:Nat->Nat):SV->SV
 | .tup cs=>.tup (cs.map (SV.renV σ))
 | x=>x.renV σ
def SV.okC (p:Nat->Bool):SV->Bool
 | .hw h=>p h
 | .hs h _ _=>p h
 | .hp h _ _=>p h
 | _=>true
def SV.okV (p:Nat->Bool):SV->Bool
 | .agg cs=>cs.all (SV.okC p)
 | x=>x.okC p
def SV.ok3 (p:Nat->Bool):SV->Bool
 | .tup cs=>cs.all (SV.okV p)
 | x=>x.okV p
def SV.clC:SV->Bool
 | .d (.sl _) []=>true
 | .d t _=>t.closed
 | .rf _=>false
 | .dead=>false
 | _=>true
def SV.clV:SV->Bool
 | .agg cs=>cs.all SV.clC
 | x=>x.clC
def SV.cl3:SV->Bool
 | .tup cs=>cs.all SV.clV
 | x=>x.clV
def B3.cl:B3->Bool
 | .arr _ t _ _=>t.closed
 | .rep _ _ _ cs=>cs.all SV.clC
 | .var _ _ _ cs=>cs.all SV.clC
 | .tree _ t _ _=>t.flat
 | .hole _ _ _ _ _ _ _=>false
def B3.plain:B3->Bool
 | .arr _ _ _ _=>true
 | .var _ hf _ cs=>hf&&cs.all SV.isD
 | .tree _ _ _ _=>true
 | _=>false
section
variable {L L':Nat->Nat} {σ:Nat->Nat} {p:Nat->Bool}
theorem Ao0 (hL:∀ k,p k=true->L (σ k)=L' k) {x:SV} (ho:x.okC p=true):(x.renC σ).c L=(x.c L').ren σ:=by
 cases x <;> first | rfl | skip;simp only [SV.renC,SV.c,C.ren];rw [hL _ ho]
theorem Abi (hL:∀ k,p k=true->L (σ k)=L' k) {x:SV} (ho:x.okV p=true):(x.renV σ).v L=(x.v L').ren σ:=by
 cases x with
 | agg cs =>
  simp only [SV.renV,SV.v,V.ren,XB];congr 1;exact ZB λy hy=>Ao0 hL (QL.1 ho y hy)
 | hw h=>exact ZN V.one (Ao0 (x:=.hw h) hL ho)
 | _=>rfl
theorem B2i (hL:∀ k,p k=true->L (σ k)=L' k) {x:SV} (ho:x.ok3 p=true):(x.ren3 σ).s L=(x.s L').ren σ:=by
 cases x with
 | tup cs =>
  simp only [SV.ren3,SV.s,S.ren,XB];congr 1;exact ZB λy hy=>Abi hL (QL.1 ho y hy)
 | hw h=>exact ZN S.v (Abi (x:=.hw h) hL ho)
 | agg cs=>exact ZN S.v (Abi (x:=.agg cs) hL ho)
 | _=>rfl
theorem B62 {x:SV} (ho:x.okC p=true):(x.c L).okH p=true:=by cases x <;> first | rfl | exact ho
theorem Axm {x:SV} (ho:x.okV p=true):(x.v L).okH p=true:=by
 cases x with
 | agg cs =>
  simp only [SV.v,V.okH,YH,QL,Function.comp];exact λy hy=>B62 (QL.1 ho y hy)
 | hw h=>exact ho
 | hs h o l=>exact ho
 | hp h r c=>exact ho
 | _=>rfl
theorem B63 {x:SV} (ho:x.ok3 p=true):(x.s L).okH p=true:=by
 cases x with
 | tup cs =>
  simp only [SV.s,S.okH,YH,QL,Function.comp];exact λy hy=>Axm (QL.1 ho y hy)
 | agg cs=>exact Axm (x:=.agg cs) ho
 | hw h=>exact ho
 | hs h o l=>exact ho
 | hp h r c=>exact ho
 | _=>rfl
theorem hd1_closed {l:List I} (h:∀ c ∈ l,IClosed c):IClosed (hd1 l):=by
 cases l with
 | nil=>exact .lit _
 | cons c r=>exact h c (by simp)
theorem K8 {x:SV} (h:x.clC=true):(x.c L).allI IClosed:=by
 cases x with
 | d t y =>
  cases t with
  | sl t =>
   cases y with
   | nil=>exact .nil _ _ _
   | cons a b=>exact hd1_closed (O7 (.sl t) (a::b) h)
  | _=>exact hd1_closed (O7 _ y h)
 | rf=>cases h
 | dead=>cases h
 | hw=>trivial
 | hs=>trivial
 | hp=>trivial
 | _=>exact .lit _
theorem Tg {x:SV} (h:x.clV=true):(x.v L).allI IClosed:=by
 cases x with
 | agg cs =>
  simp only [SV.v,V.allI,QN];intro j c hc;obtain ⟨y,hy,rfl⟩:=QE.1 hc;exact K8 (Ee h hy)
 | d t y=>exact K8 (L:=L) (x:=.d t y) h
 | rf cs=>exact K8 (L:=L) (x:=.rf cs) h
 | hw k=>exact K8 (L:=L) (x:=.hw k) h
 | hs k o l=>exact K8 (L:=L) (x:=.hs k o l) h
 | hp k o l=>exact K8 (L:=L) (x:=.hp k o l) h
 | tup cs=>exact K8 (L:=L) (x:=.tup cs) h
 | dead=>exact K8 (L:=L) (x:=.dead) h
theorem B78 {x:SV} (h:x.cl3=true):(x.s L).allI IClosed:=by
 cases x with
 | tup cs =>
  simp only [SV.s,S.allI,QN];intro j c hc;obtain ⟨y,hy,rfl⟩:=QE.1 hc;exact Tg (Ee h hy)
 | dead=>trivial
 | d t y=>exact Tg (L:=L) (x:=.d t y) h
 | rf cs=>exact Tg (L:=L) (x:=.rf cs) h
 | hw k=>exact Tg (L:=L) (x:=.hw k) h
 | hs k o l=>exact Tg (L:=L) (x:=.hs k o l) h
 | hp k o l=>exact Tg (L:=L) (x:=.hp k o l) h
 | agg cs=>exact Tg (L:=L) (x:=.agg cs) h
theorem B5k {b:B3} (h:b.cl=true):∀ (i:Nat) (q:List C) (j:Nat) (c:C),(b.box L).rows[i]? = some q->q[j]? = some c->c.allI λy=>IClosed y \/ ((b.box L).tr=true/\Yu y):=by
 intro i q j c hq hc
 cases b with
 | hole=>cases h
 | tree e t fz xs =>
  simp only [B3.box,QN] at hq;obtain ⟨y,hy,rfl⟩:=QE.1 hq;rw [QN] at hc;obtain ⟨z,hz,rfl⟩:=QE.1 hc;exact .inr ⟨rfl,B2y t y h z (ZH hz)⟩
 | arr e t fz xs =>
  simp only [B3.box,QN] at hq;obtain ⟨y,hy,rfl⟩:=QE.1 hq;rw [QN] at hc;obtain ⟨z,hz,rfl⟩:=QE.1 hc;exact .inl (O7 t y h z (ZH hz))
 | rep e fz n cs =>
  simp only [B3.box,XO] at hq;split at hq
  . obtain rfl:=QA hq;rw [QN] at hc;obtain ⟨z,hz,rfl⟩:=QE.1 hc;exact C.allI_mono (λ_ h=>.inl h) (K8 (Ee h hz))
  . cases hq
 | var e hf fz cs =>
  simp only [B3.box] at hq
  cases i with
  | zero =>
   obtain rfl:=QA hq;rw [QN] at hc;obtain ⟨z,hz,rfl⟩:=QE.1 hc;exact C.allI_mono (λ_ h=>.inl h) (K8 (Ee h hz))
  | succ i=>simp at hq
theorem A85 {b:B3} (h:b.plain=true):b.box L=b.box L'/\(b.box L).hf=true:=by
 cases b with
 | hole=>cases h
 | tree=>exact ⟨rfl,rfl⟩
 | arr=>exact ⟨rfl,rfl⟩
 | rep=>cases h
 | var e hf fz cs =>
  simp only [B3.plain,QF] at h
  exact ⟨by simp only [B3.box];rw [Ap4 h.2],h.1⟩
end
theorem Tl {L L':Nat->Nat} {x:SV} (hL:∀ k,x.menC k=true->L k=L' k):x.c L=x.c L':=by
 cases x <;> first | rfl | skip;rename_i k;simp only [SV.c]
 rw [hL k (by simp [SV.menC])]
theorem Zy {L L':Nat->Nat} {x:SV} (hL:∀ k,x.menV k=true->L k=L' k):x.v L=x.v L':=by
 cases x with
 | agg cs =>
  simp only [SV.v];congr 1;exact ZB λy hy=>Tl λk hk=>hL k (ZY.2 ⟨y,hy,hk⟩)
 | hw k=>exact ZN V.one (Tl (x:=.hw k) hL)
 | _=>rfl
theorem Auh {L L':Nat->Nat} {x:SV} (hL:∀ k,x.men k=true->L k=L' k):x.s L=x.s L':=by
 cases x with
 | tup cs =>
  simp only [SV.s];congr 1;exact ZB λy hy=>Zy λk hk=>hL k (ZY.2 ⟨y,hy,hk⟩)
 | hw k=>exact ZN S.v (Zy (x:=.hw k) hL)
 | agg cs=>exact ZN S.v (Zy (x:=.agg cs) hL)
 | _=>rfl
theorem Anc {L L':Nat->Nat} {b:B3} (hL:∀ k,b.men k=true->L k=L' k):b.box L=b.box L':=by
 cases b with
 | hole e t fz xs row col k=>simp only [B3.box];rw [hL k (by simp [B3.men])]
 | tree=>rfl
 | arr=>rfl
 | rep e fz n cs =>
  simp only [B3.box];rw [ZB λy hy=>Tl λk hk=>hL k (ZY.2 ⟨y,hy,hk⟩)]
 | var e hf fz cs =>
  simp only [B3.box];rw [ZB λy hy=>Tl λk hk=>hL k (ZY.2 ⟨y,hy,hk⟩)]
def CK.backs:CK->List Nat
 | .back j=>[j]
 | _=>[]
def PK.backs:PK->List Nat
 | .im _=>[]
 | .one c=>c.backs
 | .mix cs=>cs.flatMap CK.backs
def Im (f0:Nat) (ts:List PK) (o:Oper) (s:St3):Option (Bool × HP ts × List Nat × List (Nat × Nat)) :=
 match o.op with
 | .call c=>match c.callee with
  | .value f=>match Yn (s.val f) with
   | some (fid,caps)=>bif Nat.beq fid f0 then M2 s.boxes 1000 ts (c.args.toList.map s.val++caps) else none
   | none=>none
  | _=>none
 | _=>none
def Xl (rs:List PK):List Nat:=(Ao 0 rs).map (·.1)
def Hv (E:Iw) (hb:Nat) (q:List (Nat × Nat)):List (Nat × Nat):=(Xl E.rs).map (λk=>(k,hb+k))++q
def Cs (E:Iw) (rn:List (Nat × Nat)):List Nat:=(E.rs.flatMap PK.backs).map (I3 rn)
def Fb (B bs:List (Nat × B3)) (kill:List Nat):List (Nat × Nat)->Bool
 | []=>true
 | p::r=>bif kill.any (Nat.beq p.2) then Fb B bs kill r else Nat.beq (A5 B p.1) (A5 bs p.2)&&Fb B bs kill r
def Fn (E:Iw) (hb:Nat) (s:St3) (x:HP E.ts) (bor:List Nat) (q:List (Nat × Nat)) (y:HR E.rs (Ao 1000 E.ts)):Bool :=
 E9 (Hv E hb q)&&By (B6 E y) (Hv E hb q)&&By (J6 E x) q&&(J6 E x).all (λp=>Nat.ble 1000 p.1)&&(B6 E y).all (λp=>p.2.plain) &&
 (Xl E.rs).all (λk=>Nat.blt (hb+k) 1000&&(A2 (hb+k) s.boxes).isNone&&s.clean (hb+k))&&q.all (λp=>!bor.any (Nat.beq p.2)) &&
 (bor.isEmpty || ((Ge (Br 0 E.rs (Lk y))).cl3&&(B6 E y).all (λp=>p.2.cl)))&&(Ge (Br 0 E.rs (Lk y))).ok3 (λk=>(A2 k (B6 E y)).isSome) &&
 (Cs E (Hv E hb q)).all (λh=>s.boxes.all (λp=>!p.2.men h))
def Ba (E:Iw) (hb:Nat) (s:St3) (q:List (Nat × Nat)) (y:HR E.rs (Ao 1000 E.ts)):SV × St3 :=
 ((Ge (Br 0 E.rs (Lk y))).ren3 (I3 (Hv E hb q)),
  ⟨Ak (λx=>bif (Cs E (Hv E hb q)).any (λh=>x.men h) then .dead else x) s.slots,V8 (B6 E y) (Hv E hb q) s.boxes⟩)
theorem Vb:∀ {a b:List (Nat × Nat)},E9 (a++b)=true->E9 b=true
 | [],_,h=>h
 | (k,h')::r,b,h=>Vb (Jz h).2
theorem V5 {B bs:List (Nat × B3)} {kill:List Nat}:∀ {q:List (Nat × Nat)},Fb B bs kill q=true->∀ p ∈ q,kill.any (Nat.beq p.2)=true \/ A5 B p.1=A5 bs p.2
 | [],_,p,hp=>by cases hp
 | a::r,h,p,hp=>by
  simp only [Fb] at h
  cases hk:kill.any (Nat.beq a.2) with
  | true =>
   rw [hk] at h;rcases QT.1 hp with rfl | hp
   . exact .inl hk
   . exact V5 h p hp
  | false =>
   rw [hk] at h;simp only [cond,QF] at h;rcases QT.1 hp with rfl | hp
   . exact .inr (QB h.1)
   . exact V5 h.2 p hp
theorem Cf {β:Type} {k:Nat} {b:β} {l:List (Nat × β)} (h:A2 k l=some b):(k,b) ∈ l:=De h
theorem A9q {E:Iw} {hb:Nat} {o:Oper} {s s':St3} {nt:Nat} {x:HP E.ts} {bor:List Nat} {q:List (Nat × Nat)} {y:HR E.rs (Ao 1000 E.ts)} {K:Ah}
  (h:Im E.f E.ts o s=some (true,x,bor,q)) (hc:Fn E hb s x bor q y=true) (hg:Fb (B6 E y) s.boxes (Cs E (Hv E hb q)) q=true) (hF:E.Den P nt x y)
  (hp:(Ba E hb s q y).2.put3 K o.dst (Ba E hb s q y).1=some s') :
  ∃ D obs,Da P T K o D (s.st nt)=some (s'.st nt,obs) /\ ∀ p ∈ obs,p:=by
 obtain ⟨dst,op,type,pos,aft,guard⟩:=o;unfold Im at h;simp only at h;split at h
 case h_2=>cases h
 rename_i c;split at h
 case h_2=>cases h
 rename_i f hf;split at h
 case h_2=>cases h
 rename_i fid caps hcal
 cases hcf:Nat.beq fid E.f with
 | false=>rw [hcf] at h;cases h
 | true =>
 rw [hcf] at h;simp only [cond] at h;obtain rfl:=QB hcf;generalize hrn:Hv E hb q=rn at *;unfold Fn at hc;rw [hrn] at hc;simp only [QF] at hc;obtain ⟨⟨⟨⟨⟨⟨⟨⟨⟨c1,c2⟩,c3⟩,c4⟩,c5⟩,c6⟩,c7⟩,c8⟩,c9⟩,c10⟩:=hc;have hrn':rn=(Xl E.rs).map (λk=>(k,hb+k))++q:=hrn.symm
 have c1q:E9 q=true:=Vb (by rw [<- hrn'];exact c1)
 have qrn:∀ p ∈ q,p ∈ rn:=λp hp=>by rw [hrn'];exact QD.2 (.inr hp)
 have fwdm:∀ k h,(k,h) ∈ rn->I3 rn k=h/\Io rn h=some k/\A2 k rn=some h:=λk h hm=>by
  obtain ⟨e1,e2⟩:=Mv c1 hm
  exact ⟨by unfold I3;rw [e1],e2,e1⟩
 have outS:∀ k,(A2 k (Bs (B6 E y))).isSome=(A2 k rn).isSome:=λk=>by
  unfold Bs;rw [Au,KU,Ej c2 k]
 have inS:∀ k,(A2 k (Bs (J6 E x))).isSome=(A2 k q).isSome:=λk=>by
  unfold Bs;rw [Au,KU,Ej c3 k]
 obtain ⟨⟨ob,a1,a2⟩,a3,a4,a5⟩:=Afr (hd:=λk h=>q.any λp=>Nat.beq p.1 k&&Nat.beq p.2 h) (L:=A5 (J6 E x)) h rfl
  (λp hp=>ZY.2 ⟨p,hp,by simp⟩) (λk b hb=>by
   have:=V1 c3 c1q hb;simp only [A5]
   show (match A2 k (J6 E x) with | some b=>b.len | none=>0)=b.len
   rw [this])
 obtain ⟨cs,k1,k2⟩:=A5h (L:=A5 s.boxes) hcal
 have hfa:(s.val f).alive=true:=B9 λe=>by rw [e] at hcal;cases hcal
 have hfv:=Bm (nt:=nt) rfl hfa
 have hmap:c.args.toList.map (s.st nt).val++cs.map (λx=>S.v (V.one (C.i x)))=(c.args.toList.map s.val++caps).map (SV.s (A5 s.boxes)):=by
  rw [KQ,k2,XB];congr 1;exact ZB λz hz=>Bm rfl (a5 _ (QD.2 (.inl (ZL.2 ⟨z,hz,rfl⟩))))
 have blook:∀ h,A2 h (Ba E hb s q y).2.boxes=match Io rn h with | some k=>A2 k (B6 E y) | none=>A2 h s.boxes:=λh=>by
  have:=Zh (bs:=s.boxes) c2 c1 h;rw [<- hrn] at this ⊢;exact this
 have lenk:∀ k h,(k,h) ∈ rn->A5 (Ba E hb s q y).2.boxes h=A5 (B6 E y) k:=λk h hm=>by
  unfold A5;rw [blook h,(fwdm k h hm).2.1]
 have lenS:∀ h,s.clean h=true \/ (∀ k,Io rn h=some k->(k,h) ∈ q/\(Cs E rn).any (Nat.beq h)=false)->s.clean h=true \/ A5 (Ba E hb s q y).2.boxes h=A5 s.boxes h:=by
  intro h hh;rcases hh with hh | hh
  . exact .inl hh
  . cases hw:Io rn h with
    | none =>
     right;unfold A5;rw [blook h,hw]
    | some k =>
     obtain ⟨h1,h2⟩:=hh k hw;right;rw [lenk k h (qrn _ h1)];rcases V5 hg _ h1 with h3 | h3
     . rw [h3] at h2;cases h2
     . exact h3
 have newC:∀ k h,(k,h) ∈ rn->(k,h) ∈ q \/ (h<1000/\A2 h s.boxes=none/\s.clean h=true):=λk h hm=>by
  rw [hrn'] at hm;rcases QD.1 hm with hm | hm
  . obtain ⟨k',hk',e⟩:=ZL.1 hm;obtain ⟨rfl,rfl⟩:=KN e;have:=QL.1 c6 k' hk';simp only [QF] at this
    exact .inr ⟨by simpa [ZR] using this.1.1,by simpa using this.1.2,this.2⟩
  . exact .inl hm
 have lenM:∀ h,(Cs E rn).any (Nat.beq h)=false->s.clean h=true \/ A5 (Ba E hb s q y).2.boxes h=A5 s.boxes h:=λh hk=>by
  cases hw:Io rn h with
  | none=>exact lenS h (.inr λk e=>by rw [hw] at e;cases e)
  | some k =>
   rcases newC k h (Yo hw) with h1 | h1
   . exact lenS h (.inr λk' e=>by rw [hw] at e;obtain rfl:=QA e;exact ⟨h1,hk⟩)
   . exact .inl h1.2.2
 have cleanS:∀ {t:Nat} {z:SV} {h:Nat},A2 t s.slots=some z->s.clean h=true->z.men h=false:=λ{t z h} hz hcl=>by
  unfold St3.clean at hcl;simp only [QF,QL,ZU] at hcl;exact hcl.1 _ (Cf hz)
 have O8:∀ {t:Nat} {z:B3} {h:Nat},A2 t s.boxes=some z->s.clean h=true->z.men h=false:=λ{t z h} hz hcl=>by
  unfold St3.clean at hcl;simp only [QF,QL,ZU] at hcl;exact hcl.2 _ (Cf hz)
 have hval:(Ba E hb s q y).1.s (A5 (Ba E hb s q y).2.boxes)=((Ge (Br 0 E.rs (Lk y))).s (A5 (B6 E y))).ren (I3 rn):=by
  have:(Ba E hb s q y).1=(Ge (Br 0 E.rs (Lk y))).ren3 (I3 rn):=by rw [<- hrn];rfl
  rw [this];refine B2i (p:=λk=>(A2 k (B6 E y)).isSome) (λk hk=>?_) c9;rw [Ej c2 k] at hk;obtain ⟨h',hh'⟩:=QY.1 hk;have hm':=De hh';rw [(fwdm k h' hm').1,lenk k h' hm']
 have hput:=Pu (nt:=nt) hp;rw [hval] at hput
 let cb:CallB:=⟨E.ts.map PK.isIm,(Br 1000 E.ts x).map (SV.v (A5 (J6 E x))),(Ge (Br 0 E.rs (Lk y))).s (A5 (B6 E y)),Bs (J6 E x),Bs (B6 E y),I3 rn,Io rn,λk h=>q.any λp=>Nat.beq p.1 k&&Nat.beq p.2 h,(Ba E hb s q y).2.st nt⟩
 have hok:cb.OK P E.f (s.st nt) bor:=by
  refine ⟨hF,λk h hq=>?_,λk hk=>?_,λh k hk=>?_,λk b hb=>?_,λk b hb=>?_,?_,?_,a3,λh=>?_,λt z hz=>?_⟩
  . obtain ⟨p,hp1,hp2⟩:=ZY.1 hq;simp only [QF] at hp2;have e1:=QB hp2.1;have e2:=QB hp2.2
    have hm':(k,h) ∈ q:=by rw [<- e1,<- e2];exact hp1
    refine ⟨(fwdm k h (qrn _ hm')).1,?_⟩;show (A2 k (Bs (J6 E x))).isSome=true;rw [inS k,(Mv c1q hm').1];rfl
  . have hk:(A2 k (Bs (B6 E y))).isSome=true:=hk;rw [outS k] at hk;obtain ⟨h',hh'⟩:=QY.1 hk;obtain ⟨e1,e2,_⟩:=fwdm k h' (De hh');show Io rn (I3 rn k)=some k;rw [e1,e2]
  . have hk:Io rn h=some k:=hk;obtain ⟨e1,e2,e3⟩:=fwdm k h (Yo hk);refine ⟨e1,?_⟩;show (A2 k (Bs (B6 E y))).isSome=true;rw [outS k,e3];rfl
  . have hb:A2 k (Bs (J6 E x))=some b:=hb;unfold Bs at hb;rw [Au] at hb;obtain ⟨b3,hb3,rfl⟩:=QE.1 hb;have hmem:=Cf hb3;obtain ⟨h',b',i1,i2,i3,i4,i5⟩:=a4 k b3 hmem;obtain ⟨e1,e2,e3⟩:=fwdm k h' (qrn _ i1);have hk:=QL.1 c4 _ hmem;have hnb:=QL.1 c7 _ i1
    refine ⟨by simpa using hk,?_,(i5 _).1,(i5 _).2,?_,?_⟩
    . show A2 (I3 rn k) (Ak (B3.box (A5 s.boxes)) s.boxes)=_;rw [e1,Au,i2];exact ZN some (i4 _ _)
    . show I3 rn k ∉ bor;rw [e1];intro hmb
      have:(bor.any (Nat.beq h'))=true:=ZY.2 ⟨h',hmb,by simp⟩
      simp only [this,XM] at hnb
      cases hnb
    . show (A2 k (Bs (B6 E y))).isSome=true;rw [outS k,e3];rfl
  . have hb:A2 k (Bs (B6 E y))=some b:=hb
    have hS:(A2 k (Bs (B6 E y))).isSome=true:=by rw [hb];rfl
    rw [outS k] at hS;obtain ⟨h',hh'⟩:=QY.1 hS;obtain ⟨e1,e2,e3⟩:=fwdm k h' (De hh');unfold Bs at hb;rw [Au] at hb;obtain ⟨b3,hb3,rfl⟩:=QE.1 hb;refine ⟨(A85 (L':=λ_=>0) (QL.1 c5 _ (Cf hb3))).2,λhn=>?_⟩;have hn:A2 k (Bs (J6 E x))=none:=hn;rcases newC k h' (De hh') with h1 | ⟨h1,h2,_⟩
    . have:(A2 k (Bs (J6 E x))).isSome=true:=by rw [inS k,(Mv c1q h1).1];rfl
      rw [hn] at this;cases this
    . show A2 (I3 rn k) (Ak _ s.boxes)=none/\I3 rn k<1000;rw [e1,Au,h2];exact ⟨rfl,h1⟩
  . simp only [XA,KG,QF] at c8;rcases c8 with c8 | ⟨c8,c8'⟩
    . exact .inl c8
    . refine .inr ⟨B78 c8,λk b hb=>?_⟩;have hb:A2 k (Bs (B6 E y))=some b:=hb;unfold Bs at hb;rw [Au] at hb;obtain ⟨b3,hb3,rfl⟩:=QE.1 hb;exact B5k (QL.1 c8' _ (Cf hb3))
  . have : (fun k => (A2 k (Bs (B6 E y))).isSome) = fun k => (A2 k (B6 E y)).isSome := by
     funext k;unfold Bs;rw [Au,KU]
    show S.okH (λk=>(A2 k (Bs (B6 E y))).isSome) _=true;rw [this];exact B63 c9
  . show A2 h (Ak (B3.box (A5 (Ba E hb s q y).2.boxes)) (Ba E hb s q y).2.boxes)=match Io rn h with | some k=>A2 k (Bs (B6 E y)) | none=>A2 h (Ak (B3.box (A5 s.boxes)) s.boxes)
    rw [Au,blook h]
    cases hw:Io rn h with
    | some k =>
     simp only;unfold Bs;rw [Au]
     cases hb:A2 k (B6 E y) with
     | none=>rfl
     | some b3=>exact ZN some (A85 (QL.1 c5 _ (Cf hb))).1
    | none =>
     simp only;rw [Au]
     cases hb:A2 h s.boxes with
     | none=>rfl
     | some b3 =>
      refine ZN some (Anc λk hk=>?_)
      cases hki:(Cs E rn).any (Nat.beq k) with
      | true =>
       obtain ⟨k2,hk2,hk3⟩:=ZY.1 hki;obtain rfl:=QB hk3;have:=QL.1 (QL.1 c10 _ hk2) _ (Cf hb);simp only [hk,XM] at this
       cases this
      | false =>
       rcases lenM k hki with h1 | h1
       . rw [O8 hb h1] at hk;cases hk
       . exact h1
  . have hz:A2 t (Ak (SV.s (A5 (Ba E hb s q y).2.boxes)) (Ak (λx=>bif (Cs E (Hv E hb q)).any (λh=>x.men h) then .dead else x) s.slots))=some z:=hz
    rw [hrn,Au,Au,Option.map_map] at hz;obtain ⟨z0,hz0,rfl⟩:=QE.1 hz;simp only [Function.comp]
    cases hki:(Cs E rn).any (λh=>z0.men h) with
    | true=>exact .inl rfl
    | false =>
     right;show A2 t (Ak (SV.s (A5 s.boxes)) s.slots)=_;rw [Au,hz0];refine ZN some (Auh λk hk=>?_)
     cases hki':(Cs E rn).any (Nat.beq k) with
     | true =>
      obtain ⟨k2,hk2,hk3⟩:=ZY.1 hki';obtain rfl:=QB hk3;have:=YW.1 hki _ hk2;rw [hk] at this;exact absurd rfl this
     | false =>
      rcases lenM k hki' with h1 | h1
      . rw [cleanS hz0 h1] at hk;cases hk
      . exact h1.symm
 refine ⟨{ callB:=some cb },cb.OK P E.f (s.st nt) bor::ob,?_,λp hp=>?_⟩
 . have a1' : Gz cb.hd (s.st nt).box cb.ims (c.args.toList.map (s.st nt).val ++ cs.map fun x => S.v (V.one (C.i x))) cb.args = some (ob, bor) := by
    rw [hmap];exact a1
   simp only [Da,Aaf,hf,hfv,k1,a1'];have:cb.s'.putD K dst (cb.r.ren cb.σ)=some (s'.st nt):=hput;rw [this];rfl
 . rcases QT.1 hp with rfl | hp
   . exact hok
   . exact a2 p hp
def onB {α:Type} (K:Ah) (E:Iw) (hb:Nat) (o:Oper) (s:St3) (x:HP E.ts) (bor:List Nat) (q:List (Nat × Nat)) (y:HR E.rs (Ao 1000 E.ts)) (k:St3->Option α):Option α :=
 bif Fn E hb s x bor q y then bif Fb (B6 E y) s.boxes (Cs E (Hv E hb q)) q then (match (Ba E hb s q y).2.put3 K o.dst (Ba E hb s q y).1 with
  | some s'=>k s'
  | none=>none) else none else none
def Pq {α:Type} (K:Ah) (E:Ent3) (hb:Nat) (o:Oper) (s:St3) (k:St3->Option α):Option α :=
 match Im E.f E.ts o s with
 | some (g,x,bor,q)=>bif g then (match E.m x with
  | some z=>Il (Ao 1000 E.ts) E.forms z λrs y=>onB K ⟨E.f,E.ts,rs⟩ hb o s x bor q y k
  | none=>none) else none
 | none=>none
theorem Un {α:Type} {K:Ah} {E:Ent3} {hb:Nat} {o:Oper} {s:St3} {nt:Nat} {k:St3->Option α} {r:α} (h:Pq K E hb o s k=some r) (hE:E.Sound P) :
  ∃ s' D obs,Da P T K o D (s.st nt)=some (s'.st nt,obs)/\(∀ p ∈ obs,p)/\k s'=some r:=by
 unfold Pq at h;split at h
 . rename_i g x bor q hc
   cases g with
   | false=>cases h
   | true =>
    simp only [cond] at h;split at h
    . rename_i z hm;obtain ⟨rs,y,h1,h2⟩:=Lz h (hE nt x z hm);unfold onB at h1
      cases hck:Fn ⟨E.f,E.ts,rs⟩ hb s x bor q y with
      | false=>rw [hck] at h1;cases h1
      | true =>
       rw [hck] at h1;simp only [cond] at h1
       cases hl:Fb (B6 ⟨E.f,E.ts,rs⟩ y) s.boxes (Cs ⟨E.f,E.ts,rs⟩ (Hv ⟨E.f,E.ts,rs⟩ hb q)) q with
       | false=>rw [hl] at h1;cases h1
       | true =>
        rw [hl] at h1;simp only at h1;split at h1
        . rename_i s' hp;obtain ⟨D,obs,q1,q2⟩:=A9q (T:=T) (E:=⟨E.f,E.ts,rs⟩) hc hck hl h2 hp;exact ⟨s',D,obs,q1,q2,h1⟩
        . cases h1
    . cases h
 . cases h
end Go.Ev

/- DERIVED. In place of EvTr EvTs EvTt EvTu EwTr EwTu, where no trees are wanted. -/
namespace Go.Ev
open Go
variable {P:Program} {T:Ty}
theorem Dq.weak {K:Ah} {o:Oper} {s s1 s2:St} (h:Dq P K o s s1) (hw:X9 s1 s2):Dq P K o s s2 :=
 λΓ w E a ro n X hK hX hx hs next Q hn=>h Γ w E a ro n X hK hX hx hs next Q λa' w' hx' ⟨E',hs'⟩=>hn a' w' hx' (hw Γ w' E' a'.tmps hs')
def A35 (_:Ty) (_:Oper) (_:St3):Option (Bool × St3):=none
theorem A9x (_:Az P T) {K:Ah} {o:Oper} {s s':St3} {nt:Nat} {g:Bool} (h:A35 T o s=some (g,s')) (_:g=true):Dq P K o (s.st nt) (s'.st nt):=by cases h
def Ab3 (_:Ty) (_:Ah) (_:Oper) (_:St3):Option (Bool × St3):=none
theorem Ag9 (_:Az P T) {K:Ah} {o:Oper} {s s':St3} {nt:Nat} {g:Bool} (h:Ab3 T K o s=some (g,s')) (_:g=true):Dq P K o (s.st nt) (s'.st nt):=by cases h
def Ab2 (_:Sh) (_:Nat) (_:St3):Option St3:=none
theorem Ag8 {sh:Sh} {k:Nat} {s s':St3} {nt:Nat} (h:Ab2 sh k s=some s'):X9 (s.st nt) (s'.st nt):=by cases h
def B5m {α:Type} (_:Ty) (_:Ah) (_:Nat) (_:Oper) (_:St3) (_:St3->Option α):Option α:=none
theorem B1y (_:Az P T) {α:Type} {K:Ah} {kk:Nat} {o:Oper} {s:St3} {nt:Nat} {k:St3->Option α} {r:α} (h:B5m T K kk o s k=some r) :
  ∃ s':St3,Dq P K o (s.st nt) (s'.st nt)/\k s'=some r:=by cases h
inductive Shut where
 | hole (kk:Nat)
def Axf (_:Shut) (_:St3):Option (Bool × St3):=none
theorem Aug {kk:Shut} {s s':St3} {g:Bool} {nt:Nat} (h:Axf kk s=some (g,s')) (_:g=true):X9 (s.st nt) (s'.st nt):=by cases h
end Go.Ev

/- DERIVED. Code over shapes: all paths, in one expression. -/
namespace Go.Ev
open Go
variable {P:Program} {T:Ty}
structure OA where
 ent:Option Ent:=none
 sh:Option Sh:=none
 fz:List (Nat × Sh):=[]
 entB:Option Ent3:=none
 hb:Nat:=0
 tr:Option Sh:=none
 alt:List Ent3:=[]
 bor:Option Nat:=none
 shut:Option Shut:=none
def OA.two (a:OA):Bool:=(a.ent.isSome&&a.entB.isSome) || !a.alt.isEmpty || (a.bor.isSome || a.shut.isSome)
theorem OA.two_false {a:OA} (h:a.two=false):(a.ent.isSome&&a.entB.isSome)=false/\a.alt=[]/\a.bor=none/\a.shut=none:=by
 unfold OA.two at h;simp only [Bool.or_eq_false_iff,Bool.not_eq_false'] at h
 exact ⟨h.1.1,KG.1 h.1.2,by simpa using h.2.1,by simpa using h.2.2⟩
structure RA where
 m:Nat:=0
 fz:List (Nat × Sh):=[]
 ops:List (Nat × OA):=[]
@[reducible] def KS (α:Type):List (Exit × Tm)->Type
 | []=>Unit
 | (_,X)::r=>(X.den->Option α) × KS α r
def My {α:Type} (k:Exit->St3->Option α):(l:List (Exit × Tm))->KS α l
 | []=>()
 | (x,X)::r=>(λw=>k x (X.enc w),My k r)
def Exit.eqb:Exit->Exit->Bool
 | .normal,.normal=>true
 | .ret,.ret=>true
 | .exit i,.exit j=>Nat.beq i j
 | _,_=>false
theorem Exit.eqb_eq {a b:Exit} (h:Exit.eqb a b=true):a=b:=by
 unfold Exit.eqb at h;split at h
 . rfl
 . rfl
 . rw [QB h]
 . cases h
def Ll {α:Type}:(l:List (Exit × Tm))->KS α l->Exit->St3->Option α
 | [],_,_,_=>none
 | (x,X)::r,ks,y,s=>bif Exit.eqb x y then (match X.dec s with
  | some w=>ks.1 w
  | none=>none) else Ll r ks.2 y s
structure LO (α:Type) where
 H:Tm
 outs:List (Exit × Tm)
 run:H.den->KS α outs->Option α
structure D3 (α:Type) where
 reg:List (Nat × RA):=[]
 join:List (Nat × Tm):=[]
 loop:List (Nat × LO α):=[]
 any:List (Nat × Tm):=[]
def C5:Code->Nat
 | .region id _ _=>id
 | .seq c d=>match C5 c with
  | 0=>C5 d
  | n+1=>n+1
 | .cond _ c d=>match C5 c with
  | 0=>C5 d
  | n+1=>n+1
 | .block _ c=>C5 c
 | .loop c=>C5 c
 | .rangeFunc _ _ a b=>match C5 a with
  | 0=>C5 b
  | n+1=>n+1
 | _=>0
def Z5 {α:Type} (k:Nat) (x:α):List (Nat × α)->List (Nat × α)
 | []=>[]
 | (j,y)::r=>bif Nat.beq j k then (j,x)::r else (j,y)::Z5 k x r
def H2 {α:Type}:List (Nat × Sh)->St3->(St3->Option α)->Option α
 | [],s,k=>k s
 | (t,sh)::r,s,k=>match M7 s t sh with
  | some (g,s1)=>bif g then H2 r s1 k else none
  | none=>none
def ob {α β:Type} (x:Option β) (k:β->Option α):Option α:=match x with
 | some r=>k r
 | none=>none
def gd {α:Type} (g:Bool) (x:Option α):Option α:=bif g then x else none
abbrev W (x:Int):Int:=IntKind.i64.wrap x
def Yp (T:Ty) (K:Ah) (A:OA) (o:Oper) (s:St3):Option (Bool × St3) :=
 match K5 T A.sh o s with
 | some r=>match s.eff3 K o.dst r.eff with
  | some s1=>match s1.put3 K o.dst r.val with
   | some s'=>match A.tr with
    | none=>some (r.g,s')
    | some sh=>match o.dst with
     | some d=>(Ab2 sh d s').map λs2=>(r.g,s2)
     | none=>none
   | none=>none
  | none=>none
 | none=>match A35 T o s with
  | some q=>some q
  | none=>Ab3 T K o s
def Afw:List Ent3->Oper->St3->Option Ent3
 | [],_,_=>none
 | E::r,o,s=>match Im E.f E.ts o s with
  | some _=>some E
  | none=>Afw r o s
theorem Afv:∀ {l:List Ent3} {o:Oper} {s:St3} {E:Ent3},Afw l o s=some E->E ∈ l
 | [],_,_,_,h=>by cases h
 | F::r,o,s,E,h=>by
  simp only [Afw] at h;split at h
  . cases h;exact XY
  . exact ZM _ (Afv h)
def Pr {α:Type} (T:Ty) (K:Ah) (A:OA) (o:Oper) (s:St3) (k:St3->Option α):Option α :=
 match Afw A.alt o s with
 | some E=>Pq K E A.hb o s k
 | none=>match A.ent with
 | some E=>match P7 E o s with
  | some (g,x)=>bif g then ob (E.m x) (λr=>match s.put3 K o.dst (Ae E.rs r) with
    | some s'=>k s'
    | none=>none) else none
  | none=>match A.entB with
   | some F=>Pq K F A.hb o s k
   | none=>none
 | none=>match A.entB with
 | some E=>Pq K E A.hb o s k
 | none=>match Yp T K A o s with
  | some (g,s')=>bif g then k s' else none
  | none=>none
def R0 {α:Type} (T:Ty) (K:Ah) (A:OA) (o:Oper) (s:St3) (k:St3->Option α):Option α :=
 match A.bor with
 | some kk=>B5m T K kk o s k
 | none=>match A.shut with
  | none=>Pr T K A o s k
  | some kk=>Pr T K A o s λs1=>match Axf kk s1 with
   | some (g,s2)=>bif g then k s2 else none
   | none=>none
def Aah {α:Type} (K:Ah) (o:Oper) (s:St3) (k:St3->Option α):Option α :=
 match s.put3 K o.dst (.tup []) with
 | some s'=>k s'
 | none=>none
def Va {α:Type} (ops:List Oper) (o:Oper) (s:St3) (f g:St3->Option α):Option α :=
 match o.guard with
 | none=>f s
 | some (j,want)=>match ops[j]? with
  | some p=>match p.dst with
   | some t=>match A2 t s.slots with
    | some (.d .bool b)=>bif b then
      (bif want then f { s with slots:=Z5 t (.d .bool true) s.slots } else g { s with slots:=Z5 t (.d .bool true) s.slots }) else
      (bif want then g { s with slots:=Z5 t (.d .bool false) s.slots } else f { s with slots:=Z5 t (.d .bool false) s.slots })
    | some (.tup [])=>g s
    | _=>none
   | none=>none
  | none=>none
def H3 {α:Type} (T:Ty) (K:Ah) (ops:List Oper) (A:List (Nat × OA)):List (Nat × Oper)->St3->(St3->Option α)->Option α
 | [],s,k=>k s
 | (i,o)::r,s,k=>H2 ((A2 i A).getD {}).fz s λs0=>Va ops o s0 (λs1=>R0 T K ((A2 i A).getD {}) o s1 λs2=>H3 T K ops A r s2 k) (λs1=>Aah K o s1 λs2=>H3 T K ops A r s2 k)
def OA.quiet (T:Ty) (A:OA) (o:Oper) (s:St3):Bool :=
 A.fz.isEmpty&&A.tr.isNone&&A.alt.isEmpty&&(A.bor.isNone&&A.shut.isNone)&&(match A.entB with | some _=>false | none=>true)&&(match o.dst with | some _=>true | none=>false)&&(match A.ent with
 | some _=>true
 | none=>match K5 T A.sh o s with
  | some r=>match r.eff with
   | .none=>true
   | _=>false
  | none=>false)
def Abo {α:Type} (T:Ty) (K:Ah) (ops:List Oper) (A:List (Nat × OA)):List (Nat × Oper)->St3->(St3->Option α)->Option α
 | [],s,k=>k s
 | (i,o)::r,s,k=>Va ops o s
   (λs1=>bif OA.quiet T ((A2 i A).getD {}) o s1 then R0 T K ((A2 i A).getD {}) o s1 (λs2=>Abo T K ops A r s2 k) else none)
   (λs1=>bif o.dst.isSome then Aah K o s1 (λs2=>Abo T K ops A r s2 k) else none)
def Auj {α:Type} (P:Program) (T:Ty) (K:Ah) (A:RA) (ops:Array Oper) (draw:Bool) (s:St3) (k:St3->Option α):Option α :=
 bif draw then
  bif Dk ops A.m then H2 A.fz s λs0=>Abo T K ops.toList A.ops ((A7 ops.toList).take A.m) s0 λs1=>H3 T K ops.toList A.ops ((A7 ops.toList).drop A.m) s1 k else none
 else H3 T K ops.toList A.ops (A7 ops.toList) s k
def Aa:Code->List (Nat × Code)
 | .seq c d=>Aa c++Aa d
 | .cond _ c d=>Aa c++Aa d
 | .block _ c=>Aa c
 | .loop c=>[(C5 c,.loop c)]
 | .rangeFunc f ps a b=>[(match C5 a with | 0=>C5 b | n+1=>n+1,.rangeFunc f ps a b)]
 | _=>[]
def Ar:Code->List (Nat × Array Oper)
 | .seq c d=>Ar c++Ar d
 | .cond _ c d=>Ar c++Ar d
 | .block _ c=>Ar c
 | .loop c=>Ar c
 | .region id ops true=>[(id,ops)]
 | _=>[]
def Tr (id:Nat):List (Nat × Tm)->List Tm
 | []=>[]
 | (i,X)::r=>bif Nat.beq i id then X::Tr id r else Tr id r
def Aai {α:Type} (s:St3) (f:(X:Tm)->X.den->Option α):List Tm->Option α
 | []=>none
 | X::r=>match X.dec s with
  | some w=>f X w
  | none=>Aai s f r
def Be {α:Type} (P:Program) (T:Ty) (K:Ah) (D:D3 α):Code->St3->(Exit->St3->Option α)->Option α
 | .skip,s,k=>k .normal s
 | .region id ops draw,s,k=>match Tr id D.any with
  | []=>Auj P T K ((A2 id D.reg).getD {}) ops draw s (k .normal)
  | X::r=>bif draw then Aai s (λX w=>H3 T K ops.toList ((A2 id D.reg).getD {}).ops (A7 ops.toList) (X.enc w) (k .normal)) (X::r) else none
 | .seq c d,s,k=>match A2 (C5 d) D.join with
  | none=>Be P T K D c s λx s1=>match x with
   | .normal=>Be P T K D d s1 k
   | x=>k x s1
  | some X=>(λ(J:X.den->Option α)=>Be P T K D c s λx s1=>match x with
   | .normal=>match X.dec s1 with
    | some w=>J w
    | none=>none
   | x=>k x s1) λw=>Be P T K D d (X.enc w) k
 | .cond (.tmp t) c d,s,k=>match A2 t s.slots with
  | some (.d .bool b)=>bif b then Be P T K D c { s with slots:=Z5 t (.d .bool true) s.slots } k else Be P T K D d { s with slots:=Z5 t (.d .bool false) s.slots } k
  | _=>none
 | .block id c,s,k=>Be P T K D c s λx s1=>match x with
  | .exit j=>bif Nat.beq j id then k .normal s1 else k (.exit j) s1
  | x=>k x s1
 | .loop c,s,k=>match A2 (C5 c) D.loop with
  | some L=>match L.H.dec s with
   | some v=>L.run v (My k L.outs)
   | none=>bif (Aa c).isEmpty then Be P T K D c s λx s1=>match x with
    | .normal=>match L.H.dec s1 with
     | some v=>L.run v (My k L.outs)
     | none=>none
    | x=>k x s1 else none
  | none=>none
 | .rangeFunc _ _ a b,s,k=>match A2 (match C5 a with | 0=>C5 b | n+1=>n+1) D.loop with
  | some L=>match L.H.dec s with
   | some v=>L.run v (My k L.outs)
   | none=>none
  | none=>none
 | .exit id,s,k=>k (.exit id) s
 | .ret,s,k=>k .ret s
 | _,_,_=>none
def A6 {α:Type} {V Ks:Type} (B:V->(V->Option α)->Ks->Option α):Nat->V->Ks->Option α
 | 0,_,_=>none
 | n+1,v,ks=>B v (λv'=>A6 B n v' ks) ks
def A5j {α:Type} (H:Tm) (outs:List (Exit × Tm)) (f:H.den->Option α) (ks:KS α outs) (x:Exit) (s:St3):Option α :=
 match x with
 | .normal=>match H.dec s with
  | some v=>f v
  | none=>none
 | x=>Ll outs ks x s
def A61 (T:Ty) (s:St3):ResultVar->Option SV
 | .tmp t=>A2 t s.slots
 | .cell a t=>match s.val (.tmp a) with
  | .hp h row col=>match A2 h s.boxes with
   | some (.var _ _ _ _)=>match Xj T t (.hp h row col) s.boxes with
    | some r=>some r.val
    | none=>none
   | _=>none
  | _=>none
def Uz (T:Ty) (s:St3) (rv:ResultVar) (t:Sh):Option (Bool × t.den × List Nat) :=
 match A61 T s rv with
 | some v=>Wz s.boxes t v
 | none=>none
def Hw (T:Ty) (s:St3):(ts:List Sh)->List ResultVar->Option (Bool × HL ts)
 | [],[]=>some (true,())
 | [t],[rv]=>match Uz T s rv t with
  | some (g,x,_)=>some (g,x)
  | none=>none
 | t::u::r,rv::rvs=>match Uz T s rv t,Hw T s (u::r) rvs with
  | some (g,x,_),some (g',xs)=>some (g&&g',(x,xs))
  | _,_=>none
 | _,_=>none
def Av9 (T:Ty) (rs:List Sh) (rvs:List ResultVar) (x:Exit) (s:St3):Option (HL rs) :=
 match x with
 | .exit _=>none
 | .normal=>match Hw T s rs rvs with
  | some (g,y)=>bif g then some y else none
  | none=>none
 | .ret=>match Hw T s rs rvs with
  | some (g,y)=>bif g then some y else none
  | none=>none
 | _=>none
def Ei (i:Nat):List SV->List (Nat × SV)
 | []=>[]
 | x::r=>(i,x)::Ei (i+1) r
def Wx (ts:List Sh) (x:HL ts):St3:=⟨Ei 0 (Dz ts x),[]⟩
end Go.Ev

/- DERIVED. Code over shapes is what the code does. -/
namespace Go.Ev
open Go
variable {P:Program} {T:Ty} {α:Type}
theorem Ano {f:SV->S} {t:Nat} {x y:SV} (hxy:f x=f y):∀ {l:List (Nat × SV)},A2 t l=some y->Ak f (Z5 t x l)=Ak f l
 | [],h=>by cases h
 | (j,z)::r,h=>by
  simp only [A2] at h;simp only [Z5]
  cases hb:Nat.beq j t with
  | true =>
   rw [hb] at h;simp only [cond,QC] at h;subst h;simp [Ak,hxy]
  | false =>
   rw [hb] at h;have:=Ano hxy h;simp only [Ak] at this;simp [Ak,this]
theorem Pe {nt:Nat}:∀ {l:List (Nat × Sh)} {s:St3} {k:St3->Option α} {r:α},H2 l s k=some r->∃ s' fz ob,E7 fz (s.st nt)=some (s'.st nt,ob)/\(∀ p ∈ ob,p)/\k s'=some r/\(l=[]->fz=[]/\s'=s)
 | [],s,k,r,h=>⟨s,[],[],rfl,by simp,h,λ_=>⟨rfl,rfl⟩⟩
 | (t,sh)::l,s,k,r,h=>by
  simp only [H2] at h;split at h
  . rename_i g s1 hs
    cases g with
    | false=>cases h
    | true =>
     obtain ⟨x',ob,h1,h2⟩:=R2 (nt:=nt) hs rfl;obtain ⟨s2,fz,ob2,h3,h4,h5,_⟩:=Pe (nt:=nt) (l:=l) h
     refine ⟨s2,(t,x')::fz,ob++ob2,by simp only [E7,h1,h3],λp hp=>?_,h5,λe=>by cases e⟩
     rcases QD.1 hp with hp | hp
     . exact h2 p hp
     . exact h4 p hp
  . cases h
theorem Akf {o:Oper} {s:St3} {nt:Nat} {A:Option Sh} {r:R3} (h:K5 T A o s=some r) (hg:r.g=true) (he:r.eff = .none) :
  ∃ D obs,(∀ p ∈ obs,p)/\quiet P T o D (s.st nt)=some (r.val.s (A5 s.boxes),obs):=by
 obtain ⟨hnt,q,h1,h2,h3⟩:=Aff (nt:=nt) h hg;unfold Hp at h3;rw [he] at h3
 refine ⟨{ cells:=hnt },q.ob++[],by simpa using h2,?_⟩
 unfold quiet;simp only [h1,h3.1,Option.getD_none,h3.2]
theorem Auf {K:Ah} {o:Oper} {D:F2} {s:St} (fz:List (Nat × V)):Da P T K o { D with fz:=fz } s=Da P T K o D s:=rfl
def OA.S (P:Program) (a:OA):Prop:=(∀ E,a.ent=some E->E.Sound P)/\(∀ E,a.entB=some E->E.Sound P) /\ ∀ E,E ∈ a.alt->E.Sound P
theorem Afp (hT:Az P T) {K:Ah} {A:OA} {o:Oper} {s s':St3} {nt:Nat} {g:Bool} (h:Yp T K A o s=some (g,s')) (hg:g=true) :
  ∃ D obs,Da P T K o D (s.st nt)=some (s'.st nt,obs) /\ ∀ p ∈ obs,p:=by
 unfold Yp at h;split at h
 . rename_i q hq;split at h
   . rename_i s1 he;split at h
     . rename_i s2 hp
       have key:q.g=true->∃ D obs,Da P T K o D (s.st nt)=some (s2.st nt,obs) /\ ∀ p ∈ obs,p:=λhg=>by
        obtain ⟨hnt,r1,h1,h2,h3⟩:=Aff (nt:=nt) hq hg;obtain ⟨h4,h5⟩:=B1v (nt:=nt) he h3;have h6:=Pu (nt:=nt) hp;rw [<- h5] at h6
        refine ⟨{ cells:=hnt },r1.ob++[]++[],?_,by simpa using h2⟩
        unfold Da;simp only [h1,h4,Option.getD_none,h6,QR]
       split at h
       . simp only [QC,QG] at h;obtain ⟨rfl,rfl⟩:=h;exact key hg
       . split at h
         . simp only [QE,QG] at h;obtain ⟨s3,h3,rfl,rfl⟩:=h;obtain ⟨D,obs,k1,k2⟩:=key hg
           exact ⟨{ own:=some (s3.st nt) },_,rfl,λp hp=>by
            rw [QO.1 hp]
            exact (F4 hT k1 k2).weak (Ag8 h3)⟩
         . cases h
     . cases h
   . cases h
 . split at h
   . rename_i q hq;obtain rfl:=QA h
     exact ⟨{ own:=some (s'.st nt) },_,rfl,λp hp=>by rw [QO.1 hp];exact A9x hT hq hg⟩
   . exact ⟨{ own:=some (s'.st nt) },_,rfl,λp hp=>by rw [QO.1 hp];exact Ag9 hT h hg⟩
theorem A80 (hT:Az P T) {K:Ah} {A:OA} {o:Oper} {s:St3} {nt:Nat} {k:St3->Option α} {r:α} (h:Pr T K A o s k=some r) (hE:A.S P) :
  ∃ s' D obs,Da P T K o D (s.st nt)=some (s'.st nt,obs)/\(∀ p ∈ obs,p)/\k s'=some r:=by
 unfold Pr at h;split at h
 . rename_i E hal;exact Un h (hE.2.2 E (Afv hal))
 split at h
 . rename_i E hent;split at h
   . rename_i g x hc
     cases g with
     | false=>cases h
     | true =>
      simp only [cond,ob] at h;split at h
      . rename_i y hm;split at h
        . rename_i s' hp;obtain ⟨obs,h1,h2⟩:=A2t (T:=T) (nt:=nt) hc hm (hE.1 E hent);have:=Pu (nt:=nt) hp;rw [A5y] at this;obtain ⟨D',obs',h3,h4⟩:=R5 h2 this;exact ⟨s',D',obs',h3,h4 h1,h⟩
        . cases h
      . cases h
   . split at h
     . rename_i F hF;exact Un h (hE.2.1 F hF)
     . cases h
 split at h
 . rename_i E hent;exact Un h (hE.2.1 E hent)
 . split at h
   . rename_i g s' hq
     cases g with
     | false=>cases h
     | true =>
      obtain ⟨D,obs,h1,h2⟩:=Afp (nt:=nt) hT hq rfl;exact ⟨s',D,obs,h1,h2,h⟩
   . cases h
theorem Aue (hT:Az P T) {K:Ah} {A:OA} {o:Oper} {s:St3} {nt:Nat} {k:St3->Option α} {r:α} (h:R0 T K A o s k=some r) (hE:A.S P) :
  ∃ s' D obs,Da P T K o D (s.st nt)=some (s'.st nt,obs)/\(∀ p ∈ obs,p)/\k s'=some r:=by
 unfold R0 at h;split at h
 . obtain ⟨s',h1,h2⟩:=B1y (nt:=nt) hT h
   exact ⟨s',{ own:=some (s'.st nt) },_,rfl,λp hp=>by rw [QO.1 hp];exact h1,h2⟩
 . split at h
   . exact A80 hT h hE
   . obtain ⟨s1,D,obs,h1,h2,h3⟩:=A80 (nt:=nt) hT h hE;split at h3
     . rename_i g s2 hs
       cases g with
       | false=>cases h3
       | true=>exact ⟨s2,{ own:=some (s2.st nt) },_,rfl,λp hp=>by rw [QO.1 hp];exact (F4 hT h1 h2).weak (Aug hs rfl),h3⟩
     . cases h3
theorem Ao5 {K:Ah} {A:OA} {o:Oper} {s:St3} {nt:Nat} {k:St3->Option α} {r:α} (h:R0 T K A o s k=some r) (hq:A.quiet T o s=true) (hE:A.S P) :
  ∃ t s' D x obs,o.dst=some t/\Nat.blt t K.N=true/\quiet P T o D (s.st nt)=some (x,obs)/\(∀ p ∈ obs,p)/\k s'=some r/\s'.st nt={ s.st nt with slots:=B0 t x (s.st nt).slots }:=by
 unfold OA.quiet at hq;simp only [QF] at hq;obtain ⟨⟨⟨⟨⟨⟨_,hqt⟩,hqa⟩,hqb,hqc⟩,hq0⟩,hq1⟩,hq2⟩:=hq
 have putI:∀ {s s':St3} {y:SV},s.put3 K o.dst y=some s'->∃ t,o.dst=some t/\Nat.blt t K.N=true/\s'.st nt={ s.st nt with slots:=B0 t (y.s (A5 s.boxes)) (s.st nt).slots }:=by
  intro s s' y hp;unfold St3.put3 at hp
  cases hd:o.dst with
  | none=>rw [hd] at hq1;cases hq1
  | some t =>
   rw [hd] at hp;simp only at hp
   cases hb:Nat.blt t K.N with
   | false=>rw [hb] at hp;cases hp
   | true =>
    rw [hb] at hp;obtain rfl:=QA hp
    exact ⟨t,rfl,hb,by simp only [St3.st,Ek]⟩
 unfold R0 at h
 rw [show A.bor=none by simpa using hqb,show A.shut=none by simpa using hqc] at h
 simp only at h;unfold Pr at h;split at h
 . rename_i E hal;rw [KG.1 hqa] at hal;cases hal
 split at h
 . rename_i E hent;split at h
   . rename_i g x hc
     cases g with
     | false=>cases h
     | true =>
      simp only [cond,ob] at h;split at h
      . rename_i y hm;split at h
        . rename_i s' hp;obtain ⟨obs,h1,h2⟩:=A2t (T:=T) (nt:=nt) hc hm (hE.1 E hent);obtain ⟨t,p1,p2,p3⟩:=putI hp;rw [A5y] at p3;exact ⟨t,s',_,_,obs,p1,p2,h2,h1,h,p3⟩
        . cases h
      . cases h
   . split at h
     . rename_i F hF;rw [hF] at hq0;cases hq0
     . cases h
 split at h
 . rename_i E hB;rw [hB] at hq0;cases hq0
 . rename_i hent _ _;rw [hent] at hq2;simp only at hq2
   cases hcq:K5 T A.sh o s with
   | none=>rw [hcq] at hq2;cases hq2
   | some q =>
    rw [hcq] at hq2;simp only at hq2
    have he:q.eff = .none:=by
     cases e:q.eff <;> first | rfl | (rw [e] at hq2;cases hq2)
    have htr:A.tr=none:=by
     cases e:A.tr with
     | none=>rfl
     | some _=>rw [e] at hqt;cases hqt
    unfold Yp at h;rw [hcq] at h;simp only [he,St3.eff3,htr] at h;split at h
    . rename_i g s' hb;split at hb
      . rename_i s2 hp;simp only [QC,QG] at hb;obtain ⟨hg,rfl⟩:=hb
        cases g with
        | false=>cases h
        | true =>
         simp only [cond] at h;obtain ⟨D,obs,h1,h2⟩:=Akf (P:=P) (nt:=nt) hcq hg he;obtain ⟨t,p1,p2,p3⟩:=putI hp;exact ⟨t,_,D,_,obs,p1,p2,h2,h1,h,p3⟩
      . cases hb
    . cases h
theorem A82 {s:St3} {nt t:Nat} {b:Bool} (h:A2 t s.slots=some (.d .bool b)):A2 t (s.st nt).slots=some (.v (.one (.i (.lit (.bool b))))):=by
 simp only [St3.st,Au,h];rfl
theorem Iy {s:St3} {nt t:Nat} {b:Bool} (h:A2 t s.slots=some (.d .bool b)):(({ s with slots:=Z5 t (.d .bool b) s.slots }:St3).st nt)=s.st nt:=by
 simp only [St3.st];rw [Ano rfl h]
theorem A8f {ops:List Oper} {o:Oper} {s:St3} {nt:Nat} {f g:St3->Option α} {r:α} (h:Va ops o s f g=some r) :
  ∃ s0,s0.st nt=s.st nt/\((Gf (s.st nt) ops o=some true/\f s0=some r) \/ (Gf (s.st nt) ops o=some false/\g s0=some r)):=by
 unfold Va at h;unfold Gf;split at h
 . rename_i hg;rw [hg]
   exact ⟨s,rfl,.inl ⟨by first | rfl | trivial,h⟩⟩
 . rename_i j want hg;rw [hg];simp only;split at h
   . rename_i p hp;simp only [hp];split at h
     . rename_i t ht;simp only [ht];split at h
       . rename_i b hl;simp only [A82 (nt:=nt) hl]
         cases b <;> cases want <;> simp only [cond] at h
         . exact ⟨_,Iy hl,.inl ⟨by first | rfl | trivial,h⟩⟩
         . exact ⟨_,Iy hl,.inr ⟨by first | rfl | trivial,h⟩⟩
         . exact ⟨_,Iy hl,.inr ⟨by first | rfl | trivial,h⟩⟩
         . exact ⟨_,Iy hl,.inl ⟨by first | rfl | trivial,h⟩⟩
       . rename_i hl
         have:A2 t (s.st nt).slots=some (.tup []):=by
          simp only [St3.st,Au,hl];rfl
         simp only [this]
         exact ⟨s,rfl,.inr ⟨by first | rfl | trivial,h⟩⟩
       . cases h
     . cases h
   . cases h
theorem Abc {K:Ah} {o:Oper} {s:St3} {nt:Nat} {k:St3->Option α} {r:α} (h:Aah K o s k=some r):∃ s',(s.st nt).putD K o.dst (.tup [])=some (s'.st nt)/\k s'=some r:=by
 unfold Aah at h;split at h
 . rename_i s' hp;exact ⟨s',Pu (nt:=nt) hp,h⟩
 . cases h
theorem Ht {K:Ah} {ops:List Oper} {Ds Ds':List (Nat × F2)}:∀ (l:List (Nat × Oper)) (s:St),(∀ p ∈ l,A2 p.1 Ds=A2 p.1 Ds')->Cp P T K ops Ds l s=Cp P T K ops Ds' l s
 | [],_,_=>rfl
 | (i,o)::r,s,h=>by
  have h0:=h (i,o) (by simp)
  have ih:=λs=>Ht (K:=K) (ops:=ops) r s λp hp=>h p (by simp [hp])
  simp only [Cp];rw [show A2 i Ds=A2 i Ds' from h0];simp only [ih]
theorem Hs {K:Ah} {ops:List Oper} {Ds Ds':List (Nat × F2)}:∀ (l:List (Nat × Oper)) (xs:List (Nat × Nat × S)) (s:St),(∀ p ∈ l,A2 p.1 Ds=A2 p.1 Ds')->Fi P T K ops Ds l xs s=Fi P T K ops Ds' l xs s
 | [],_,_,_=>rfl
 | (i,o)::r,xs,s,h=>by
  have h0:=h (i,o) (by simp)
  have ih:=λxs s=>Hs (K:=K) (ops:=ops) r xs s λp hp=>h p (by simp [hp])
  simp only [Fi];rw [show A2 i Ds=A2 i Ds' from h0];simp only [ih]
theorem B7 {β:Type} {i j:Nat} {x:β} {l:List (Nat × β)} (h:i ≠ j):A2 j ((i,x)::l)=A2 j l:=by
 simp only [A2]
 have:Nat.beq i j=false:=by cases e:Nat.beq i j with | false=>rfl | true=>exact absurd (QB e) h
 rw [this];rfl
theorem Bf {β:Type} {i:Nat} {x:β} {l:List (Nat × β)}:A2 i ((i,x)::l)=some x:=by
 simp only [A2,XU];rfl
theorem Xf (hT:Az P T) {K:Ah} {ops:List Oper} {A:List (Nat × OA)} {nt:Nat} (hE:∀ i a,A2 i A=some a->a.S P):∀ (l:List (Nat × Oper)) (s:St3) (k:St3->Option α) (r:α),(l.map (·.1)).Nodup->H3 T K ops A l s k=some r ->
  ∃ s' Ds obs,k s'=some r/\Cp P T K ops Ds l (s.st nt)=some (s'.st nt,obs) /\ ∀ p ∈ obs,p
 | [],s,k,r,_,h=>⟨s,[],[],h,rfl,by simp⟩
 | (i,o)::l,s,k,r,hn,h=>by
  simp only [QS,KO] at hn;simp only [H3] at h;obtain ⟨s0,fz,ob0,h1,h2,h3,_⟩:=Pe (nt:=nt) h;obtain ⟨s00,e1,hg⟩:=A8f (nt:=nt) h3
  have hEi:((A2 i A).getD {}).S P:=by
   cases hl:A2 i A with
   | none=>exact ⟨(λE h=>by cases h),(λE h=>by cases h),(λE h=>by cases h)⟩
   | some a=>exact hE i a hl
  rcases hg with ⟨g1,g2⟩ | ⟨g1,g2⟩
  . obtain ⟨s1,D,ob1,h4,h5,h6⟩:=Aue (P:=P) (nt:=nt) hT g2 hEi;obtain ⟨s',Ds,ob2,h7,h8,h9⟩:=Xf hT hE l s1 k r hn.2 h6;refine ⟨s',(i,{ D with fz:=fz })::Ds,ob0++(ob1++ob2),h7,?_,λp hp=>?_⟩
    . simp only [Cp,Bf,YG,h1];rw [e1] at h4;simp only [Xd,g1,Auf,h4]
      rw [Ht (Ds':=Ds) l _ λp hp=>B7 λe=>hn.1 (by rw [e];exact ZL.2 ⟨p,hp,rfl⟩),h8]
    . rcases QD.1 hp with hp | hp
      . exact h2 p hp
      . rcases QD.1 hp with hp | hp
        . exact h5 p hp
        . exact h9 p hp
  . obtain ⟨s1,h4,h6⟩:=Abc (nt:=nt) g2;obtain ⟨s',Ds,ob2,h7,h8,h9⟩:=Xf hT hE l s1 k r hn.2 h6;refine ⟨s',(i,{ fz:=fz })::Ds,ob0++([]++ob2),h7,?_,λp hp=>?_⟩
    . simp only [Cp,Bf,YG,h1];rw [e1] at h4;simp only [Xd,g1,h4,QR]
      rw [Ht (Ds':=Ds) l _ λp hp=>B7 λe=>hn.1 (by rw [e];exact ZL.2 ⟨p,hp,rfl⟩),h8]
    . rcases QD.1 hp with hp | hp
      . exact h2 p hp
      . exact h9 p (by simpa using hp)
theorem A87 {β:Type} {i:Nat} {d:β} {Ds:List (Nat × β)} {ks:List Nat} (h:∀ j,(A2 j Ds).isSome=true ↔ j ∈ ks):∀ j,(A2 j ((i,d)::Ds)).isSome=true ↔ j ∈ i::ks:=by
 intro j;by_cases e:i=j
 . subst e;rw [Bf];simp
 . rw [B7 e,h j];simp [Ne.symm e]
theorem U1 {β:Type} {j:Nat}:∀ {a b:List (Nat × β)},(A2 j a).isSome=true->A2 j (a++b)=A2 j a
 | [],_,h=>by cases h
 | (i,x)::r,b,h=>by
  by_cases e:i=j
  . subst e;rw [YB,Bf,Bf]
  . rw [B7 e] at h;rw [YB,B7 e,B7 e,U1 h]
theorem U2 {β:Type} {j:Nat}:∀ {a b:List (Nat × β)},A2 j a=none->A2 j (a++b)=A2 j b
 | [],_,_=>rfl
 | (i,x)::r,b,h=>by
  by_cases e:i=j
  . subst e;rw [Bf] at h
    cases h
  . rw [B7 e] at h;rw [YB,B7 e,U2 h]
theorem A62 {K:Ah} {ops:List Oper} {A:List (Nat × OA)} {nt:Nat} (hE:∀ i a,A2 i A=some a->a.S P):∀ (l:List (Nat × Oper)) (s:St3) (k:St3->Option α) (r:α),(l.map (·.1)).Nodup->Abo T K ops A l s k=some r ->
  ∃ s' Ds obs,k s'=some r/\(∀ xs,∃ ys,Fi P T K ops Ds l xs (s.st nt)=some (ys,s'.st nt,obs))/\(∀ p ∈ obs,p) /\ ∀ j,(A2 j Ds).isSome=true ↔ j ∈ l.map (·.1)
 | [],s,k,r,_,h=>⟨s,[],[],h,λxs=>⟨xs,rfl⟩,by simp,λj=>by simp [A2]⟩
 | (i,o)::l,s,k,r,hn,h=>by
  simp only [QS,KO] at hn;simp only [Abo] at h
  have hEi:((A2 i A).getD {}).S P:=by
   cases hl:A2 i A with
   | none=>exact ⟨(λE h=>by cases h),(λE h=>by cases h),(λE h=>by cases h)⟩
   | some a=>exact hE i a hl
  obtain ⟨s00,e1,hg⟩:=A8f (nt:=nt) h;rcases hg with ⟨g1,g2⟩ | ⟨g1,g2⟩
  . cases hq:OA.quiet T ((A2 i A).getD {}) o s00 with
    | false=>rw [hq] at g2;cases g2
    | true =>
     rw [hq] at g2;simp only [cond] at g2;obtain ⟨t,s1,D,x,ob1,d1,d2,d3,d4,d5,d6⟩:=Ao5 (P:=P) (nt:=nt) g2 hq hEi;obtain ⟨s',Ds,ob2,h7,h8,h9,h10⟩:=A62 hE l s1 k r hn.2 d5;refine ⟨s',(i,D)::Ds,ob1++ob2,h7,λxs=>?_,λp hp=>?_,A87 h10⟩
     . obtain ⟨ys,h8⟩:=h8 ((i,t,x)::xs);refine ⟨ys,?_⟩;rw [e1] at d3 d6;simp only [Fi,d1,Bf,YG,R6,g1,d3,d2,cond]
       rw [<- d6,Hs (Ds':=Ds) l _ _ λp hp=>B7 λe=>hn.1 (by rw [e];exact ZL.2 ⟨p,hp,rfl⟩),h8]
     . rcases QD.1 hp with hp | hp
       . exact d4 p hp
       . exact h9 p hp
  . cases hd:o.dst with
    | none=>rw [hd] at g2;cases g2
    | some t =>
     rw [hd] at g2;simp only [Option.isSome_some,cond] at g2;obtain ⟨s1,h4,h6⟩:=Abc (nt:=nt) g2;rw [hd] at h4;simp only [St.putD] at h4
     cases hb:Nat.blt t K.N with
     | false=>rw [hb] at h4;cases h4
     | true =>
      rw [hb] at h4;simp only [cond,QC] at h4;obtain ⟨s',Ds,ob2,h7,h8,h9,h10⟩:=A62 hE l s1 k r hn.2 h6
      refine ⟨s',(i,{})::Ds,[]++ob2,h7,λxs=>?_,λp hp=>h9 p (by simpa using hp),A87 h10⟩
      obtain ⟨ys,h8⟩:=h8 ((i,t,.tup [])::xs);refine ⟨ys,?_⟩;rw [e1] at h4;simp only [Fi,hd,Bf,YG,R6,g1,hb,cond]
      rw [h4,Hs (Ds':=Ds) l _ _ λp hp=>B7 λe=>hn.1 (by rw [e];exact ZL.2 ⟨p,hp,rfl⟩),h8]
theorem Ew (l:List Oper):((A7 l).map (·.1)).Nodup:=by
 have:(A7 l).map (·.1)=List.range l.length:=by
  apply JF;intro j;simp only [A7,XB,QN,YT];by_cases hj:j<l.length
  . simp [hj]
  . simp [hj]
 rw [this];exact Qaj
theorem Ayo (hT:Az P T) (hfol:P.follows .mixedOrders=true) {K:Ah} {A:RA} {id:Nat} {ops:Array Oper} {draw:Bool} {s:St3} {nt:Nat} {k:St3->Option α} {r:α}
  (hE:∀ i a,A2 i A.ops=some a->a.S P) (h:Auj P T K A ops draw s k=some r) :
  ∃ s',Code.Den P K (.region id ops draw) (s.st nt) .normal (s'.st nt)/\k s'=some r:=by
 unfold Auj at h
 cases draw with
 | true =>
  simp only [cond] at h
  cases hok:Dk ops A.m with
  | false=>rw [hok] at h;cases h
  | true =>
   rw [hok] at h;obtain ⟨s0,fz,ob0,h1,h2,h3,_⟩:=Pe (nt:=nt) h;obtain ⟨s1,Ds1,ob1,h4,h5,h6,h6'⟩:=A62 (P:=P) (nt:=nt) hE _ s0 _ _ ((Ew ops.toList).sublist ((List.take_sublist _ _).map _)) h3;obtain ⟨s2,Ds2,ob2,h7,h8,h9⟩:=Xf (P:=P) (nt:=nt) hT hE _ s1 _ _ ((Ew ops.toList).sublist ((List.drop_sublist _ _).map _)) h4;refine ⟨s2,?_,h7⟩;have hnd:=Ew ops.toList
   have e1:∀ p ∈ (A7 ops.toList).take A.m,A2 p.1 (Ds1++Ds2)=A2 p.1 Ds1:=λp hp=>by
    have:=(h6' p.1).2 (ZL.2 ⟨p,hp,rfl⟩);exact U1 this
   have e2:∀ p ∈ (A7 ops.toList).drop A.m,A2 p.1 (Ds1++Ds2)=A2 p.1 Ds2:=λp hp=>by
    refine U2 ?_
    cases hl:A2 p.1 Ds1 with
    | none=>rfl
    | some d =>
     exfalso
     have hm:=(h6' p.1).1 (by rw [hl];rfl)
     have hd:p.1 ∈ ((A7 ops.toList).drop A.m).map (·.1):=ZL.2 ⟨p,hp,rfl⟩;rw [<- KR A.m (A7 ops.toList),KQ,List.nodup_append] at hnd;exact hnd.2.2 _ hm _ hd rfl
   obtain ⟨ys,h5⟩:=h5 []
   have:Uu P T K ops A.m (Ds1++Ds2) fz (s.st nt)=some (s2.st nt,(P.follows .mixedOrders=true)::(ob0++(ob1++ob2))):=by
    unfold Uu;rw [hok];simp only [cond,h1];rw [Hs _ _ _ e1,h5];simp only;rw [Ht _ _ e2,h8]
   refine Abg hT this λp hp=>?_;rcases QT.1 hp with rfl | hp
   . exact hfol
   . rcases QD.1 hp with hp | hp
     . exact h2 p hp
     . rcases QD.1 hp with hp | hp
       . exact h6 p hp
       . exact h9 p hp
 | false =>
  simp only [cond] at h;obtain ⟨s2,Ds2,ob2,h7,h8,h9⟩:=Xf (P:=P) (nt:=nt) hT hE _ s _ _ (Ew ops.toList) h;refine ⟨s2,?_,h7⟩
  have:Ka P T K ops { ds:=Ds2,drop:=[] } (s.st nt)=some ((s2.st nt).forget [],ob2):=by
   unfold Ka;simp only [h8]
  have:=Abj (id:=id) hT this h9
  have e:(s2.st nt).forget []=s2.st nt:=by
   have:Aat [] (s2.st nt).slots=(s2.st nt).slots:=JN.2 λ_ _=>rfl;unfold St.forget;rw [this]
  rw [e] at this;exact this
end Go.Ev
