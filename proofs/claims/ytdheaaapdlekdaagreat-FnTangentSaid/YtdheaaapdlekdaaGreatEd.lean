/- DERIVED. The evaluator over shapes of data: calls, trees, all paths. -/
import Derived.Test.YtdheaaapdlekdaaGreatEc

set_option linter.all false
set_option linter.unusedVariables false
set_option linter.unusedSimpArgs false

/- DERIVED. What is settled, and results, over shapes; templates of states. -/
namespace Go.Ev
open Go
variable {P:Program} {T:Ty}
theorem Yz {bs:List (Nat × B3)} {t:Sh} {v:SV} {g:Bool} {x:t.den} {ks:List Nat} (ht:t.one=true) (h:Fc bs t v=some (g,x,ks)) (hg:g=true) :
  v.cellB=true/\(∃ ob,Nb (A2 · (Ai (B3.box (A6 bs)) bs)) (v.c (A6 bs)) (.i (hd1 (t.cells x)))=some (ob,ks) /\ ∀ p ∈ ob,p) /\ ∀ k ∈ ks,k<1000/\(A2 k bs).isSome=true:=by
 unfold Fc at h;split at h
 . rename_i hh;split at h
   . rename_i t0;split at h
     . rename_i e sh fz xs hl
       cases hk:Nat.blt hh 1000 with
       | false=>rw [hk] at h;cases h
       | true =>
        rw [hk] at h;simp only [cond,QD,QL] at h;obtain ⟨y,hy,rfl,rfl,rfl⟩:=h;obtain ⟨rfl,rfl⟩:=E7 hy
        have hle:A6 bs hh=xs.length:=by simp [A6,hl,B3.len]
        refine ⟨rfl,⟨[0+A6 bs hh<=(xs.map λy=>(sh.cells y).map C.i).length,((xs.map λy=>(sh.cells y).map C.i).drop 0).take (A6 bs hh)=(xs.map sh.cells).map (·.map .i)],?_,?_⟩,?_⟩
        . simp only [Nb,SV.c,C2,hl,QV,B3.box,Sh.cells,hd1,XZ,XI,XO,ZN,cond]
        . simp only [QW,YJ,or_false,forall_eq_or_imp,forall_eq]
          refine ⟨by simp [hle],?_⟩
          rw [ZJ,hle,XS (by simp),ZX]
          rfl
        . intro k hk';simp only [QS] at hk';subst hk'
          exact ⟨by simpa [ZY] using hk,by rw [hl];rfl⟩
     . cases h
   . cases h
 . rename_i hh off len;split at h
   . rename_i t0;split at h
     . rename_i e sh fz xs hl
       cases hk:Nat.blt hh 1000 with
       | false=>rw [hk] at h;cases h
       | true =>
        rw [hk] at h;simp only [cond,QD,QL] at h;obtain ⟨y,hy,rfl,rfl,rfl⟩:=h;obtain ⟨rfl,rfl⟩:=E7 hy;simp only [QN] at hg;refine ⟨rfl,⟨[off+len<=(xs.map λy=>(sh.cells y).map C.i).length,((xs.map λy=>(sh.cells y).map C.i).drop off).take len=(((xs.drop off).take len).map sh.cells).map (·.map .i)],?_,?_⟩,?_⟩
        . simp only [Nb,SV.c,C2,hl,QV,B3.box,Sh.cells,hd1,XZ,XI,XO,ZN,cond]
        . simp only [QW,YJ,or_false,forall_eq_or_imp,forall_eq]
          refine ⟨by simpa using hg,?_⟩
          rw [ZX,JL,KK];rfl
        . intro k hk';simp only [QS] at hk';subst hk'
          exact ⟨by simpa [ZY] using hk,by rw [hl];rfl⟩
     . cases h
   . cases h
 . rename_i cs;split at h
   . rename_i t0
     cases hd:cs.all SV.isD with
     | false=>rw [hd] at h;cases h
     | true =>
      rw [hd] at h;simp only [cond,QD,QL] at h;obtain ⟨y,hy,rfl,rfl,rfl⟩:=h;obtain ⟨_,_,h3,_⟩:=Dq hy
      refine ⟨hd,⟨[C.i (.ref 0 (cs.map SV.i0))=C.i (.ref 0 (t0.cells y))],rfl,by simp [h3 hd]⟩,by simp⟩
   . cases h
 . rename_i h1 h2 h3;rw [ht] at h;simp only [cond,QD,QL] at h;obtain ⟨y,hy,rfl,rfl,rfl⟩:=h;obtain ⟨q1,ob,q2,q3⟩:=Sp (L:=A6 bs) ht hy
   refine ⟨Q7 q1,⟨ob,?_,q3⟩,by simp⟩
   have hI:Cj (v.c (A6 bs))=true:=Nm (A8x q1);unfold Nb;split
   . rename_i he _;rw [he] at hI;cases hI
   . rw [q2];rfl
def Py (bs:List (Nat × B3)) (cs:List SV) (ds:List I) (ks:List Nat):Prop :=
 (∃ ob,Fb (A2 · (Ai (B3.box (A6 bs)) bs)) (cs.map (SV.c (A6 bs))) (ds.map .i)=some (ob,ks) /\ ∀ p ∈ ob,p) /\ ∀ k ∈ ks,k<1000/\(A2 k bs).isSome=true
theorem Py.app {bs:List (Nat × B3)}:∀ {cs cs':List SV} {ds ds':List I} {ks ks':List Nat},Py bs cs ds ks->Py bs cs' ds' ks'->Py bs (cs++cs') (ds++ds') (ks++ks')
 | [],cs',[],ds',ks,ks',h,h'=>by
  obtain ⟨⟨ob,h,_⟩,_⟩:=h;simp only [XN,Fb,QC,QL] at h;obtain ⟨_,rfl⟩:=h;exact h'
 | [],cs',d::ds,ds',_,_,h,_=>by obtain ⟨⟨ob,h,_⟩,_⟩:=h;simp [Fb] at h
 | c::cs,cs',[],ds',_,_,h,_=>by obtain ⟨⟨ob,h,_⟩,_⟩:=h;simp [Fb] at h
 | c::cs,cs',d::ds,ds',ks,ks',h,h'=>by
  obtain ⟨⟨ob,h,ho⟩,hk⟩:=h;simp only [QT,Fb] at h;split at h
  . rename_i p k q l h1 h2;simp only [QC,QL] at h;obtain ⟨rfl,rfl⟩:=h;obtain ⟨⟨ob2,h3,ho2⟩,hk2⟩:=Py.app (cs:=cs) (ds:=ds) (ks:=l) ⟨⟨q,h2,λx hx=>ho x (QE.2 (.inr hx))⟩,λk hk'=>hk k (QE.2 (.inr hk'))⟩ h';refine ⟨⟨p++ob2,?_,λx hx=>?_⟩,λj hj=>?_⟩
    . simp only [YA,QT,Fb,h1,h3,ZO]
    . rcases QE.1 hx with hx | hx
      . exact ho x (QE.2 (.inl hx))
      . exact ho2 x hx
    . rw [ZO] at hj;rcases QE.1 hj with hj | hj
      . exact hk j (QE.2 (.inl hj))
      . exact hk2 j hj
  . cases h
theorem B7i {bs:List (Nat × B3)}:∀ (t:Sh) (cs:List SV) (g:Bool) (x:t.den) (ks:List Nat) (r:List SV),t.impB bs cs=some (g,x,ks,r)->g=true->∃ pre,cs=pre++r/\Py bs pre (t.cells x) ks/\pre.all SV.cellB=true:=by
 have cell:∀ (t:Sh) (c:SV) (r q:List SV) (g:Bool) (x:t.den) (ks:List Nat),t.one=true->(Fc bs t c).map (λp=>(p.1,p.2.1,p.2.2,r))=some (g,x,ks,q)->g=true->∃ pre,c::r=pre++q/\Py bs pre (t.cells x) ks/\pre.all SV.cellB=true:=by
  intro t c r q g x ks ht h hg;simp only [QD,QL] at h;obtain ⟨⟨g',x',k'⟩,h1,rfl,rfl,rfl,rfl⟩:=h;obtain ⟨hc,⟨ob,h2,h3⟩,h4⟩:=Yz ht h1 hg
  refine ⟨[c],rfl,⟨⟨ob++[],?_,by simpa using h3⟩,h4⟩,by simp [hc]⟩
  rw [Sl t x' ht];simp only [QT,XN,Fb,h2,XU]
 intro t
 induction t with
 | pair a b iha ihb =>
  intro cs g x ks r h hg;simp only [Sh.impB] at h;split at h
  . rename_i g1 y k1 q h1;split at h
    . rename_i g2 z k2 q' h2;simp only [QC,QL] at h;obtain ⟨rfl,rfl,rfl,rfl⟩:=h;simp only [QF] at hg;obtain ⟨p1,e1,c1,i1⟩:=iha _ _ _ _ _ h1 hg.1;obtain ⟨p2,e2,c2,i2⟩:=ihb _ _ _ _ _ h2 hg.2
      exact ⟨p1++p2,by rw [e1,e2,ZO],c1.app c2,by simp [i1,i2]⟩
    . cases h
  . cases h
 | st t ih=>intro cs g x ks r h hg;exact ih _ _ _ _ _ h hg
 | unit =>
  intro cs g x ks r h _;simp only [Sh.impB,QC,QL] at h;obtain ⟨_,_,rfl,rfl⟩:=h
  exact ⟨[],rfl,⟨⟨[],rfl,by simp⟩,by simp⟩,rfl⟩
 | int k=>intro cs g x ks r h hg;cases cs with | nil=>simp [Sh.impB] at h | cons c cs=>exact cell _ _ _ _ _ _ _ rfl h hg
 | bool=>intro cs g x ks r h hg;cases cs with | nil=>simp [Sh.impB] at h | cons c cs=>exact cell _ _ _ _ _ _ _ rfl h hg
 | str=>intro cs g x ks r h hg;cases cs with | nil=>simp [Sh.impB] at h | cons c cs=>exact cell _ _ _ _ _ _ _ rfl h hg
 | nil=>intro cs g x ks r h hg;cases cs with | nil=>simp [Sh.impB] at h | cons c cs=>exact cell _ _ _ _ _ _ _ rfl h hg
 | fn f=>intro cs g x ks r h hg;cases cs with | nil=>simp [Sh.impB] at h | cons c cs=>exact cell _ _ _ _ _ _ _ rfl h hg
 | sl t _=>intro cs g x ks r h hg;cases cs with | nil=>simp [Sh.impB] at h | cons c cs=>exact cell _ _ _ _ _ _ _ rfl h hg
 | ref t _=>intro cs g x ks r h hg;cases cs with | nil=>simp [Sh.impB] at h | cons c cs=>exact cell _ _ _ _ _ _ _ rfl h hg
 | clo f c _=>intro cs g x ks r h hg;cases cs with | nil=>simp [Sh.impB] at h | cons v cs=>exact cell _ _ _ _ _ _ _ rfl h hg
theorem G2 {L:Nat->Nat} {v:SV} (h:v.cellB=true):v.s L = .v (.one (v.c L))/\v.v L = .one (v.c L):=by cases v <;> first | exact ⟨rfl,rfl⟩ | cases h
theorem Qr {bs:List (Nat × B3)} {t:Sh} {v:SV} {g:Bool} {x:t.den} {ks:List Nat} (h:Yx bs t v=some (g,x,ks)) (hg:g=true) :
  v.s (A6 bs) = .v (v.v (A6 bs))/\(∃ ob,Ju (A2 · (Ai (B3.box (A6 bs)) bs)) (v.v (A6 bs)) (t.v x)=some (ob,ks) /\ ∀ p ∈ ob,p) /\ ∀ k ∈ ks,k<1000/\(A2 k bs).isSome=true:=by
 unfold Yx at h
 cases ht:t.one with
 | true =>
  rw [ht] at h;obtain ⟨hc,⟨ob,h1,h2⟩,h3⟩:=Yz ht h hg;obtain ⟨e1,e2⟩:=G2 (L:=A6 bs) hc
  refine ⟨by rw [e1,e2],⟨ob,?_,h2⟩,h3⟩
  simp only [e2,Sh.v,ht,cond,Ju,h1]
 | false =>
  rw [ht] at h;simp only [cond] at h;split at h
  . rename_i cs;split at h
    . rename_i g1 y k1 hi;simp only [QC,QL] at h;obtain ⟨rfl,rfl,rfl⟩:=h;obtain ⟨pre,e,⟨⟨ob,h1,h2⟩,h3⟩,_⟩:=B7i _ _ _ _ _ _ hi hg;rw [XU] at e;subst e;refine ⟨rfl,⟨ob,?_,h2⟩,h3⟩;simp only [SV.v,Sh.v,ht,cond,Ju,h1]
    . cases h
  . cases h
theorem Ve {bs:List (Nat × B3)} {L:Nat->Nat} {ks:List Nat} (h:∀ k ∈ ks,k<1000/\(A2 k bs).isSome=true):H7 (Ai (B3.box L) bs) ks=true:=by
 unfold H7;refine QJ.2 λk hk=>?_;obtain ⟨h1,h2⟩:=h k hk;rw [Aq,KB,h2];simpa [ZY] using h1
theorem T3 {s s':St3} {nt:Nat} {t:Nat} {sh:Sh} {g:Bool} (h:Nj s t sh=some (g,s')) (hg:g=true) :
  ∃ (x':V) (ob:List Prop),Wj (s.st nt) t x'=some (s'.st nt,ob) /\ ∀ p ∈ ob,p:=by
 unfold Nj at h;split at h
 . rename_i v hv;split at h
   . rename_i g1 x ks hc;simp only [QC,QL] at h;obtain ⟨rfl,rfl⟩:=h;obtain ⟨h1,⟨ob,h2,h3⟩,h4⟩:=Qr hc hg;refine ⟨sh.v x,ob,?_,h3⟩
     have hl:A2 t (s.st nt).slots=some (.v (v.v (A6 s.boxes))):=by
      simp only [St3.st,Aq,hv,QV,h1]
     have h2':Ju (A2 · (s.st nt).boxes) (v.v (A6 s.boxes)) (sh.v x)=some (ob,ks):=h2;have hz:H7 (s.st nt).boxes ks=true:=Ve h4;simp only [Wj,hl,h2',hz,cond,QC,QL,and_true];simp only [St3.st];congr 1
     . rw [D4,<- (J6 (L:=A6 s.boxes) sh x).2,Fi]
     . rw [D4];exact Gu _ _ _
   . cases h
 . cases h
inductive TS where
 | d (t:Sh)
 | ag (t:Sh)
 | k (v:SV)
 | hs (h:Nat)
@[reducible] def TS.den:TS->Type
 | .d t=>t.den
 | .ag t=>t.den
 | .k _=>Unit
 | .hs _=>Nat × Nat
def TS.enc:(t:TS)->t.den->SV
 | .d t,x=>.d t x
 | .ag t,x=>.agg (t.exp x)
 | .k v,_=>v
 | .hs h,x=>.hs h x.1 x.2
def SV.same:SV->SV->Bool
 | .hw h,.hw h'=>Nat.beq h h'
 | .hp h r c,.hp h' r' c'=>Nat.beq h h'&&Nat.beq r r'&&Nat.beq c c'
 | .dead,_=>true
 | .d t _,.d t' _=>(match t with
  | .nil=>true
  | .fn _=>true
  | _=>false)&&t.eqb t'
 | _,_=>false
def TS.dec:(t:TS)->SV->Option t.den
 | .d t,v=>match v with
  | .rf cs=>match t with
   | .ref t0=>bif cs.all SV.isD then t0.all false cs else none
   | _=>none
  | v=>bif t.one then v.as true t else none
 | .ag t,v=>match v with
  | .agg cs=>t.all true cs
  | _=>none
 | .k c,v=>bif c.same v then some () else none
 | .hs h,v=>match v with
  | .hs h' o l=>bif Nat.beq h h' then some (o,l) else none
  | _=>none
inductive TB where
 | arr (e:TypeId) (t:Sh) (fz:Bool)
 | var (e:TypeId) (hf fz:Bool) (cs:List TS)
 | tree (e:TypeId) (t:Sh) (fz:Bool)
@[reducible] def DL:List TS->Type
 | []=>Unit
 | t::r=>t.den × DL r
def Js:(l:List TS)->DL l->List SV
 | [],_=>[]
 | t::r,x=>t.enc x.1::Js r x.2
def Aat:(l:List TS)->List SV->Option (DL l)
 | [],[]=>some ()
 | t::r,v::vs=>match t.dec v,Aat r vs with
  | some x,some xs=>some (x,xs)
  | _,_=>none
 | _,_=>none
@[reducible] def TB.den:TB->Type
 | .arr _ t _=>List t.den
 | .var _ _ _ cs=>DL cs
 | .tree _ t _=>List t.den
def TB.enc:(b:TB)->b.den->B3
 | .arr e t fz,xs=>.arr e t fz xs
 | .var e hf fz cs,xs=>.var e hf fz (Js cs xs)
 | .tree e t fz,xs=>.tree e t fz xs
def TB.dec:(b:TB)->B3->Option b.den
 | .arr e t fz,b=>match b with
  | .arr e' t' fz' xs=>bif Nat.beq e e'&&(fz==fz') then (Sh.sl t').to (.sl t) xs else none
  | .rep e' fz' n cs=>bif Nat.beq e e'&&(fz==fz') then (t.all true cs).map λx=>List.replicate n x else none
  | _=>none
 | .var e hf fz cs,b=>match b with
  | .var e' hf' fz' vs=>bif Nat.beq e e'&&(hf==hf')&&(fz==fz')&&vs.all SV.cellB then (match Aat cs vs with
   | some x=>bif (Js cs x).all SV.cellB&&(!hf || (Js cs x).all SV.imm) then some x else none
   | none=>none) else none
  | _=>none
 | .tree e t fz,b=>match b with
  | .tree e' t' fz' xs=>bif Nat.beq e e'&&(fz==fz') then (Sh.sl t').to (.sl t) xs else none
  | _=>none
@[reducible] def DK (β:Type) (den:β->Type):List (Nat × β)->Type
 | []=>Unit
 | (_,t)::r=>den t × DK β den r
def Ajs:(l:List (Nat × TS))->DK TS TS.den l->List (Nat × SV)
 | [],_=>[]
 | (k,t)::r,x=>(k,t.enc x.1)::Ajs r x.2
def Aas:(l:List (Nat × TS))->List (Nat × SV)->Option (DK TS TS.den l)
 | [],[]=>some ()
 | (k,t)::r,(j,v)::vs=>bif Nat.beq k j then (match t.dec v,Aas r vs with
  | some x,some xs=>some (x,xs)
  | _,_=>none) else none
 | _,_=>none
def V2:(l:List (Nat × TB))->DK TB TB.den l->List (Nat × B3)
 | [],_=>[]
 | (k,t)::r,x=>(k,t.enc x.1)::V2 r x.2
def Aau:(l:List (Nat × TB))->List (Nat × B3)->Option (DK TB TB.den l)
 | [],[]=>some ()
 | (k,t)::r,(j,v)::vs=>bif Nat.beq k j then (match t.dec v,Aau r vs with
  | some x,some xs=>some (x,xs)
  | _,_=>none) else none
 | _,_=>none
structure Tm where
 slots:List (Nat × TS)
 boxes:List (Nat × TB):=[]
 drop:List Nat:=[]
 fz:List (Nat × Sh):=[]
@[reducible] def Tm.den (X:Tm):Type:=DK TS TS.den X.slots × DK TB TB.den X.boxes
def Tm.enc (X:Tm) (x:X.den):St3:=⟨Ajs X.slots x.1,V2 X.boxes x.2⟩
def Tb:List (Nat × TS)->List (Nat × SV)->List (Nat × SV)
 | X,sl=>sl.filter λp=>X.any λq=>Nat.beq q.1 p.1
def Aem:List Nat->St3->Option St3
 | [],s=>some s
 | h::r,s=>bif Nat.blt h 1000&&s.clean h then Aem r { s with boxes:=Jt h s.boxes } else none
def Kb:List (Nat × Sh)->St3->Option St3
 | [],s=>some s
 | (t,sh)::r,s=>match A2 t s.slots with
  | some (.d _ _)=>Kb r s
  | _=>match Nj s t sh with
   | some (g,s1)=>bif g then Kb r s1 else none
   | none=>none
def Tm.dec1 (X:Tm) (s:St3):Option X.den :=
 match Aem X.drop { s with slots:=Tb X.slots s.slots } with
 | some s2=>match Aas X.slots s2.slots,Aau X.boxes s2.boxes with
  | some x,some y=>some (x,y)
  | _,_=>none
 | none=>none
def Tm.dec (X:Tm) (s:St3):Option X.den :=
 match Kb X.fz s with
 | some s1=>X.dec1 s1
 | none=>none
end Go.Ev

/- DERIVED. Calls that are handed boxes or hand out boxes, over shapes. -/
namespace Go.Ev
open Go
variable {P:Program} {T:Ty}
inductive CK where
 | im (t:Sh)
 | own (e:TypeId) (t:Sh)
 | ptr (e:TypeId) (t:Sh)
 | back (k:Nat)
 | win (e:TypeId) (t:Sh)
 | tree (e:TypeId) (t:Sh)
 | emp (t:Sh)
 | vst (e:TypeId) (fs:List (Sh ⊕ Nat))
@[reducible] def DF:List (Sh ⊕ Nat)->Type
 | []=>Unit
 | .inl t::r=>t.den × DF r
 | .inr _::r=>DF r
def Wf:(fs:List (Sh ⊕ Nat))->DF fs->List SV
 | [],_=>[]
 | .inl t::r,x=>.d t x.1::Wf r x.2
 | .inr j::r,x=>.hw j::Wf r x
@[reducible] def CK.den:CK->Type
 | .im t=>t.den
 | .own _ t=>List t.den
 | .ptr _ t=>t.den
 | .back _=>Unit
 | .win _ t=>List t.den × Nat × Nat
 | .tree _ t=>List t.den
 | .emp _=>Unit
 | .vst _ fs=>DF fs
@[reducible] def DC:List CK->Type
 | []=>Unit
 | [c]=>c.den
 | c::d::r=>c.den × DC (d::r)
inductive PK where
 | im (t:Sh)
 | one (c:CK)
 | mix (cs:List CK)
 | pst (e:TypeId) (gs:List CK)
@[reducible] def PK.den:PK->Type
 | .im t=>t.den
 | .one c=>c.den
 | .mix cs=>DC cs
 | .pst _ gs=>DC gs
@[reducible] def HP:List PK->Type
 | []=>Unit
 | [p]=>p.den
 | p::q::r=>p.den × HP (q::r)
def CK.sv (k:Nat):(c:CK)->c.den->SV
 | .im t,x=>.d t x
 | .own _ _,_=>.hw k
 | .ptr _ _,_=>.hp k 0 0
 | .back j,_=>.hw j
 | .win _ _,x=>.hs k x.2.1 x.2.2
 | .tree _ _,_=>.hw k
 | .emp t,_=>.d (.sl t) []
 | .vst _ _,_=>.hp k 0 0
def CK.bx (k:Nat):(c:CK)->c.den->List (Nat × B3)
 | .own e t,xs=>[(k,.arr e t false xs)]
 | .ptr e t,x=>[(k,.var e true false (t.exp x))]
 | .win e t,x=>[(k,.arr e t false x.1)]
 | .tree e t,xs=>[(k,.tree e t false xs)]
 | .vst e fs,x=>[(k,.var e false false (Wf fs x))]
 | _,_=>[]
def Gc (k:Nat):(cs:List CK)->DC cs->List SV
 | [],_=>[]
 | [c],x=>[c.sv k x]
 | c::d::r,x=>c.sv k x.1::Gc (k+1) (d::r) x.2
def Hg (k:Nat):(cs:List CK)->DC cs->List (Nat × B3)
 | [],_=>[]
 | [c],x=>c.bx k x
 | c::d::r,x=>c.bx k x.1++Hg (k+1) (d::r) x.2
def PK.n:PK->Nat
 | .mix cs=>cs.length
 | .pst _ gs=>gs.length+1
 | _=>1
def PK.isIm:PK->Bool
 | .im _=>true
 | _=>false
def PK.sv (k:Nat):(p:PK)->p.den->SV
 | .im t,x=>t.sv x
 | .one c,x=>c.sv k x
 | .mix cs,x=>.agg (Gc k cs x)
 | .pst _ _,_=>.hp k 0 0
def PK.bx (k:Nat):(p:PK)->p.den->List (Nat × B3)
 | .im _,_=>[]
 | .one c,x=>c.bx k x
 | .mix cs,x=>Hg k cs x
 | .pst e gs,x=>(k,.var e false false (Gc (k+1) gs x))::Hg (k+1) gs x
def C6 (k:Nat):(ps:List PK)->HP ps->List SV
 | [],_=>[]
 | [p],x=>[p.sv k x]
 | p::q::r,x=>p.sv k x.1::C6 (k+p.n) (q::r) x.2
def D7 (k:Nat):(ps:List PK)->HP ps->List (Nat × B3)
 | [],_=>[]
 | [p],x=>p.bx k x
 | p::q::r,x=>p.bx k x.1++D7 (k+p.n) (q::r) x.2
def CK.owns (k:Nat):CK->List (Nat × CK)
 | .own e t=>[(k,.own e t)]
 | .ptr e t=>[(k,.ptr e t)]
 | .win e t=>[(k,.own e t)]
 | .tree e t=>[(k,.tree e t)]
 | .vst e fs=>[(k,.vst e fs)]
 | _=>[]
def Ae9 (k:Nat):List CK->List (Nat × CK)
 | []=>[]
 | c::r=>c.owns k++Ae9 (k+1) r
def B24 (k:Nat):List CK->List (Sh ⊕ Nat)
 | []=>[]
 | .im t::r=>.inl t::B24 (k+1) r
 | _::r=>.inr k::B24 (k+1) r
def PK.owns (k:Nat):PK->List (Nat × CK)
 | .im _=>[]
 | .one c=>c.owns k
 | .mix cs=>Ae9 k cs
 | .pst e gs=>(k,.vst e (B24 (k+1) gs))::Ae9 (k+1) gs
def Am (k:Nat):List PK->List (Nat × CK)
 | []=>[]
 | p::r=>p.owns k++Am (k+p.n) r
@[reducible] def DO:List (Nat × CK)->Type
 | []=>Unit
 | [p]=>p.2.den
 | p::q::r=>p.2.den × DO (q::r)
def bxO:(os:List (Nat × CK))->DO os->List (Nat × B3)
 | [],_=>[]
 | [p],x=>p.2.bx p.1 x
 | p::q::r,x=>p.2.bx p.1 x.1++bxO (q::r) x.2
@[reducible] def HR (rs:List PK):List (Nat × CK)->Type
 | []=>HP rs
 | p::r=>HP rs × DO (p::r)
def Mv {rs:List PK}:{os:List (Nat × CK)}->HR rs os->HP rs
 | [],y=>y
 | _::_,y=>y.1
def B5k {rs:List PK}:{os:List (Nat × CK)}->HR rs os->DO os
 | [],_=>()
 | _::_,y=>y.2
structure Hk where
 f:Nat
 ts:List PK
 rs:List PK
 mv:List Nat
def G5 (E:Hk) (x:HP E.ts):List (Nat × B3):=D7 1000 E.ts x
def B1 (E:Hk) (y:HR E.rs (Am 1000 E.ts)):List (Nat × B3):=D7 0 E.rs (Mv y)++bxO (Am 1000 E.ts) (B5k y)
def Bw (bs:List (Nat × B3)):List (Nat × Box):=Ai (B3.box (A6 bs)) bs
def Hk.Den (P:Program) (E:Hk) (nt:Nat) (x:HP E.ts) (y:HR E.rs (Am 1000 E.ts)):Prop :=
 K6 P E.f nt E.mv (Bw (G5 E x)) ((C6 1000 E.ts x).map (SV.v (A6 (G5 E x)))) ((Hp (C6 0 E.rs (Mv y))).s (A6 (B1 E y))) nt (Bw (B1 E y))
@[reducible] def HF (os:List (Nat × CK)):List (List PK)->Type
 | []=>Unit
 | [rs]=>HR rs os
 | rs::r::q=>HR rs os ⊕ HF os (r::q)
def Bi6 {A B α:Type} (z:A ⊕ B) (f:A->Option α) (g:B->Option α):Option α:=match z with
 | .inl a=>f a
 | .inr b=>g b
def Jz {α:Type} (os:List (Nat × CK)):(fs:List (List PK))->HF os fs->((rs:List PK)->HR rs os->Option α)->Option α
 | [],_,_=>none
 | [rs],y,k=>k rs y
 | rs::r::q,z,k=>Bi6 z (λy=>k rs y) (λz=>Jz os (r::q) z k)
def Ab5 (os:List (Nat × CK)):(fs:List (List PK))->HF os fs->((rs:List PK)->HR rs os->Prop)->Prop
 | [],_,_=>True
 | [rs],y,k=>k rs y
 | rs::_::_,.inl y,k=>k rs y
 | _::r::q,.inr z,k=>Ab5 os (r::q) z k
theorem Nc {α:Type} {os:List (Nat × CK)} {p:(rs:List PK)->HR rs os->Prop}:∀ {fs:List (List PK)} {z:HF os fs} {k:(rs:List PK)->HR rs os->Option α} {r:α},Jz os fs z k=some r->Ab5 os fs z p->∃ rs y,k rs y=some r/\p rs y
 | [],_,_,_,h,_=>by cases h
 | [rs],y,k,r,h,hp=>⟨rs,y,h,hp⟩
 | rs::_::_,.inl y,k,r,h,hp=>⟨rs,y,h,hp⟩
 | _::r::q,.inr z,k,_,h,hp=>Nc (fs:=r::q) h hp
structure Ent3 where
 f:Nat
 ts:List PK
 forms:List (List PK)
 m:HP ts->Option (HF (Am 1000 ts) forms)
 mv:List Nat
def Ent3.Sound (P:Program) (E:Ent3):Prop:=∀ (nt:Nat) (x:HP E.ts) (z:HF (Am 1000 E.ts) E.forms),E.m x=some z->Ab5 (Am 1000 E.ts) E.forms z λrs y=>Hk.Den P ⟨E.f,E.ts,rs,E.mv⟩ nt x y
def Dp (rn:List (Nat × Nat)) (k:Nat):Nat:=match A2 k rn with
 | some h=>h
 | none=>0
def K1:List (Nat × Nat)->Nat->Option Nat
 | [],_=>none
 | (k,h')::r,h=>bif Nat.beq h' h then some k else K1 r h
def F8:List (Nat × Nat)->Bool
 | []=>true
 | (k,h)::r=>r.all (λp=>!Nat.beq p.1 k && !Nat.beq p.2 h)&&F8 r
def Br {β:Type}:List (Nat × β)->List (Nat × Nat)->Bool
 | [],[]=>true
 | (k,_)::B,(k',_)::R=>Nat.beq k k'&&Br B R
 | _,_=>false
def Xc:List (Nat × B3)->List (Nat × Nat)->List (Nat × B3)->List (Nat × B3)
 | (_,b)::B,(_,h)::R,bs=>Aw h b (Xc B R bs)
 | _,_,bs=>bs
theorem Akb {a b:Nat} (h:Nat.beq a b=false):a ≠ b:=λe=>by subst e;simp at h
theorem A5y {a b:Nat} (h:a ≠ b):Nat.beq a b=false:=by cases hb:Nat.beq a b with | false=>rfl | true=>exact absurd (QB hb) h
theorem Lj {k h:Nat} {r:List (Nat × Nat)} (hg:F8 ((k,h)::r)=true):(∀ p ∈ r,p.1 ≠ k/\p.2 ≠ h)/\F8 r=true:=by
 simp only [F8,QF,QJ,XB] at hg;exact ⟨λp hp=>⟨Akb (hg.1 p hp).1,Akb (hg.1 p hp).2⟩,hg.2⟩
theorem Cz {β:Type}:∀ {rn:List (Nat × β)} {k:Nat} {h:β},A2 k rn=some h->(k,h) ∈ rn
 | [],_,_,e=>by cases e
 | (k',h')::r,k,h,e=>by
  simp only [A2] at e
  cases hb:Nat.beq k' k with
  | true=>rw [hb] at e;obtain rfl:=QA e;rw [QB hb];exact YE
  | false=>rw [hb] at e;exact ZH _ (Cz e)
theorem A0q:∀ {rn:List (Nat × Nat)} {k h:Nat},K1 rn h=some k->(k,h) ∈ rn
 | [],_,_,e=>by cases e
 | (k',h')::r,k,h,e=>by
  simp only [K1] at e
  cases hb:Nat.beq h' h with
  | true=>rw [hb] at e;obtain rfl:=QA e;rw [QB hb];exact YE
  | false=>rw [hb] at e;exact ZH _ (A0q e)
theorem Fg:∀ {rn:List (Nat × Nat)} {k h:Nat},F8 rn=true->(k,h) ∈ rn->A2 k rn=some h/\K1 rn h=some k
 | [],_,_,_,e=>by cases e
 | (k',h')::r,k,h,hg,e=>by
  obtain ⟨h1,h2⟩:=Lj hg;simp only [A2,K1];rcases QW.1 e with e | e
  . obtain ⟨rfl,rfl⟩:=KJ e;simp only [XZ,cond];exact ⟨trivial,trivial⟩
  . obtain ⟨e1,e2⟩:=Fg h2 e;rw [A5y (h1 _ e).1.symm,A5y (h1 _ e).2.symm];exact ⟨e1,e2⟩
theorem Cw {β:Type}:∀ {B:List (Nat × β)} {R:List (Nat × Nat)},Br B R=true->∀ k,(A2 k B).isSome=(A2 k R).isSome
 | [],[],_,_=>rfl
 | (k1,b)::B,(k2,h)::R,e,k=>by
  simp only [Br,QF] at e;obtain rfl:=QB e.1;simp only [A2]
  cases Nat.beq k1 k with
  | true=>rfl
  | false=>exact Cw e.2 k
 | [],_::_,e,_=>by simp [Br] at e
 | _::_,[],e,_=>by simp [Br] at e
theorem X2 {β:Type}:∀ {B:List (Nat × β)} {R:List (Nat × Nat)} {k:Nat} {b:β},Br B R=true->F8 R=true->(k,b) ∈ B->A2 k B=some b
 | [],_,_,_,_,_,e=>by cases e
 | (k1,b1)::B,(k2,h)::R,k,b,hs,hg,e=>by
  simp only [Br,QF] at hs;obtain rfl:=QB hs.1;obtain ⟨h1,h2⟩:=Lj hg;simp only [A2];rcases QW.1 e with e | e
  . obtain ⟨rfl,rfl⟩:=KJ e;simp only [XZ,cond]
  . have:=X2 hs.2 h2 e
    have hk:(A2 k R).isSome=true:=by rw [<- Cw hs.2 k,this];rfl
    obtain ⟨h',hh⟩:=QY.1 hk;rw [A5y (h1 _ (Cz hh)).1.symm];exact this
 | _::_,[],_,_,hs,_,_=>by simp [Br] at hs
theorem A1i:∀ {B:List (Nat × B3)} {R:List (Nat × Nat)} {bs:List (Nat × B3)},Br B R=true->F8 R=true->∀ h,A2 h (Xc B R bs)=match K1 R h with | some k=>A2 k B | none=>A2 h bs
 | [],[],_,_,_,h=>rfl
 | (k1,b)::B,(k2,h2)::R,bs,hs,hg,h=>by
  simp only [Br,QF] at hs;obtain rfl:=QB hs.1;obtain ⟨g1,g2⟩:=Lj hg;simp only [Xc,K1]
  cases hb:Nat.beq h2 h with
  | true =>
   obtain rfl:=QB hb;simp only [cond,Ap,A2,XZ]
  | false =>
   simp only [cond];rw [Ao _ _ (Akb hb).symm,A1i hs.2 g2 h]
   cases hw:K1 R h with
   | none=>rfl
   | some k =>
    simp only [A2];rw [A5y (g1 _ (A0q hw)).1.symm];rfl
 | [],_::_,_,e,_,_=>by simp [Br] at e
 | _::_,[],_,e,_,_=>by simp [Br] at e
def So (bs:List (Nat × B3)) (k:Nat):(c:CK)->SV->Option (c.den × List (Nat × Nat))
 | .im t,v=>bif t.one then (v.as true t).map λx=>(x,[]) else none
 | .own e t,.hw h=>match A2 h bs with
  | some (.arr e' sh false xs)=>bif Nat.beq e e' then ((Sh.sl sh).to (.sl t) xs).map λx=>(x,[(k,h)]) else none
  | _=>none
 | .ptr e t,.hp h 0 0=>match A2 h bs with
  | some (.var e' true false cs)=>bif Nat.beq e e'&&cs.all SV.isD then (t.all false cs).map λx=>(x,[(k,h)]) else none
  | _=>none
 | .tree e t,.hw h=>match A2 h bs with
  | some (.tree e' sh false xs)=>bif Nat.beq e e' then ((Sh.sl sh).to (.sl t) xs).map λx=>(x,[(k,h)]) else none
  | _=>none
 | .win e t,.hs h off len=>match A2 h bs with
  | some (.arr e' sh false xs)=>bif Nat.beq e e' then ((Sh.sl sh).to (.sl t) xs).map λx=>((x,off,len),[(k,h)]) else none
  | _=>none
 | _,_=>none
def Gn (bs:List (Nat × B3)) (k:Nat):(cs:List CK)->List SV->Option (DC cs × List (Nat × Nat))
 | [],[]=>some ((),[])
 | [c],[v]=>So bs k c v
 | c::d::r,v::vs=>match So bs k c v,Gn bs (k+1) (d::r) vs with
  | some (x,q),some (y,q')=>some ((x,y),q++q')
  | _,_=>none
 | _,_=>none
def A6e (bs:List (Nat × B3)) (k:Nat):(c:CK)->SV->Option (c.den × List (Nat × Nat))
 | .im t,v=>bif t.one then (v.as false t).map λx=>(x,[]) else none
 | .own e t,.hw h=>match A2 h bs with
  | some (.arr e' sh false xs)=>bif Nat.beq e e' then ((Sh.sl sh).to (.sl t) xs).map λx=>(x,[(k,h)]) else none
  | _=>none
 | _,_=>none
def Gw (bs:List (Nat × B3)) (k:Nat):(cs:List CK)->List SV->Option (DC cs × List (Nat × Nat))
 | [],[]=>some ((),[])
 | [c],[v]=>A6e bs k c v
 | c::d::r,v::vs=>match A6e bs k c v,Gw bs (k+1) (d::r) vs with
  | some (x,q),some (y,q')=>some ((x,y),q++q')
  | _,_=>none
 | _,_=>none
def Aty (bs:List (Nat × B3)) (k:Nat) (e:TypeId) (gs:List CK) (v:SV):Option (DC gs × List (Nat × Nat)):=match v with
 | .hp h 0 0=>match A2 h bs with
  | some (.var e' false false cs)=>bif Nat.beq e e' then (Gw bs (k+1) gs cs).map λq=>(q.1,(k,h)::q.2) else none
  | _=>none
 | _=>none
def A5f (bs:List (Nat × B3)) (k:Nat):(p:PK)->SV->Option (Bool × p.den × List Nat × List (Nat × Nat))
 | .im t,v=>(A5h bs t v).map λq=>(q.1,q.2.1,q.2.2,[])
 | .one c,v=>(So bs k c v).map λq=>(true,q.1,[],q.2)
 | .mix cs,.agg vs=>(Gn bs k cs vs).map λq=>(true,q.1,[],q.2)
 | .pst e gs,v=>(Aty bs k e gs v).map λq=>(true,q.1,[],q.2)
 | _,_=>none
def Ng (bs:List (Nat × B3)) (k:Nat):(ps:List PK)->List SV->Option (Bool × HP ps × List Nat × List (Nat × Nat))
 | [],[]=>some (true,(),[],[])
 | [p],[v]=>A5f bs k p v
 | p::q::r,v::vs=>match A5f bs k p v,Ng bs (k+p.n) (q::r) vs with
  | some (g,x,l,n),some (g',y,l',n')=>some (g&&g',(x,y),l++l',n++n')
  | _,_=>none
 | _,_=>none
def B3.plain:B3->Bool
 | .arr _ _ _ _=>true
 | .var _ hf _ cs=>hf&&cs.all SV.isD
 | .tree _ _ _ _=>true
 | _=>false
theorem A5w (σ:Nat->Nat) (p:Nat->Bool) {L:Nat->Nat} {b:B3} (h:b.plain=true):(b.box L).ren σ=b.box L/\(b.box L).okH p=true:=by
 cases b with
 | arr e t fz xs=>exact ⟨by simp [B3.box,Box.ren,ZX,Qav,C.ren],by simp [B3.box,Box.okH,C.okH]⟩
 | tree e t fz xs=>exact ⟨by simp [B3.box,Box.ren,ZX,Qav,C.ren],by simp [B3.box,Box.okH,C.okH]⟩
 | rep=>cases h
 | hole=>cases h
 | var e hf fz cs =>
  simp only [B3.plain,QF] at h;have hc:∀ x ∈ cs,x.c L = .i x.i0:=λx hx=>Apz (QJ.1 h.2 x hx);refine ⟨?_,?_⟩
  . simp only [B3.box,Box.ren,QT,XN,ZX];congr 2
    exact ZF λx hx=>by simp only [Function.comp,hc x hx,C.ren]
  . simp only [B3.box,Box.okH,XC,KR,XO,YF,QJ,Function.comp]
    exact λx hx=>by rw [hc x hx];rfl
theorem Wu {σ:Nat->Nat} {L:Nat->Nat} {b:B3} (h:b.plain=true):(b.box L).ren σ=b.box L:=(A5w σ (λ_=>true) h).1
theorem Wv {p:Nat->Bool} {L:Nat->Nat} {b:B3} (h:b.plain=true):(b.box L).okH p=true:=(A5w id p h).2
def C9 (bs B:List (Nat × B3)) (q:List (Nat × Nat)):Prop :=
 ∀ k b,(k,b) ∈ B->∃ h b',(k,h) ∈ q/\A2 h bs=some b'/\b'.len=b.len/\(∀ (L L' σ:Nat->Nat),(∀ p ∈ q,σ p.1=p.2/\L p.2=L' p.1)->b'.box L=(b.box L').ren σ) /\ ∀ L,(b.box L).fz=false/\(b.box L).okH (λk=>q.any λp=>Nat.beq p.1 k)=true
theorem C9.plain {bs:List (Nat × B3)} {k h:Nat} {b b':B3} {q:List (Nat × Nat)} (hq:(k,h) ∈ q) (hl:A2 h bs=some b') (hn:b'.len=b.len) (hp:b.plain=true) (hb:∀ L L',b'.box L=b.box L') (hf:∀ L,(b.box L).fz=false):C9 bs [(k,b)] q:=by
 intro k1 b1 hm;obtain ⟨rfl,rfl⟩:=KJ (QS.1 hm);exact ⟨h,b',hq,hl,hn,λL L' σ _=>(hb L L').trans (Wu hp).symm,λL=>⟨hf L,Wv hp⟩⟩
theorem B77 {q q':List (Nat × Nat)} (h:∀ p ∈ q,p ∈ q') {b:Box} (hb:b.okH (λk=>q.any λp=>Nat.beq p.1 k)=true):b.okH (λk=>q'.any λp=>Nat.beq p.1 k)=true:=by
 refine QJ.2 λr hr=>QJ.2 λc hc=>C.okH_mono (λk hk=>?_) (QJ.1 (QJ.1 hb r hr) c hc);obtain ⟨p,hp,hp2⟩:=ZI.1 hk;exact ZI.2 ⟨p,h p hp,hp2⟩
theorem C9.mono {bs B:List (Nat × B3)} {q q':List (Nat × Nat)} (h:C9 bs B q) (hq:∀ p ∈ q,p ∈ q'):C9 bs B q':=by
 intro k b hb;obtain ⟨x,y,h1,h2,h3,h4,h5⟩:=h k b hb;exact ⟨x,y,hq _ h1,h2,h3,λL L' σ hh=>h4 L L' σ λp hp=>hh p (hq p hp),λL=>⟨(h5 L).1,B77 hq (h5 L).2⟩⟩
theorem C9.app {bs B B':List (Nat × B3)} {q q':List (Nat × Nat)} (h:C9 bs B q) (h':C9 bs B' q'):C9 bs (B++B') (q++q'):=by
 intro k b hb;rcases QE.1 hb with hb | hb
 . exact h.mono (λp hp=>QE.2 (.inl hp)) k b hb
 . exact h'.mono (λp hp=>QE.2 (.inr hp)) k b hb
theorem Abq {bs:List (Nat × B3)} {k:Nat} {c:CK} {v:SV} {x:c.den} {q:List (Nat × Nat)} (h:A6e bs k c v=some (x,q)) :
  C9 bs (c.bx k x) q/\(∀ (L L' σ:Nat->Nat),(∀ p ∈ q,σ p.1=p.2/\L p.2=L' p.1)->v.c L=((c.sv k x).c L').ren σ) /\ ∀ L',((c.sv k x).c L').okH (λk=>q.any λp=>Nat.beq p.1 k)=true:=by
 unfold A6e at h;split at h
 . rename_i t
   cases ht:t.one with
   | false=>rw [ht] at h;cases h
   | true =>
    rw [ht] at h;simp only [cond,QD,QL] at h;obtain ⟨y,hy,rfl,rfl⟩:=h;obtain rfl:=Pu hy
    exact ⟨(λk b hb=>by cases hb),λ_ _ _ _=>rfl,λ_=>rfl⟩
 . rename_i e t hh;split at h
   . rename_i e' sh xs hl
     cases he:Nat.beq e e' with
     | false=>rw [he] at h;cases h
     | true =>
      rw [he] at h;simp only [cond,QD,QL] at h;obtain ⟨y,hy,rfl,rfl⟩:=h;obtain ⟨rfl,rfl⟩:=E7 hy;obtain rfl:=QB he
      refine ⟨C9.plain (h:=hh) (by simp) hl rfl rfl (λ_ _=>rfl) (λ_=>rfl),λL L' σ hp=>?_,λL'=>?_⟩
      . obtain ⟨h1,h2⟩:=hp (k,hh) (by simp)
        simp only [CK.sv,SV.c,C.ren];simp only at h1 h2;rw [h1,h2]
      . simp [CK.sv,SV.c,C.okH]
   . cases h
 . cases h
theorem A6d {bs:List (Nat × B3)}:∀ {cs:List CK} {k:Nat} {vs:List SV} {x:DC cs} {q:List (Nat × Nat)},Gw bs k cs vs=some (x,q) ->
  C9 bs (Hg k cs x) q/\(∀ (L L' σ:Nat->Nat),(∀ p ∈ q,σ p.1=p.2/\L p.2=L' p.1)->vs.map (SV.c L)=((Gc k cs x).map (SV.c L')).map (C.ren σ)) /\ ∀ L',((Gc k cs x).map (SV.c L')).all (C.okH λk=>q.any λp=>Nat.beq p.1 k)=true
 | [],k,[],x,q,h=>by
  simp only [Gw,QC,QL] at h;obtain ⟨_,rfl⟩:=h
  exact ⟨(λk b hb=>by cases hb),λ_ _ _ _=>rfl,λ_=>rfl⟩
 | [],k,_::_,_,_,h=>by simp [Gw] at h
 | [c],k,[],_,_,h=>by simp [Gw] at h
 | [c],k,[v],x,q,h=>by
  obtain ⟨h1,h2,h3⟩:=Abq (x:=x) h;refine ⟨h1,λL L' σ hp=>?_,λL'=>?_⟩
  . simp only [Gc,QT,XN,h2 L L' σ hp]
  . simp only [Gc,QT,XN,XC,KR,h3 L',ZN]
 | [c],k,v::w::r,_,_,h=>by simp [Gw] at h
 | c::d::r,k,[],_,_,h=>by simp [Gw] at h
 | c::d::r,k,v::vs,x,q,h=>by
  simp only [Gw] at h;split at h
  . rename_i x1 q1 y1 q2 h1 h2;simp only [QC,QL] at h;obtain ⟨rfl,rfl⟩:=h;obtain ⟨a1,a2,a3⟩:=Abq h1;obtain ⟨b1,b2,b3⟩:=A6d h2;refine ⟨a1.app b1,λL L' σ hp=>?_,λL'=>?_⟩
    . simp only [Gc,QT,a2 L L' σ (λp h=>hp p (QE.2 (.inl h))),b2 L L' σ (λp h=>hp p (QE.2 (.inr h)))]
    . simp only [Gc,QT,XC,QF]
      have mono:∀ (q0:List (Nat × Nat)),(∀ p ∈ q0,p ∈ q1++q2)->∀ k,(q0.any λp=>Nat.beq p.1 k)=true->((q1++q2).any λp=>Nat.beq p.1 k)=true:=λq0 h0 k hk=>by
       obtain ⟨p,hp,hp2⟩:=ZI.1 hk;exact ZI.2 ⟨p,h0 p hp,hp2⟩
      exact ⟨C.okH_mono (mono q1 λp h=>QE.2 (.inl h)) (a3 L'),QJ.2 λc hc=>C.okH_mono (mono q2 λp h=>QE.2 (.inr h)) (QJ.1 (b3 L') c hc)⟩
  . cases h
theorem Vb {bs:List (Nat × B3)} {hd:Nat->Nat->Bool} {L:Nat->Nat} {k:Nat} {c:CK} {v:SV} {x:c.den} {q:List (Nat × Nat)} (h:So bs k c v=some (x,q))
  (hq:∀ p ∈ q,hd p.1 p.2=true) (hL:∀ k' b,(k',b) ∈ c.bx k x->L k'=b.len) :
  v.cellB=true/\(∃ ob,Pv hd (A2 · (Ai (B3.box (A6 bs)) bs)) (v.c (A6 bs)) ((c.sv k x).c L)=some (ob,[]) /\ ∀ p ∈ ob,p)/\(c.sv k x).cellB=true/\C9 bs (c.bx k x) q:=by
 unfold So at h;split at h
 . rename_i t
   cases ht:t.one with
   | false=>rw [ht] at h;cases h
   | true =>
    rw [ht] at h;simp only [cond,QD,QL] at h;obtain ⟨y,hy,rfl,rfl⟩:=h;obtain ⟨q1,ob,q2,q3⟩:=Sp (L:=A6 bs) ht hy
    refine ⟨Q7 q1,⟨ob,?_,q3⟩,ht,λk b hb=>by cases hb⟩
    have hc:=Apz (L:=A6 bs) q1;rw [hc] at q2 ⊢;simp only [CK.sv,SV.c,Pv,Hi,V.noH,Cj,ZN,cond,A20,q2,QV]
 . rename_i e t hh;split at h
   . rename_i e' sh xs hl
     cases he:Nat.beq e e' with
     | false=>rw [he] at h;cases h
     | true =>
      rw [he] at h;simp only [cond,QD,QL] at h;obtain ⟨y,hy,rfl,rfl⟩:=h;obtain ⟨rfl,rfl⟩:=E7 hy;obtain rfl:=QB he
      have hle:A6 bs hh=xs.length:=by simp [A6,hl,B3.len]
      have hk:L k=xs.length:=hL k (.arr e sh false xs) (by simp [CK.bx])
      refine ⟨rfl,⟨[0=0,A6 bs hh=L k],?_,by simp [hle,hk]⟩,rfl,λk' b hb=>?_⟩
      . simp only [CK.sv,SV.c,Pv,hq (k,hh) (by simp),cond]
      . exact C9.plain (k:=k) (h:=hh) (q:=[(k,hh)]) (by simp) hl rfl rfl (λ_ _=>rfl) (λ_=>rfl) k' b hb
   . cases h
 . rename_i e t hh;split at h
   . rename_i e' cs hl
     cases he:(Nat.beq e e'&&cs.all SV.isD) with
     | false=>rw [he] at h;cases h
     | true =>
      rw [he] at h;simp only [cond,QD,QL] at h;obtain ⟨y,hy,rfl,rfl⟩:=h;simp only [QF] at he;obtain rfl:=QB he.1;obtain ⟨a1,_,_,a4⟩:=Dq hy
      refine ⟨rfl,⟨[0=0,0=0],?_,by simp⟩,rfl,λk' b hb=>?_⟩
      . simp only [CK.sv,SV.c,Pv,hq (k,hh) (by simp),cond]
      . refine C9.plain (k:=k) (h:=hh) (q:=[(k,hh)]) (b:=.var e true false (t.exp y)) (by simp) hl rfl (by simp only [B3.plain,ZV];exact (J1 t y).2) (λL1 L2=>?_) (λ_=>rfl) k' b hb
        simp only [B3.box,a1,N8,Aap,a4]
   . cases h
 . rename_i e t hh;split at h
   . rename_i e' sh xs hl
     cases he:Nat.beq e e' with
     | false=>rw [he] at h;cases h
     | true =>
      rw [he] at h;simp only [cond,QD,QL] at h;obtain ⟨y,hy,rfl,rfl⟩:=h;obtain ⟨rfl,rfl⟩:=E7 hy;obtain rfl:=QB he
      have hle:A6 bs hh=xs.length:=by simp [A6,hl,B3.len]
      have hk:L k=xs.length:=hL k (.tree e sh false xs) (by simp [CK.bx])
      refine ⟨rfl,⟨[0=0,A6 bs hh=L k],?_,by simp [hle,hk]⟩,rfl,λk' b hb=>?_⟩
      . simp only [CK.sv,SV.c,Pv,hq (k,hh) (by simp),cond]
      . exact C9.plain (k:=k) (h:=hh) (q:=[(k,hh)]) (by simp) hl rfl rfl (λ_ _=>rfl) (λ_=>rfl) k' b hb
   . cases h
 . rename_i e t hh off len;split at h
   . rename_i e' sh xs hl
     cases he:Nat.beq e e' with
     | false=>rw [he] at h;cases h
     | true =>
      rw [he] at h;simp only [cond,QD,QL] at h;obtain ⟨y,hy,rfl,rfl⟩:=h;obtain ⟨rfl,rfl⟩:=E7 hy;obtain rfl:=QB he
      refine ⟨rfl,⟨[off=off,len=len],?_,by simp⟩,rfl,λk' b hb=>?_⟩
      . simp only [CK.sv,SV.c,Pv,hq (k,hh) (by simp),cond]
      . exact C9.plain (k:=k) (h:=hh) (q:=[(k,hh)]) (by simp) hl rfl rfl (λ_ _=>rfl) (λ_=>rfl) k' b hb
   . cases h
 . cases h
theorem A1p {bs:List (Nat × B3)} {hd:Nat->Nat->Bool} {L:Nat->Nat}:∀ {cs:List CK} {k:Nat} {vs:List SV} {x:DC cs} {q:List (Nat × Nat)},Gn bs k cs vs=some (x,q) ->
  (∀ p ∈ q,hd p.1 p.2=true)->(∀ k' b,(k',b) ∈ Hg k cs x->L k'=b.len) ->
  (∃ ob,Nh hd (A2 · (Ai (B3.box (A6 bs)) bs)) (vs.map (SV.c (A6 bs))) ((Gc k cs x).map (SV.c L))=some (ob,[]) /\ ∀ p ∈ ob,p)/\C9 bs (Hg k cs x) q
 | [],k,[],x,q,h,_,_=>⟨⟨[],rfl,by simp⟩,λk b hb=>by cases hb⟩
 | [],k,_::_,_,_,h,_,_=>by simp [Gn] at h
 | [c],k,[],_,_,h,_,_=>by simp [Gn] at h
 | [c],k,[v],x,q,h,hq,hL=>by
  obtain ⟨_,⟨ob,h1,h2⟩,_,h3⟩:=Vb (hd:=hd) (L:=L) (x:=x) h hq hL
  refine ⟨⟨ob++[],?_,by simpa using h2⟩,h3⟩
  simp only [Gc,QT,XN,Nh,h1,XU]
 | [c],k,v::w::r,_,_,h,_,_=>by simp [Gn] at h
 | c::d::r,k,[],_,_,h,_,_=>by simp [Gn] at h
 | c::d::r,k,v::vs,x,q,h,hq,hL=>by
  simp only [Gn] at h;split at h
  . rename_i x1 q1 y1 q2 h1 h2;simp only [QC,QL] at h;obtain ⟨rfl,rfl⟩:=h
    obtain ⟨_,⟨ob,a1,a2⟩,_,a3⟩:=Vb (hd:=hd) (L:=L) h1 (λp hp=>hq p (QE.2 (.inl hp))) (λk' b hb=>hL k' b (by simp only [Hg];exact QE.2 (.inl hb)))
    obtain ⟨⟨ob',b1,b2⟩,b3⟩:=A1p (hd:=hd) (L:=L) h2 (λp hp=>hq p (QE.2 (.inr hp))) (λk' b hb=>hL k' b (by simp only [Hg];exact QE.2 (.inr hb)))
    refine ⟨⟨ob++ob',?_,λp hp=>(QE.1 hp).elim (a2 p) (b2 p)⟩,a3.app b3⟩;simp only [Gc,QT,Nh,a1,b1,XU]
  . cases h
theorem Ap5 {bs:List (Nat × B3)} {hd:Nat->Nat->Bool} {L:Nat->Nat} {k:Nat} {p:PK} {v:SV} {g:Bool} {x:p.den} {bor:List Nat} {q:List (Nat × Nat)} (h:A5f bs k p v=some (g,x,bor,q)) (hg:g=true)
  (hq:∀ p ∈ q,hd p.1 p.2=true) (hL:∀ k' b,(k',b) ∈ p.bx k x->L k'=b.len) :
  (∃ ob,Z3 hd (A2 · (Ai (B3.box (A6 bs)) bs)) p.isIm (v.s (A6 bs)) ((p.sv k x).v L)=some (ob,bor) /\ ∀ p ∈ ob,p)/\(∀ k ∈ bor,∃ b,A2 k (Ai (B3.box (A6 bs)) bs)=some b/\b.fz=false)/\C9 bs (p.bx k x) q/\v.alive=true:=by
 cases p with
 | im t =>
  simp only [A5f,QD,QL] at h;obtain ⟨⟨g',y,b⟩,h1,rfl,rfl,rfl,rfl⟩:=h;obtain ⟨ob,a1,a2,a3⟩:=Aay h1 hg
  refine ⟨⟨ob,?_,a2⟩,a3,(λk b hb=>by cases hb),Vi h1⟩
  simp only [Z3,PK.isIm,cond,PK.sv,(J6 t y).1];exact a1
 | one c =>
  simp only [A5f,QD,QL] at h;obtain ⟨⟨y,b⟩,h1,rfl,rfl,rfl,rfl⟩:=h;obtain ⟨c1,⟨ob,a1,a2⟩,c2,a3⟩:=Vb (hd:=hd) (L:=L) h1 hq hL
  refine ⟨⟨ob,?_,a2⟩,by simp,a3,Bi λe=>by subst e;cases c1⟩
  simp only [Z3,PK.isIm,cond,PK.sv,(G2 c1).1,(G2 c2).2];exact a1
 | mix cs =>
  cases v with
  | agg vs =>
   simp only [A5f] at h;simp only [QD,QL] at h;obtain ⟨⟨y,b⟩,h1,rfl,rfl,rfl,rfl⟩:=h;obtain ⟨⟨ob,a1,a2⟩,a3⟩:=A1p (hd:=hd) (L:=L) h1 hq hL
   refine ⟨⟨ob,?_,a2⟩,by simp,a3,rfl⟩
   simp only [Z3,PK.isIm,cond,PK.sv,SV.s,SV.v];exact a1
  | _=>cases h
 | pst e gs =>
  simp only [A5f,QD,QL] at h;obtain ⟨⟨y,b⟩,h1,rfl,rfl,rfl,rfl⟩:=h;unfold Aty at h1;split at h1
  . rename_i h0;split at h1
    . rename_i e' cs hl
      cases he:Nat.beq e e' with
      | false=>rw [he] at h1;cases h1
      | true =>
       rw [he] at h1;simp only [cond,QD,QL] at h1;obtain ⟨⟨z,qq⟩,h1,rfl,rfl⟩:=h1;obtain rfl:=QB he;obtain ⟨b1,b2,b3⟩:=A6d h1
       refine ⟨⟨[0=0,0=0],?_,by simp⟩,by simp,?_,rfl⟩
       . simp only [Z3,PK.isIm,cond,PK.sv,SV.s,SV.v,SV.c,Pv,hq (k,h0) (by simp)]
       . intro k' b hb;rcases QW.1 (show (k',b) ∈ (k,B3.var e false false (Gc (k+1) gs z))::Hg (k+1) gs z from hb) with hb | hb
         . obtain ⟨rfl,rfl⟩:=KJ hb
           refine ⟨h0,_,by simp,hl,rfl,λL L' σ hp=>?_,λL=>⟨rfl,?_⟩⟩
           . have e1:=b2 L L' σ λp hp'=>hp p (ZH _ hp');have e2:=XT List.length e1;simp only [QZ] at e2;simp only [B3.box,Box.ren,QT,XN,e1,e2]
           . simp only [B3.box,Box.okH,XC,KR,XO];refine QJ.2 λc hc=>C.okH_mono (λj hj=>?_) (QJ.1 (b3 L) c hc);obtain ⟨p,hp,hp2⟩:=ZI.1 hj;exact ZI.2 ⟨p,ZH _ hp,hp2⟩
         . exact b1.mono (λp hp=>ZH _ hp) k' b hb
    . cases h1
  . cases h1
theorem Ake {bs:List (Nat × B3)} {hd:Nat->Nat->Bool} {L:Nat->Nat}:∀ {ps:List PK} {k:Nat} {vs:List SV} {g:Bool} {x:HP ps} {bor:List Nat} {q:List (Nat × Nat)},Ng bs k ps vs=some (g,x,bor,q)->g=true ->
  (∀ p ∈ q,hd p.1 p.2=true)->(∀ k' b,(k',b) ∈ D7 k ps x->L k'=b.len) ->
  (∃ ob,I9 hd (A2 · (Ai (B3.box (A6 bs)) bs)) (ps.map PK.isIm) (vs.map (SV.s (A6 bs))) ((C6 k ps x).map (SV.v L))=some (ob,bor) /\ ∀ p ∈ ob,p)/\(∀ k ∈ bor,∃ b,A2 k (Ai (B3.box (A6 bs)) bs)=some b/\b.fz=false)/\C9 bs (D7 k ps x) q /\ ∀ v ∈ vs,v.alive=true
 | [],k,[],g,x,bor,q,h,_,_,_=>by
  simp only [Ng,QC,QL] at h;obtain ⟨_,_,rfl,rfl⟩:=h
  exact ⟨⟨[],rfl,by simp⟩,by simp,(λk b hb=>by cases hb),by simp⟩
 | [],k,_::_,_,_,_,_,h,_,_,_=>by simp [Ng] at h
 | [p],k,[],_,_,_,_,h,_,_,_=>by simp [Ng] at h
 | [p],k,[v],g,x,bor,q,h,hg,hq,hL=>by
  obtain ⟨⟨ob,h1,h2⟩,h3,h4,h5⟩:=Ap5 (hd:=hd) (L:=L) (x:=x) h hg hq hL
  refine ⟨⟨ob++[],?_,by simpa using h2⟩,h3,h4,by simpa using h5⟩
  simp only [C6,QT,XN,I9,h1,XU]
 | [p],k,v::w::r,_,_,_,_,h,_,_,_=>by simp [Ng] at h
 | p::p2::r,k,[],_,_,_,_,h,_,_,_=>by simp [Ng] at h
 | p::p2::r,k,v::vs,g,x,bor,q,h,hg,hq,hL=>by
  simp only [Ng] at h;split at h
  . rename_i g1 x1 l1 q1 g2 y1 l2 q2 h1 h2;simp only [QC,QL] at h;obtain ⟨rfl,rfl,rfl,rfl⟩:=h;simp only [QF] at hg
    obtain ⟨⟨ob,a1,a2⟩,a3,a4,a5⟩:=Ap5 (hd:=hd) (L:=L) h1 hg.1 (λp hp=>hq p (QE.2 (.inl hp))) (λk' b hb=>hL k' b (by simp only [D7];exact QE.2 (.inl hb)))
    obtain ⟨⟨ob',b1,b2⟩,b3,b4,b5⟩:=Ake (hd:=hd) (L:=L) h2 hg.2 (λp hp=>hq p (QE.2 (.inr hp))) (λk' b hb=>hL k' b (by simp only [D7];exact QE.2 (.inr hb)))
    refine ⟨⟨ob++ob',?_,λp hp=>(QE.1 hp).elim (a2 p) (b2 p)⟩,λj hj=>(QE.1 hj).elim (a3 j) (b3 j),a4.app b4,by simpa using ⟨a5,b5⟩⟩
    simp only [QT] at b1;simp only [C6,QT,I9,a1,b1]
  . cases h
end Go.Ev

/- DERIVED. A state that a template takes may be read as the template's. -/
namespace Go.Ev
open Go
variable {P:Program} {T:Ty}
def Hj (x x':S):Prop:=∀ (w:World) (E:Env) (v:Value),Rs w E v x->Rs w E v x'
def Fn (c c':C):Prop:=∀ (w:World) (E:Env) (v:Value),Rc w E v c->Rc w E v c'
structure At2 (b b':Box):Prop where
 e:b'.e=b.e
 sz:b'.sz=b.sz
 fz:b'.fz=b.fz
 tr:b'.tr=b.tr
 trr:b'.tr=true->b'.rows=b.rows
 len:b'.rows.length=b.rows.length
 rows:∀ (i:Nat) (r':List C),b'.rows[i]? = some r'->∃ r,b.rows[i]? = some r/\r'.length=r.length /\ ∀ (j:Nat) (c':C),r'[j]? = some c'->∃ c,r[j]? = some c/\Fn c c'
 hf:b'.hf=true->∀ (i:Nat) (r:List C) (j:Nat) (c:C),b'.rows[i]? = some r->r[j]? = some c->∃ x,c = .i x
theorem Bm.sub {w:World} {E:Env} {b b':Box} {g cap:Nat} (h:Bm w E b g cap) (hb:At2 b b'):Bm w E b' g cap:=by
 obtain ⟨arr,a1,a2,a3,a4,a5,a6,a7,a8,a9⟩:=h
 refine ⟨arr,by rw [hb.e];exact a1,by rw [hb.sz];exact a2,by rw [hb.len];exact a3,a4,λi r hi=>?_,λi r j c hi hj=>?_,λhf i r j c hi hj=>hb.hf hf i r j c hi hj,λhf=>a8 (by rw [<- hb.fz];exact hf),a9⟩
 . obtain ⟨r0,h1,h2,_⟩:=hb.rows i r hi;rw [h2,hb.sz];exact a5 i r0 h1
 . obtain ⟨r0,h1,_,h3⟩:=hb.rows i r hi;obtain ⟨c0,h4,h5⟩:=h3 j c hj;obtain ⟨v,h6,h7⟩:=a6 i r0 j c0 h1 h4
   exact ⟨v,by rw [hb.sz];exact h6,h5 _ _ _ h7⟩
theorem A9.sub {Γ:Ctx} {w:World} {E:Env} {s s':St} {tmps:Array Value} (hs:A9 Γ w E s tmps) (hnt:s'.nt=s.nt)
  (h1:∀ t x',A2 t s'.slots=some x'->∃ x,A2 t s.slots=some x/\Hj x x')
  (h2:∀ h b',A2 h s'.boxes=some b'->∃ b,A2 h s.boxes=some b/\At2 b b')
  (h3:∀ h b,A2 h s.boxes=some b->(A2 h s'.boxes).isSome=true):A9 Γ w E s' tmps where
 fr:=hs.fr
 held:=hs.held
 tow:=hs.tow
 wf:=by rw [hnt];exact hs.wf
 old:=hs.old
 nt:=by rw [hnt];exact hs.nt
 tag:=hs.tag
 new:=hs.new
 boxes:=λh b' hb'=>by
  obtain ⟨b,hb,hsub⟩:=h2 h b' hb';obtain ⟨g,cap,hβ,hat,hω,hS⟩:=hs.boxes h b hb
  refine ⟨g,cap,by rw [hsub.sz];exact hβ,by rw [hsub.tr];exact hat.sub hsub,hω,λe=>?_⟩
  have h5:=hS (by rw [<- hsub.tr];exact e)
  unfold Ma at h5 ⊢;rw [hsub.trr e,hsub.sz];exact h5
 inj:=λh h' b b' g g' z z' hb hb' hz hz' hne=>by
  obtain ⟨b0,hb0,_⟩:=h2 h b hb;obtain ⟨b1,hb1,_⟩:=h2 h' b' hb';exact hs.inj h h' b0 b1 g g' z z' hb0 hb1 hz hz' hne
 own:=λh b' g z hb' hz=>by
  obtain ⟨b,hb,hsub⟩:=h2 h b' hb';rw [hsub.fz];exact hs.own h b g z hb hz
 slots:=λt x' hx'=>by
  obtain ⟨x,hx,hsub⟩:=h1 t x' hx';exact hsub _ _ _ (hs.slots t x hx)
 tsize:=hs.tsize
 dom:=λh x hx=>by
  obtain ⟨b,hb⟩:=QY.1 (hs.dom h x hx);exact h3 h b hb
 stay:=hs.stay
 fzn:=λh b' g z hb' hz hf=>by
  obtain ⟨b,hb,hsub⟩:=h2 h b' hb'
  exact hs.fzn h b g z hb hz (by rw [<- hsub.fz];exact hf)
theorem Fn.refl (c:C):Fn c c:=λ_ _ _ h=>h
theorem Hj.refl (x:S):Hj x x:=λ_ _ _ h=>h
theorem Hj.dead (x:S):Hj x .dead:=λ_ _ _ _=>.dead
theorem Af3 {c c':C} (h:∃ ob,T0 c c'=some ob /\ ∀ p ∈ ob,p):Fn c c':=by
 obtain ⟨ob,h1,h2⟩:=h;exact λw E v hv=>Ms hv h1 h2
def Akl (cs cs':List C):Prop:=cs'.length=cs.length /\ ∀ (j:Nat) (c':C),cs'[j]? = some c'->∃ c,cs[j]? = some c/\Fn c c'
theorem Ab9:∀ (cs cs':List C) (ob:List Prop),F2 cs cs'=some ob->(∀ p ∈ ob,p)->Akl cs cs'
 | [],[],_,_,_=>⟨rfl,λj c hj=>by simp at hj⟩
 | [],_::_,_,h,_=>by simp [F2] at h
 | _::_,[],_,h,_=>by simp [F2] at h
 | c::cs,c'::cs',ob,h,ho=>by
  simp only [F2] at h;split at h
  . rename_i p q h1 h2;obtain rfl:=QA h;obtain ⟨i1,i2⟩:=Ab9 cs cs' q h2 (λx hx=>ho x (QE.2 (.inr hx)))
    refine ⟨by simp [i1],λj d hj=>?_⟩
    cases j with
    | zero =>
     simp at hj;subst hj;exact ⟨c,rfl,Af3 ⟨p,h1,λx hx=>ho x (QE.2 (.inl hx))⟩⟩
    | succ j=>exact i2 j d (by simpa using hj)
  . cases h
theorem G9.subL {L:Nat->Nat} {cs:List SV} {ds:List I} (h:G9 L cs ds):Akl (cs.map (SV.c L)) (ds.map .i):=by
 obtain ⟨ob,h1,h2⟩:=h;exact Ab9 _ _ _ h1 h2
theorem Akl.agg {cs cs':List C} (h:Akl cs cs'):Hj (.v (.agg cs)) (.v (.agg cs')):=by
 intro w E v hv
 cases hv with
 | v hv =>
  cases hv with
  | agg hv =>
   refine .v (.agg ⟨by rw [h.1];exact hv.1,λj v c hv' hc=>?_⟩)
   obtain ⟨c0,h1,h2⟩:=h.2 j c hc;exact h2 _ _ _ (hv.2 j v c0 hv' h1)
theorem Fn.one {c c':C} (h:Fn c c'):Hj (.v (.one c)) (.v (.one c')):=by
 intro w E v hv
 cases hv with
 | v hv=>cases hv with | one hv=>exact .v (.one (h _ _ _ hv))
theorem Ap1 {L:Nat->Nat} {t:TS} {v:SV} {x:t.den} (h:t.dec v=some x):Hj (v.s L) ((t.enc x).s L)/\(v.cellB=true->(t.enc x).cellB=true->Fn (v.c L) ((t.enc x).c L)):=by
 cases t with
 | d t =>
  simp only [TS.dec] at h;split at h
  . rename_i cs;split at h
    . rename_i t0
      cases hd:cs.all SV.isD with
      | false=>rw [hd] at h;cases h
      | true =>
       rw [hd] at h;simp only [cond] at h;obtain ⟨_,_,h3,_⟩:=Dq h
       have e:(SV.rf cs).c L=(SV.d (.ref t0) x).c L:=by
        simp only [SV.c,h3 hd,Sh.cells,hd1]
       have hc:Fn ((SV.rf cs).c L) ((TS.enc (.d (.ref t0)) x).c L):=by
        show Fn _ ((SV.d (.ref t0) x).c L);rw [<- e];exact Fn.refl _
       exact ⟨hc.one,λ_ _=>hc⟩
    . cases h
  . rename_i hnr
    cases ht:t.one with
    | false=>rw [ht] at h;cases h
    | true =>
     rw [ht] at h;obtain ⟨q1,q2⟩:=Sp (L:=L) ht h;have hc:Fn (v.c L) ((TS.enc (.d t) x).c L):=Af3 q2
     have e:v.s L = .v (.one (v.c L)):=by cases v <;> first | rfl | cases q1
     refine ⟨?_,λ_ _=>hc⟩;rw [e];exact hc.one
 | ag t =>
  simp only [TS.dec] at h;split at h
  . rename_i cs;obtain ⟨h1,h2⟩:=A5j (L:=L) h
    refine ⟨?_,λhc=>by cases hc⟩
    show Hj (.v (.agg (cs.map (SV.c L)))) (.v (.agg ((t.exp x).map (SV.c L))));rw [N8];exact h1.subL.agg
  . cases h
 | k c =>
  simp only [TS.dec] at h
  cases hs:c.same v with
  | false=>rw [hs] at h;cases h
  | true =>
   show Hj (v.s L) (c.s L)/\(v.cellB=true->c.cellB=true->Fn (v.c L) (c.c L));unfold SV.same at hs;split at hs
   . obtain rfl:=QB hs;exact ⟨Hj.refl _,λ_ _=>Fn.refl _⟩
   . simp only [QF] at hs;obtain rfl:=QB hs.1.1;obtain rfl:=QB hs.1.2;obtain rfl:=QB hs.2;exact ⟨Hj.refl _,λ_ _=>Fn.refl _⟩
   . exact ⟨Hj.dead _,λ_ h=>by cases h⟩
   . rename_i t x' t' y;simp only [QF] at hs;obtain rfl:=Sh.eqb_eq hs.2
     have:SV.d t x'=SV.d t y:=by
      split at hs
      . rfl
      . rfl
      . exact absurd hs.1 (by simp)
     rw [this];exact ⟨Hj.refl _,λ_ _=>Fn.refl _⟩
   . cases hs
 | hs h' =>
  simp only [TS.dec] at h;split at h
  . rename_i k o l
    cases hk:Nat.beq h' k with
    | false=>rw [hk] at h;cases h
    | true =>
     rw [hk] at h;obtain rfl:=QB hk;simp only [cond,QC] at h;subst h;exact ⟨Hj.refl _,λ_ _=>Fn.refl _⟩
  . cases h
theorem Ak0:∀ {l:List (Nat × TS)} {sl:List (Nat × SV)} {x:DK TS TS.den l},Aas l sl=some x->∀ (L:Nat->Nat) (k:Nat) (y:S),A2 k (Ai (SV.s L) (Ajs l x))=some y->∃ z,A2 k (Ai (SV.s L) sl)=some z/\Hj z y
 | [],[],_,_,_,k,y,h=>by simp [Ajs,Ai,A2] at h
 | [],_::_,_,h,_,_,_,_=>by simp [Aas] at h
 | _::_,[],_,h,_,_,_,_=>by simp [Aas] at h
 | (k,t)::r,(j,v)::vs,x,h,L,i,y,hy=>by
  simp only [Aas] at h
  cases hk:Nat.beq k j with
  | false=>rw [hk] at h;cases h
  | true =>
   rw [hk] at h;obtain rfl:=QB hk;simp only [cond] at h;split at h
   . rename_i a as h1 h2;obtain rfl:=QA h;simp only [Ajs,Ai,QT,A2] at hy ⊢
     cases hb:Nat.beq k i with
     | true =>
      rw [hb] at hy;simp only [cond,QC] at hy;subst hy;exact ⟨_,rfl,(Ap1 h1).1⟩
     | false =>
      rw [hb] at hy;exact Ak0 h2 L i y hy
   . cases h
theorem Ak1 {L:Nat->Nat}:∀ {l:List TS} {vs:List SV} {x:DL l},Aat l vs=some x->vs.all SV.cellB=true->(Js l x).all SV.cellB=true->Akl (vs.map (SV.c L)) ((Js l x).map (SV.c L))
 | [],[],_,_,_,_=>⟨rfl,λj c h=>by simp [Js] at h⟩
 | [],_::_,_,h,_,_=>by simp [Aat] at h
 | _::_,[],_,h,_,_=>by simp [Aat] at h
 | t::r,v::vs,x,h,hc,hc'=>by
  simp only [Aat] at h;split at h
  . rename_i a as h1 h2;obtain rfl:=QA h;simp only [XC,QF,Js] at hc hc';obtain ⟨i1,i2⟩:=Ak1 (L:=L) h2 hc.2 hc'.2
    refine ⟨by simpa [Js] using i1,λj c hj=>?_⟩
    cases j with
    | zero =>
     simp [Js] at hj;subst hj;exact ⟨_,rfl,(Ap1 h1).2 hc.1 hc'.1⟩
    | succ j=>exact i2 j c (by simpa [Js] using hj)
  . cases h
theorem Asy {L:Nat->Nat} {t:TB} {b:B3} {x:t.den} (h:t.dec b=some x):At2 (b.box L) ((t.enc x).box L)/\(t.enc x).len=b.len:=by
 cases t with
 | tree e t fz =>
  simp only [TB.dec] at h;split at h
  . rename_i e' t' fz' xs
    cases hc:(Nat.beq e e'&&(fz==fz')) with
    | false=>rw [hc] at h;cases h
    | true =>
     rw [hc] at h;simp only [QF] at hc;obtain rfl:=QB hc.1;obtain rfl:=eq_of_beq hc.2;obtain ⟨rfl,rfl⟩:=E7 h;refine ⟨⟨rfl,rfl,rfl,rfl,λ_=>rfl,rfl,λi r hi=>⟨r,hi,rfl,λj c hj=>⟨c,hj,Fn.refl c⟩⟩,λ_ i r j c hi hj=>?_⟩,rfl⟩;simp only [TB.enc,B3.box,QP] at hi;obtain ⟨x,_,rfl⟩:=QD.1 hi;rw [QP] at hj;obtain ⟨y,_,rfl⟩:=QD.1 hj;exact ⟨y,rfl⟩
  . cases h
 | arr e t fz =>
  simp only [TB.dec] at h;split at h
  . rename_i e' t' fz' xs
    cases hc:(Nat.beq e e'&&(fz==fz')) with
    | false=>rw [hc] at h;cases h
    | true =>
     rw [hc] at h;simp only [QF] at hc;obtain rfl:=QB hc.1;obtain rfl:=eq_of_beq hc.2;obtain ⟨rfl,rfl⟩:=E7 h;refine ⟨⟨rfl,rfl,rfl,rfl,λ_=>rfl,rfl,λi r hi=>⟨r,hi,rfl,λj c hj=>⟨c,hj,Fn.refl c⟩⟩,λ_ i r j c hi hj=>?_⟩,rfl⟩;simp only [TB.enc,B3.box,QP] at hi;obtain ⟨y,_,rfl⟩:=QD.1 hi;rw [QP] at hj;obtain ⟨z,_,rfl⟩:=QD.1 hj;exact ⟨z,rfl⟩
  . rename_i e' fz' n cs
    cases hc:(Nat.beq e e'&&(fz==fz')) with
    | false=>rw [hc] at h;cases h
    | true =>
     rw [hc] at h;simp only [cond,QD] at h;obtain ⟨y,hy,rfl⟩:=h;simp only [QF] at hc;obtain rfl:=QB hc.1;obtain rfl:=eq_of_beq hc.2;obtain ⟨h1,h2⟩:=A5j (L:=L) hy;have hL:=h1.subL
     have hz:cs.length=t.size:=by have:=hL.1;simp [Sh.cells_len] at this;omega
     refine ⟨⟨rfl,by simp [TB.enc,B3.box,hz],rfl,rfl,λe=>(by cases e),by simp [TB.enc,B3.box],λi r hi=>?_,λ_ i r j c hi hj=>?_⟩,by simp [TB.enc,B3.len]⟩
     . simp only [TB.enc,B3.box,List.map_replicate,XW] at hi;split at hi
       . rename_i hlt;obtain rfl:=QA hi
         exact ⟨cs.map (SV.c L),by simp [B3.box,XW,hlt],hL.1,hL.2⟩
       . cases hi
     . simp only [TB.enc,B3.box,List.map_replicate,XW] at hi;split at hi
       . obtain rfl:=QA hi;rw [QP] at hj;obtain ⟨z,_,rfl⟩:=QD.1 hj;exact ⟨z,rfl⟩
       . cases hi
  . cases h
 | var e hf fz cs =>
  simp only [TB.dec] at h;split at h
  . rename_i e' hf' fz' vs
    cases hc:(Nat.beq e e'&&(hf==hf')&&(fz==fz')&&vs.all SV.cellB) with
    | false=>rw [hc] at h;cases h
    | true =>
     rw [hc] at h;simp only [cond] at h;simp only [QF] at hc;obtain rfl:=QB hc.1.1.1;obtain rfl:=eq_of_beq hc.1.1.2;obtain rfl:=eq_of_beq hc.1.2;split at h
     . rename_i y hy
       cases he:((Js cs y).all SV.cellB&&(!hf || (Js cs y).all SV.imm)) with
       | false=>rw [he] at h;cases h
       | true =>
        rw [he] at h;obtain rfl:=QA h;simp only [QF,XH,XB] at he;have hL:=Ak1 (L:=L) hy hc.2 he.1
        refine ⟨⟨rfl,by have:=hL.1;simpa [TB.enc,B3.box] using this,rfl,rfl,λe=>(by cases e),rfl,λi r hi=>?_,λhf' i r j c hi hj=>?_⟩,rfl⟩
        . cases i with
          | zero =>
           simp [TB.enc,B3.box] at hi;subst hi;exact ⟨vs.map (SV.c L),rfl,hL.1,hL.2⟩
          | succ i=>simp [TB.enc,B3.box] at hi
        . have hf'':hf=true:=hf'
          have hi':(Js cs y).all SV.imm=true:=by
           rcases he.2 with h0 | h0
           . rw [hf''] at h0;cases h0
           . exact h0
          cases i with
          | zero =>
           simp [TB.enc,B3.box] at hi;subst hi;rw [QP] at hj;obtain ⟨z,hz,rfl⟩:=QD.1 hj;have:=Nm (L:=L) (QJ.1 hi' z (ZM hz))
           cases hzc:z.c L with
           | i q=>exact ⟨q,rfl⟩
           | hs=>rw [hzc] at this;cases this
           | hp=>rw [hzc] at this;cases this
          | succ i=>simp [TB.enc,B3.box] at hi
     . cases h
  . cases h
theorem Ak2 {L:Nat->Nat}:∀ {l:List (Nat × TB)} {bs:List (Nat × B3)} {x:DK TB TB.den l},Aau l bs=some x ->
  (∀ k b',A2 k (Ai (B3.box L) (V2 l x))=some b'->∃ b,A2 k (Ai (B3.box L) bs)=some b/\At2 b b')/\(∀ k b,A2 k (Ai (B3.box L) bs)=some b->(A2 k (Ai (B3.box L) (V2 l x))).isSome=true)/\A6 (V2 l x)=A6 bs
 | [],[],_,_=>⟨λk b h=>by simp [V2,Ai,A2] at h,λk b h=>by simp [Ai,A2] at h,rfl⟩
 | [],_::_,_,h=>by simp [Aau] at h
 | _::_,[],_,h=>by simp [Aau] at h
 | (k,t)::r,(j,v)::vs,x,h=>by
  simp only [Aau] at h
  cases hk:Nat.beq k j with
  | false=>rw [hk] at h;cases h
  | true =>
   rw [hk] at h;obtain rfl:=QB hk;simp only [cond] at h;split at h
   . rename_i a as h1 h2;obtain rfl:=QA h;obtain ⟨i1,i2,i3⟩:=Ak2 (L:=L) h2;obtain ⟨b1,b2⟩:=Asy (L:=L) h1;refine ⟨λi b hb=>?_,λi b hb=>?_,?_⟩
     . simp only [V2,Ai,QT,A2] at hb ⊢
       cases hc:Nat.beq k i with
       | true=>rw [hc] at hb;simp only [cond,QC] at hb;subst hb;exact ⟨_,rfl,b1⟩
       | false=>rw [hc] at hb;exact i1 i b hb
     . simp only [V2,Ai,QT,A2] at hb ⊢
       cases hc:Nat.beq k i with
       | true=>rfl
       | false=>rw [hc] at hb;exact i2 i b hb
     . funext i;have e:=congrFun i3 i;simp only [A6,V2,A2] at e ⊢
       cases hc:Nat.beq k i with
       | true=>exact b2
       | false=>exact e
   . cases h
theorem Xb {X:List (Nat × TS)}:∀ {sl:List (Nat × SV)} {k:Nat} {x:SV},A2 k (Tb X sl)=some x->A2 k sl=some x
 | [],k,x,h=>by cases h
 | (j,y)::r,k,x,h=>by
  simp only [Tb,YQ] at h
  have gone:(X.any λq=>Nat.beq q.1 j)=false->∀ q:List (Nat × SV),A2 j (q.filter λp=>X.any λz=>Nat.beq z.1 p.1)=none:=by
   intro hc q
   induction q with
   | nil=>rfl
   | cons p' r' ih' =>
    simp only [YQ];split
    . rename_i hc';simp only [A2]
      cases hb':Nat.beq p'.1 j with
      | true=>have:=QB hb';rw [this,hc] at hc';cases hc'
      | false=>exact ih'
    . exact ih'
  simp only [A2]
  cases hb:Nat.beq j k with
  | true =>
   have:=QB hb;subst this
   cases hc:(X.any λq=>Nat.beq q.1 j) with
   | true =>
    rw [QG hc] at h;simp only [A2,hb,cond] at h;exact h
   | false =>
    rw [QI (by rw [hc];exact Bool.false_ne_true),gone hc] at h
    cases h
  | false =>
   simp only [cond];split at h
   . simp only [A2,hb,cond] at h;exact Xb h
   . exact Xb h
theorem Ajz {α β:Type} (f:α->β) (h:Nat):∀ l:List (Nat × α),Jt h (Ai f l)=Ai f (Jt h l)
 | []=>rfl
 | (j,x)::r=>by
  have ih:=Ajz f h r
  show (bif Nat.beq j h then Jt h (Ai f r) else (j,f x)::Jt h (Ai f r))=Ai f (bif Nat.beq j h then Jt h r else (j,x)::Jt h r)
  cases Nat.beq j h with
  | true=>exact ih
  | false =>
   show (j,f x)::Jt h (Ai f r)=(j,f x)::Ai f (Jt h r);rw [ih]
theorem Ajy {nt:Nat}:∀ (l:List Nat) {s s':St3},Aem l s=some s'->L9 l (s.st nt)=some (s'.st nt)
 | [],s,s',h=>by obtain rfl:=QA h;rfl
 | k::r,s,s',h=>by
  simp only [Aem] at h
  cases hc:(Nat.blt k 1000&&s.clean k) with
  | false=>rw [hc] at h;cases h
  | true =>
   rw [hc] at h;simp only [cond] at h;simp only [QF] at hc;have hcl:=hc.2;unfold St3.clean at hcl;simp only [QF,QJ] at hcl;have ih:=Ajy (nt:=nt) r h
   have hd:(s.st nt).delBox k=some (({ s with boxes:=Jt k s.boxes }:St3).st nt):=by
    unfold St.delBox
    have h1:(s.st nt).slots.all (λp=>!p.2.men k)=true:=by
     simp only [St3.st,Ai,YF,QJ,Function.comp,Apu];exact hcl.1
    have h2:Pr k (s.st nt).boxes=true:=by
     simp only [Pr,St3.st,Ai,YF,QJ,Function.comp,XH,XB];intro p hp
     exact .inr (Bbd (by simpa using hcl.2 p hp))
    rw [hc.1,h1,h2]
    have hL:∀ j,j ≠ k->A6 s.boxes j=A6 (Jt k s.boxes) j:=λj hj=>by
     unfold A6;rw [Ho hj]
    simp only [ZN,cond,QC,St3.st];congr 1
    . exact Mx λp hp=>A8n hL (by simpa using hcl.1 p hp)
    . rw [<- Ajz];congr 1
      exact Mx λp hp=>Z0 hL (by simpa using hcl.2 p hp)
   simp only [L9,hd];exact ih
theorem Tm.dec1_ok {X:Tm} {s:St3} {x:X.den} (h:X.dec1 s=some x) {nt:Nat} {Γ:Ctx} {w:World} {E:Env} {tmps:Array Value} (hs:A9 Γ w E (s.st nt) tmps):∃ E',A9 Γ w E' ((X.enc x).st nt) tmps:=by
 unfold Tm.dec1 at h;split at h
 . rename_i s2 hd;split at h
   . rename_i a b h1 h2;obtain rfl:=QA h
     have hs1:A9 Γ w E (({ s with slots:=Tb X.slots s.slots }:St3).st nt) tmps:=hs.less λt y hy=>by
      simp only [St3.st,Aq] at hy ⊢;obtain ⟨z,hz,rfl⟩:=QD.1 hy;rw [Xb hz];rfl
     obtain ⟨E',hs2⟩:=Sk _ hs1 (Ajy _ hd);obtain ⟨b1,b2,b3⟩:=Ak2 (L:=A6 s2.boxes) h2;refine ⟨E',hs2.sub rfl (λt y hy=>?_) (λk b' hb=>?_) (λk b hb=>?_)⟩
     . simp only [Tm.enc,St3.st] at hy;rw [b3] at hy;exact Ak0 h1 _ t y hy
     . simp only [Tm.enc,St3.st] at hb;rw [b3] at hb;exact b1 k b' hb
     . simp only [Tm.enc,St3.st];rw [b3];exact b2 k b hb
   . cases h
 . cases h
theorem T2 {nt:Nat} {Γ:Ctx} {w:World} {tmps:Array Value}:∀ {l:List (Nat × Sh)} {s s':St3} {E:Env},Kb l s=some s'->A9 Γ w E (s.st nt) tmps->∃ E',A9 Γ w E' (s'.st nt) tmps
 | [],s,s',E,h,hs=>by
  simp only [Kb,QC] at h;subst h;exact ⟨E,hs⟩
 | (t,sh)::r,s,s',E,h,hs=>by
  have go:∀ {q},Nj s t sh=some q->(bif q.1 then Kb r q.2 else none)=some s'->∃ E',A9 Γ w E' (s'.st nt) tmps:=by
   rintro ⟨g,s1⟩ h1 h2
   cases g with
   | false=>cases h2
   | true =>
    obtain ⟨x',ob,q1,q2⟩:=T3 (nt:=nt) h1 rfl
    obtain ⟨E1,hs1⟩:=Ee [(t,x')] (s':=s1.st nt) (obs:=ob++[]) hs (by simp only [F7,q1]) (λp hp=>by simp only [XU] at hp;exact q2 p hp)
    exact T2 (l:=r) h2 hs1
  simp only [Kb] at h;split at h
  . exact T2 (l:=r) h hs
  . split at h
    . rename_i hq;exact go hq h
    . cases h
theorem Tm.dec_ok {X:Tm} {s:St3} {x:X.den} (h:X.dec s=some x) {nt:Nat} {Γ:Ctx} {w:World} {E:Env} {tmps:Array Value} (hs:A9 Γ w E (s.st nt) tmps):∃ E',A9 Γ w E' ((X.enc x).st nt) tmps:=by
 unfold Tm.dec at h;split at h
 . rename_i s1 h1;obtain ⟨E1,hs1⟩:=T2 h1 hs;exact Tm.dec1_ok h hs1
 . cases h
end Go.Ev

/- DERIVED. A call that is handed boxes or hands out boxes, decided. -/
namespace Go.Ev
open Go
variable {P:Program} {T:Ty}
def SV.renC (σ:Nat->Nat):SV->SV
 | .hw h=>.hw (σ h)
 | .hs h o l=>.hs (σ h) o l
 | .hp h r c=>.hp (σ h) r c
 | x=>x
def SV.renV (σ:Nat->Nat):SV->SV
 | .agg cs=>.agg (cs.map (SV.renC σ))
 | x=>x.renC σ
def SV.ren3 (σ:Nat->Nat):SV->SV
 | .tup cs=>.tup (cs.map (SV.renV σ))
 | x=>x.renV σ
def SV.okC (p:Nat->Bool):SV->Bool
 | .hw h=>p h
 | .hs h _ _=>p h
 | .hp h _ _=>p h
 | _=>true
def SV.okV (p:Nat->Bool):SV->Bool
 | .agg cs=>cs.all (SV.okC p)
 | x=>x.okC p
def SV.ok3 (p:Nat->Bool):SV->Bool
 | .tup cs=>cs.all (SV.okV p)
 | x=>x.okV p
def SV.clC:SV->Bool
 | .d (.sl _) []=>true
 | .d t _=>t.closed
 | .rf _=>false
 | .dead=>false
 | _=>true
def SV.clV:SV->Bool
 | .agg cs=>cs.all SV.clC
 | x=>x.clC
def SV.cl3:SV->Bool
 | .tup cs=>cs.all SV.clV
 | x=>x.clV
def B3.cl:B3->Bool
 | .arr _ t _ _=>t.closed
 | .rep _ _ _ cs=>cs.all SV.clC
 | .var _ _ _ cs=>cs.all SV.clC
 | .tree _ t _ _=>t.flat
 | .hole _ _ _ _ _ _ _=>false
def B3.okB (p:Nat->Bool):B3->Bool
 | .arr _ _ _ _=>true
 | .var _ _ _ cs=>cs.all (SV.okC p)
 | .tree _ _ _ _=>true
 | _=>false
def B3.ren3 (σ:Nat->Nat):B3->B3
 | .var e hf fz cs=>.var e hf fz (cs.map (SV.renC σ))
 | b=>b
theorem B1a {σ:Nat->Nat} (b:B3):(b.ren3 σ).len=b.len:=by cases b <;> rfl
section
variable {L L':Nat->Nat} {σ:Nat->Nat} {p:Nat->Bool}
theorem Afj (hL:∀ k,p k=true->L (σ k)=L' k) {x:SV} (ho:x.okC p=true):(x.renC σ).c L=(x.c L').ren σ:=by
 cases x <;> first | rfl | skip;simp only [SV.renC,SV.c,C.ren];rw [hL _ ho]
theorem Afi (hL:∀ k,p k=true->L (σ k)=L' k) {x:SV} (ho:x.okV p=true):(x.renV σ).v L=(x.v L').ren σ:=by
 cases x with
 | agg cs =>
  simp only [SV.renV,SV.v,V.ren,ZX];congr 1;exact ZF λy hy=>Afj hL (QJ.1 ho y hy)
 | hw h=>exact XT V.one (Afj (x:=.hw h) hL ho)
 | _=>rfl
theorem Bc3 (hL:∀ k,p k=true->L (σ k)=L' k) {x:SV} (ho:x.ok3 p=true):(x.ren3 σ).s L=(x.s L').ren σ:=by
 cases x with
 | tup cs =>
  simp only [SV.ren3,SV.s,S.ren,ZX];congr 1;exact ZF λy hy=>Afi hL (QJ.1 ho y hy)
 | hw h=>exact XT S.v (Afi (x:=.hw h) hL ho)
 | agg cs=>exact XT S.v (Afi (x:=.agg cs) hL ho)
 | _=>rfl
theorem B5m {x:SV} (ho:x.okC p=true):(x.c L).okH p=true:=by cases x <;> first | rfl | exact ho
theorem B5l {x:SV} (ho:x.okV p=true):(x.v L).okH p=true:=by
 cases x with
 | agg cs =>
  simp only [SV.v,V.okH,YF,QJ,Function.comp];exact λy hy=>B5m (QJ.1 ho y hy)
 | hw h=>exact ho
 | hs h o l=>exact ho
 | hp h r c=>exact ho
 | _=>rfl
theorem Bgx {x:SV} (ho:x.ok3 p=true):(x.s L).okH p=true:=by
 cases x with
 | tup cs =>
  simp only [SV.s,S.okH,YF,QJ,Function.comp];exact λy hy=>B5l (QJ.1 ho y hy)
 | agg cs=>exact B5l (x:=.agg cs) ho
 | hw h=>exact ho
 | hs h o l=>exact ho
 | hp h r c=>exact ho
 | _=>rfl
theorem hd1_closed {l:List I} (h:∀ c ∈ l,IClosed c):IClosed (hd1 l):=by
 cases l with
 | nil=>exact .lit _
 | cons c r=>exact h c (by simp)
theorem Lp {x:SV} (h:x.clC=true):(x.c L).allI IClosed:=by
 cases x with
 | d t y =>
  cases t with
  | sl t =>
   cases y with
   | nil=>exact .nil _ _ _
   | cons a b=>exact hd1_closed (Pq (.sl t) (a::b) h)
  | _=>exact hd1_closed (Pq _ y h)
 | rf=>cases h
 | dead=>cases h
 | hw=>trivial
 | hs=>trivial
 | hp=>trivial
 | _=>exact .lit _
theorem V9 {x:SV} (h:x.clV=true):(x.v L).allI IClosed:=by
 cases x with
 | agg cs =>
  simp only [SV.v,V.allI,QP];intro j c hc;obtain ⟨y,hy,rfl⟩:=QD.1 hc;exact Lp (Dv h hy)
 | d t y=>exact Lp (L:=L) (x:=.d t y) h
 | rf cs=>exact Lp (L:=L) (x:=.rf cs) h
 | hw k=>exact Lp (L:=L) (x:=.hw k) h
 | hs k o l=>exact Lp (L:=L) (x:=.hs k o l) h
 | hp k o l=>exact Lp (L:=L) (x:=.hp k o l) h
 | tup cs=>exact Lp (L:=L) (x:=.tup cs) h
 | dead=>exact Lp (L:=L) (x:=.dead) h
theorem Bi5 {x:SV} (h:x.cl3=true):(x.s L).allI IClosed:=by
 cases x with
 | tup cs =>
  simp only [SV.s,S.allI,QP];intro j c hc;obtain ⟨y,hy,rfl⟩:=QD.1 hc;exact V9 (Dv h hy)
 | dead=>trivial
 | d t y=>exact V9 (L:=L) (x:=.d t y) h
 | rf cs=>exact V9 (L:=L) (x:=.rf cs) h
 | hw k=>exact V9 (L:=L) (x:=.hw k) h
 | hs k o l=>exact V9 (L:=L) (x:=.hs k o l) h
 | hp k o l=>exact V9 (L:=L) (x:=.hp k o l) h
 | agg cs=>exact V9 (L:=L) (x:=.agg cs) h
theorem Bgd {b:B3} (h:b.cl=true):∀ (i:Nat) (q:List C) (j:Nat) (c:C),(b.box L).rows[i]? = some q->q[j]? = some c->c.allI λy=>IClosed y \/ ((b.box L).tr=true/\A0w y):=by
 intro i q j c hq hc
 cases b with
 | hole=>cases h
 | tree e t fz xs =>
  simp only [B3.box,QP] at hq;obtain ⟨y,hy,rfl⟩:=QD.1 hq;rw [QP] at hc;obtain ⟨z,hz,rfl⟩:=QD.1 hc;exact .inr ⟨rfl,Bcs t y h z (ZM hz)⟩
 | arr e t fz xs =>
  simp only [B3.box,QP] at hq;obtain ⟨y,hy,rfl⟩:=QD.1 hq;rw [QP] at hc;obtain ⟨z,hz,rfl⟩:=QD.1 hc;exact .inl (Pq t y h z (ZM hz))
 | rep e fz n cs =>
  simp only [B3.box,XW] at hq;split at hq
  . obtain rfl:=QA hq;rw [QP] at hc;obtain ⟨z,hz,rfl⟩:=QD.1 hc;exact C.allI_mono (λ_ h=>.inl h) (Lp (Dv h hz))
  . cases hq
 | var e hf fz cs =>
  simp only [B3.box] at hq
  cases i with
  | zero =>
   obtain rfl:=QA hq;rw [QP] at hc;obtain ⟨z,hz,rfl⟩:=QD.1 hc;exact C.allI_mono (λ_ h=>.inl h) (Lp (Dv h hz))
  | succ i=>simp at hq
theorem Ami {b:B3} (hL:∀ k,p k=true->L (σ k)=L' k) (h:b.okB p=true):(b.ren3 σ).box L=(b.box L').ren σ/\(b.box L').okH p=true:=by
 cases b with
 | hole=>cases h
 | rep=>cases h
 | tree e t fz xs=>exact ⟨(Wu (b:=.tree e t fz xs) (L:=L') rfl).symm,Wv (b:=.tree e t fz xs) rfl⟩
 | arr e t fz xs=>exact ⟨(Wu (b:=.arr e t fz xs) (L:=L') rfl).symm,Wv (b:=.arr e t fz xs) rfl⟩
 | var e hf fz cs =>
  have h:cs.all (SV.okC p)=true:=h;refine ⟨?_,?_⟩
  . simp only [B3.ren3,B3.box,Box.ren,QZ,QT,XN,ZX];congr 2;exact ZF λx hx=>Afj hL (QJ.1 h x hx)
  . simp only [B3.box,Box.okH,XC,KR,XO,YF,QJ,Function.comp];exact λx hx=>B5m (QJ.1 h x hx)
theorem Wm {f:B3->B3}:∀ {B:List (Nat × B3)} {R:List (Nat × Nat)},Br B R=true->Br (Ai f B) R=true
 | [],[],_=>rfl
 | (k,_)::B,(k',_)::R,h=>by
  simp only [Br,QF] at h;simp only [Ai,QT,Br,QF];exact ⟨h.1,Wm h.2⟩
 | [],_::_,h=>by cases h
 | _::_,[],h=>by cases h
end
theorem Vf {L L':Nat->Nat} {x:SV} (hL:∀ k,x.menC k=true->L k=L' k):x.c L=x.c L':=by
 cases x <;> first | rfl | skip;rename_i k;simp only [SV.c]
 rw [hL k (by simp [SV.menC])]
theorem A1z {L L':Nat->Nat} {x:SV} (hL:∀ k,x.menV k=true->L k=L' k):x.v L=x.v L':=by
 cases x with
 | agg cs =>
  simp only [SV.v];congr 1;exact ZF λy hy=>Vf λk hk=>hL k (ZI.2 ⟨y,hy,hk⟩)
 | hw k=>exact XT V.one (Vf (x:=.hw k) hL)
 | _=>rfl
theorem B18 {L L':Nat->Nat} {x:SV} (hL:∀ k,x.men k=true->L k=L' k):x.s L=x.s L':=by
 cases x with
 | tup cs =>
  simp only [SV.s];congr 1;exact ZF λy hy=>A1z λk hk=>hL k (ZI.2 ⟨y,hy,hk⟩)
 | hw k=>exact XT S.v (A1z (x:=.hw k) hL)
 | agg cs=>exact XT S.v (A1z (x:=.agg cs) hL)
 | _=>rfl
theorem Asz {L L':Nat->Nat} {b:B3} (hL:∀ k,b.men k=true->L k=L' k):b.box L=b.box L':=by
 cases b with
 | hole e t fz xs row col k=>simp only [B3.box];rw [hL k (by simp [B3.men])]
 | tree=>rfl
 | arr=>rfl
 | rep e fz n cs =>
  simp only [B3.box];rw [ZF λy hy=>Vf λk hk=>hL k (ZI.2 ⟨y,hy,hk⟩)]
 | var e hf fz cs =>
  simp only [B3.box];rw [ZF λy hy=>Vf λk hk=>hL k (ZI.2 ⟨y,hy,hk⟩)]
def CK.backs:CK->List Nat
 | .back j=>[j]
 | _=>[]
def PK.backs:PK->List Nat
 | .im _=>[]
 | .one c=>c.backs
 | .mix cs=>cs.flatMap CK.backs
 | .pst _ _=>[]
def K0 (f0:Nat) (ts:List PK) (o:Oper) (s:St3):Option (Bool × HP ts × List Nat × List (Nat × Nat)) :=
 match o.op with
 | .call c=>match c.callee with
  | .value f=>match A0p (s.val f) with
   | some (fid,caps)=>bif Nat.beq fid f0 then Ng s.boxes 1000 ts (c.args.toList.map s.val++caps) else none
   | none=>none
  | _=>none
 | _=>none
def Zf (rs:List PK):List Nat:=(Am 0 rs).map (·.1)
def Iq (E:Hk) (hb:Nat) (q:List (Nat × Nat)):List (Nat × Nat):=(Zf E.rs).map (λk=>(k,hb+k))++q
def Dk (E:Hk) (rn:List (Nat × Nat)):List Nat:=(E.rs.flatMap PK.backs).map (Dp rn)++E.mv.map (Dp rn)
def B3.hfB:B3->Bool
 | .arr _ _ _ _=>true
 | .rep _ _ _ _=>true
 | .var _ hf _ _=>hf
 | .tree _ _ _ _=>true
 | .hole _ _ _ _ _ _ _=>false
theorem hfB_box {L:Nat->Nat} {b:B3} (h:b.hfB=true):(b.box L).hf=true:=by cases b <;> first | rfl | exact h | cases h
def Aec (K:Ah) (E:Hk) (hb:Nat) (q:List (Nat × Nat)) (s:St3):Bool :=
 E.mv.isEmpty || (s.boxes.all (λp=>p.2.hfB)&&q.all λp=>!E.mv.contains p.1 || (Nat.blt p.2 1000 || K.mv.contains p.2))
def G8 (B bs:List (Nat × B3)) (kill:List Nat):List (Nat × Nat)->Bool
 | []=>true
 | p::r=>bif kill.any (Nat.beq p.2) then G8 B bs kill r else Nat.beq (A6 B p.1) (A6 bs p.2)&&G8 B bs kill r
def Aax (E:Hk) (hb:Nat) (s:St3) (x:HP E.ts) (bor:List Nat) (q:List (Nat × Nat)) (y:HR E.rs (Am 1000 E.ts)):Bool :=
 F8 (Iq E hb q)&&Br (B1 E y) (Iq E hb q)&&Br (G5 E x) q&&(G5 E x).all (λp=>Nat.ble 1000 p.1)&&(B1 E y).all (λp=>p.2.okB λk=>(A2 k (B1 E y)).isSome) &&
 (Zf E.rs).all (λk=>Nat.blt (hb+k) 1000&&(A2 (hb+k) s.boxes).isNone&&s.clean (hb+k))&&q.all (λp=>!bor.any (Nat.beq p.2)) &&
 (bor.isEmpty || ((Hp (C6 0 E.rs (Mv y))).cl3&&(B1 E y).all (λp=>p.2.cl)))&&(Hp (C6 0 E.rs (Mv y))).ok3 (λk=>(A2 k (B1 E y)).isSome) &&
 (Dk E (Iq E hb q)).all (λh=>s.boxes.all (λp=>!p.2.men h))
def Jy (K:Ah) (E:Hk) (hb:Nat) (s:St3) (x:HP E.ts) (bor:List Nat) (q:List (Nat × Nat)) (y:HR E.rs (Am 1000 E.ts)):Bool:=Aax E hb s x bor q y&&Aec K E hb q s
def Bg (E:Hk) (hb:Nat) (s:St3) (q:List (Nat × Nat)) (y:HR E.rs (Am 1000 E.ts)):SV × St3 :=
 ((Hp (C6 0 E.rs (Mv y))).ren3 (Dp (Iq E hb q)),
  ⟨Ai (λx=>bif (Dk E (Iq E hb q)).any (λh=>x.men h) then .dead else x) s.slots,Xc (Ai (B3.ren3 (Dp (Iq E hb q))) (B1 E y)) (Iq E hb q) s.boxes⟩)
theorem Xg:∀ {a b:List (Nat × Nat)},F8 (a++b)=true->F8 b=true
 | [],_,h=>h
 | (k,h')::r,b,h=>Xg (Lj h).2
theorem X6 {B bs:List (Nat × B3)} {kill:List Nat}:∀ {q:List (Nat × Nat)},G8 B bs kill q=true->∀ p ∈ q,kill.any (Nat.beq p.2)=true \/ A6 B p.1=A6 bs p.2
 | [],_,p,hp=>by cases hp
 | a::r,h,p,hp=>by
  simp only [G8] at h
  cases hk:kill.any (Nat.beq a.2) with
  | true =>
   rw [hk] at h;rcases QW.1 hp with rfl | hp
   . exact .inl hk
   . exact X6 h p hp
  | false =>
   rw [hk] at h;simp only [cond,QF] at h;rcases QW.1 hp with rfl | hp
   . exact .inr (QB h.1)
   . exact X6 h.2 p hp
theorem C7 {β:Type} {k:Nat} {b:β} {l:List (Nat × β)} (h:A2 k l=some b):(k,b) ∈ l:=Cz h
theorem Adj {E:Hk} {hb:Nat} {o:Oper} {s s':St3} {nt:Nat} {x:HP E.ts} {bor:List Nat} {q:List (Nat × Nat)} {y:HR E.rs (Am 1000 E.ts)} {K:Ah}
  (h:K0 E.f E.ts o s=some (true,x,bor,q)) (hc:Jy K E hb s x bor q y=true) (hg:G8 (B1 E y) s.boxes (Dk E (Iq E hb q)) q=true) (hF:E.Den P nt x y)
  (hp:(Bg E hb s q y).2.put3 K o.dst (Bg E hb s q y).1=some s') :
  ∃ D obs,Eh P T K o D (s.st nt)=some (s'.st nt,obs) /\ ∀ p ∈ obs,p:=by
 obtain ⟨dst,op,type,pos,aft,guard⟩:=o;unfold K0 at h;simp only at h;split at h
 case h_2=>cases h
 rename_i c;split at h
 case h_2=>cases h
 rename_i f hf;split at h
 case h_2=>cases h
 rename_i fid caps hcal
 cases hcf:Nat.beq fid E.f with
 | false=>rw [hcf] at h;cases h
 | true =>
 rw [hcf] at h;simp only [cond] at h;obtain rfl:=QB hcf;generalize hrn:Iq E hb q=rn at *;unfold Jy at hc;rw [QF] at hc;obtain ⟨hc,cm⟩:=hc;unfold Aax at hc;rw [hrn] at hc;simp only [QF] at hc;obtain ⟨⟨⟨⟨⟨⟨⟨⟨⟨c1,c2⟩,c3⟩,c4⟩,c5⟩,c6⟩,c7⟩,c8⟩,c9⟩,c10⟩:=hc;have hrn':rn=(Zf E.rs).map (λk=>(k,hb+k))++q:=hrn.symm
 have c1q:F8 q=true:=Xg (by rw [<- hrn'];exact c1)
 have qrn:∀ p ∈ q,p ∈ rn:=λp hp=>by rw [hrn'];exact QE.2 (.inr hp)
 have fwdm:∀ k h,(k,h) ∈ rn->Dp rn k=h/\K1 rn h=some k/\A2 k rn=some h:=λk h hm=>by
  obtain ⟨e1,e2⟩:=Fg c1 hm
  exact ⟨by unfold Dp;rw [e1],e2,e1⟩
 have outS:∀ k,(A2 k (Bw (B1 E y))).isSome=(A2 k rn).isSome:=λk=>by
  unfold Bw;rw [Aq,KB,Cw c2 k]
 have inS:∀ k,(A2 k (Bw (G5 E x))).isSome=(A2 k q).isSome:=λk=>by
  unfold Bw;rw [Aq,KB,Cw c3 k]
 obtain ⟨⟨ob,a1,a2⟩,a3,a4,a5⟩:=Ake (hd:=λk h=>q.any λp=>Nat.beq p.1 k&&Nat.beq p.2 h) (L:=A6 (G5 E x)) h rfl
  (λp hp=>ZI.2 ⟨p,hp,by simp⟩) (λk b hb=>by
   have:=X2 c3 c1q hb;simp only [A6]
   show (match A2 k (G5 E x) with | some b=>b.len | none=>0)=b.len
   rw [this])
 obtain ⟨cs,k1,k2⟩:=A83 (L:=A6 s.boxes) hcal
 have hfa:(s.val f).alive=true:=Bi λe=>by rw [e] at hcal;cases hcal
 have hfv:=C3 (nt:=nt) rfl hfa
 have hmap:c.args.toList.map (s.st nt).val++cs.map (λx=>S.v (V.one (C.i x)))=(c.args.toList.map s.val++caps).map (SV.s (A6 s.boxes)):=by
  rw [YT,k2,ZX];congr 1;exact ZF λz hz=>C3 rfl (a5 _ (QE.2 (.inl (ZK.2 ⟨z,hz,rfl⟩))))
 have blook:∀ h,A2 h (Bg E hb s q y).2.boxes=match K1 rn h with | some k=>(A2 k (B1 E y)).map (B3.ren3 (Dp rn)) | none=>A2 h s.boxes:=λh=>by
  have:=A1i (bs:=s.boxes) (Wm (f:=B3.ren3 (Dp rn)) c2) c1 h;simp only [Aq] at this;refine Eq.trans ?_ this;rw [<- hrn];rfl
 have lenk:∀ k h,(k,h) ∈ rn->A6 (Bg E hb s q y).2.boxes h=A6 (B1 E y) k:=λk h hm=>by
  unfold A6;rw [blook h,(fwdm k h hm).2.1]
  show (match (A2 k (B1 E y)).map (B3.ren3 (Dp rn)) with | some b=>b.len | none=>0)=(match A2 k (B1 E y) with | some b=>b.len | none=>0)
  cases A2 k (B1 E y) with
  | none=>rfl
  | some b=>exact B1a b
 have lenS:∀ h,s.clean h=true \/ (∀ k,K1 rn h=some k->(k,h) ∈ q/\(Dk E rn).any (Nat.beq h)=false)->s.clean h=true \/ A6 (Bg E hb s q y).2.boxes h=A6 s.boxes h:=by
  intro h hh;rcases hh with hh | hh
  . exact .inl hh
  . cases hw:K1 rn h with
    | none =>
     right;unfold A6;rw [blook h,hw]
    | some k =>
     obtain ⟨h1,h2⟩:=hh k hw;right;rw [lenk k h (qrn _ h1)];rcases X6 hg _ h1 with h3 | h3
     . rw [h3] at h2;cases h2
     . exact h3
 have newC:∀ k h,(k,h) ∈ rn->(k,h) ∈ q \/ (h<1000/\A2 h s.boxes=none/\s.clean h=true):=λk h hm=>by
  rw [hrn'] at hm;rcases QE.1 hm with hm | hm
  . obtain ⟨k',hk',e⟩:=ZK.1 hm;obtain ⟨rfl,rfl⟩:=KJ e;have:=QJ.1 c6 k' hk';simp only [QF] at this
    exact .inr ⟨by simpa [ZY] using this.1.1,by simpa using this.1.2,this.2⟩
  . exact .inl hm
 have lenM:∀ h,(Dk E rn).any (Nat.beq h)=false->s.clean h=true \/ A6 (Bg E hb s q y).2.boxes h=A6 s.boxes h:=λh hk=>by
  cases hw:K1 rn h with
  | none=>exact lenS h (.inr λk e=>by rw [hw] at e;cases e)
  | some k =>
   rcases newC k h (A0q hw) with h1 | h1
   . exact lenS h (.inr λk' e=>by rw [hw] at e;obtain rfl:=QA e;exact ⟨h1,hk⟩)
   . exact .inl h1.2.2
 have cleanS:∀ {t:Nat} {z:SV} {h:Nat},A2 t s.slots=some z->s.clean h=true->z.men h=false:=λ{t z h} hz hcl=>by
  unfold St3.clean at hcl;simp only [QF,QJ,XB] at hcl;exact hcl.1 _ (C7 hz)
 have Pr:∀ {t:Nat} {z:B3} {h:Nat},A2 t s.boxes=some z->s.clean h=true->z.men h=false:=λ{t z h} hz hcl=>by
  unfold St3.clean at hcl;simp only [QF,QJ,XB] at hcl;exact hcl.2 _ (C7 hz)
 have renL:∀ k,(A2 k (B1 E y)).isSome=true->A6 (Bg E hb s q y).2.boxes (Dp rn k)=A6 (B1 E y) k:=λk hk=>by
  rw [Cw c2 k] at hk;obtain ⟨h',hh'⟩:=QY.1 hk;have hm':=Cz hh';rw [(fwdm k h' hm').1,lenk k h' hm']
 have inLen:∀ p ∈ q,A6 s.boxes p.2=A6 (G5 E x) p.1:=λp hp=>by
  have hS:(A2 p.1 (G5 E x)).isSome=true:=by rw [Cw c3 p.1,(Fg c1q (show (p.1,p.2) ∈ q from hp)).1];rfl
  obtain ⟨b,hb⟩:=QY.1 hS;obtain ⟨h',b',i1,i2,i3,_⟩:=a4 p.1 b (C7 hb);have e1:=(Fg c1q i1).1;rw [(Fg c1q (show (p.1,p.2) ∈ q from hp)).1] at e1;obtain rfl:=QA e1;unfold A6;rw [hb,i2];exact i3
 have hval:(Bg E hb s q y).1.s (A6 (Bg E hb s q y).2.boxes)=((Hp (C6 0 E.rs (Mv y))).s (A6 (B1 E y))).ren (Dp rn):=by
  have:(Bg E hb s q y).1=(Hp (C6 0 E.rs (Mv y))).ren3 (Dp rn):=by rw [<- hrn];rfl
  rw [this];refine Bc3 (p:=λk=>(A2 k (B1 E y)).isSome) (λk hk=>?_) c9;rw [Cw c2 k] at hk;obtain ⟨h',hh'⟩:=QY.1 hk;have hm':=Cz hh';rw [(fwdm k h' hm').1,lenk k h' hm']
 have hput:=Rj (nt:=nt) hp;rw [hval] at hput
 let cb:CallB:=⟨E.ts.map PK.isIm,(C6 1000 E.ts x).map (SV.v (A6 (G5 E x))),(Hp (C6 0 E.rs (Mv y))).s (A6 (B1 E y)),Bw (G5 E x),Bw (B1 E y),Dp rn,K1 rn,λk h=>q.any λp=>Nat.beq p.1 k&&Nat.beq p.2 h,(Bg E hb s q y).2.st nt,E.mv⟩
 have hok:cb.OK P K E.f (s.st nt) bor:=by
  refine ⟨hF,λk h hq=>?_,λk hk=>?_,λh k hk=>?_,λk b hb=>?_,λk b hb=>?_,?_,?_,a3,λh=>?_,λt z hz=>?_,λk hk hi=>?_,?_⟩
  . obtain ⟨p,hp1,hp2⟩:=ZI.1 hq;simp only [QF] at hp2;have e1:=QB hp2.1;have e2:=QB hp2.2
    have hm':(k,h) ∈ q:=by rw [<- e1,<- e2];exact hp1
    refine ⟨(fwdm k h (qrn _ hm')).1,?_⟩;show (A2 k (Bw (G5 E x))).isSome=true;rw [inS k,(Fg c1q hm').1];rfl
  . have hk:(A2 k (Bw (B1 E y))).isSome=true:=hk;rw [outS k] at hk;obtain ⟨h',hh'⟩:=QY.1 hk;obtain ⟨e1,e2,_⟩:=fwdm k h' (Cz hh');show K1 rn (Dp rn k)=some k;rw [e1,e2]
  . have hk:K1 rn h=some k:=hk;obtain ⟨e1,e2,e3⟩:=fwdm k h (A0q hk);refine ⟨e1,?_⟩;show (A2 k (Bw (B1 E y))).isSome=true;rw [outS k,e3];rfl
  . have hb:A2 k (Bw (G5 E x))=some b:=hb;unfold Bw at hb;rw [Aq] at hb;obtain ⟨b3,hb3,rfl⟩:=QD.1 hb;have hmem:=C7 hb3;obtain ⟨h',b',i1,i2,i3,i4,i5⟩:=a4 k b3 hmem;obtain ⟨e1,e2,e3⟩:=fwdm k h' (qrn _ i1);have hk:=QJ.1 c4 _ hmem;have hnb:=QJ.1 c7 _ i1
    refine ⟨by simpa using hk,?_,(i5 _).1,?_,?_,?_⟩
    . show A2 (Dp rn k) (Ai (B3.box (A6 s.boxes)) s.boxes)=_;rw [e1,Aq,i2];exact XT some (i4 _ _ _ λp hp=>⟨(fwdm p.1 p.2 (qrn _ hp)).1,inLen p hp⟩)
    . refine QJ.2 λr hr=>QJ.2 λc hc=>C.okH_mono (λk hk=>?_) (QJ.1 (QJ.1 (i5 (A6 (G5 E x))).2 r hr) c hc);show (A2 k (Bw (G5 E x))).isSome=true;rw [inS k];obtain ⟨p,hp,hp2⟩:=ZI.1 hk;obtain rfl:=QB hp2;rw [(Fg c1q (show (p.1,p.2) ∈ q from hp)).1];rfl
    . show Dp rn k ∉ bor;rw [e1];intro hmb
      have:(bor.any (Nat.beq h'))=true:=ZI.2 ⟨h',hmb,by simp⟩
      simp only [this,ZT] at hnb
      cases hnb
    . show (A2 k (Bw (B1 E y))).isSome=true;rw [outS k,e3];rfl
  . have hb:A2 k (Bw (B1 E y))=some b:=hb
    have hS:(A2 k (Bw (B1 E y))).isSome=true:=by rw [hb];rfl
    rw [outS k] at hS;obtain ⟨h',hh'⟩:=QY.1 hS;obtain ⟨e1,e2,e3⟩:=fwdm k h' (Cz hh');unfold Bw at hb;rw [Aq] at hb;obtain ⟨b3,hb3,rfl⟩:=QD.1 hb;have hok0:=(Ami renL (QJ.1 c5 _ (C7 hb3))).2;refine ⟨QJ.2 λr hr=>QJ.2 λc hc=>C.okH_mono (λk hk=>?_) (QJ.1 (QJ.1 hok0 r hr) c hc),λhn=>?_⟩
    . show (A2 k (Bw (B1 E y))).isSome=true;unfold Bw;rw [Aq,KB];exact hk
    have hn:A2 k (Bw (G5 E x))=none:=hn;rcases newC k h' (Cz hh') with h1 | ⟨h1,h2,_⟩
    . have:(A2 k (Bw (G5 E x))).isSome=true:=by rw [inS k,(Fg c1q h1).1];rfl
      rw [hn] at this;cases this
    . show A2 (Dp rn k) (Ai _ s.boxes)=none/\Dp rn k<1000;rw [e1,Aq,h2];exact ⟨rfl,h1⟩
  . simp only [XH,YR,QF] at c8;rcases c8 with c8 | ⟨c8,c8'⟩
    . exact .inl c8
    . refine .inr ⟨Bi5 c8,λk b hb=>?_⟩;have hb:A2 k (Bw (B1 E y))=some b:=hb;unfold Bw at hb;rw [Aq] at hb;obtain ⟨b3,hb3,rfl⟩:=QD.1 hb;exact Bgd (QJ.1 c8' _ (C7 hb3))
  . have : (fun k => (A2 k (Bw (B1 E y))).isSome) = fun k => (A2 k (B1 E y)).isSome := by
     funext k;unfold Bw;rw [Aq,KB]
    show S.okH (λk=>(A2 k (Bw (B1 E y))).isSome) _=true;rw [this];exact Bgx c9
  . show A2 h (Ai (B3.box (A6 (Bg E hb s q y).2.boxes)) (Bg E hb s q y).2.boxes)=match K1 rn h with | some k=>(A2 k (Bw (B1 E y))).map (Box.ren (Dp rn)) | none=>A2 h (Ai (B3.box (A6 s.boxes)) s.boxes)
    rw [Aq,blook h]
    cases hw:K1 rn h with
    | some k =>
     simp only;unfold Bw;rw [Aq]
     cases hb:A2 k (B1 E y) with
     | none=>rfl
     | some b3=>exact XT some (Ami renL (QJ.1 c5 _ (C7 hb))).1
    | none =>
     simp only;rw [Aq]
     cases hb:A2 h s.boxes with
     | none=>rfl
     | some b3 =>
      refine XT some (Asz λk hk=>?_)
      cases hki:(Dk E rn).any (Nat.beq k) with
      | true =>
       obtain ⟨k2,hk2,hk3⟩:=ZI.1 hki;obtain rfl:=QB hk3;have:=QJ.1 (QJ.1 c10 _ hk2) _ (C7 hb);simp only [hk,ZT] at this
       cases this
      | false =>
       rcases lenM k hki with h1 | h1
       . rw [Pr hb h1] at hk;cases hk
       . exact h1
  . have hz:A2 t (Ai (SV.s (A6 (Bg E hb s q y).2.boxes)) (Ai (λx=>bif (Dk E (Iq E hb q)).any (λh=>x.men h) then .dead else x) s.slots))=some z:=hz
    rw [hrn,Aq,Aq,Option.map_map] at hz;obtain ⟨z0,hz0,rfl⟩:=QD.1 hz;simp only [Function.comp]
    cases hki:(Dk E rn).any (λh=>z0.men h) with
    | true=>exact .inl rfl
    | false =>
     right;refine ⟨?_,λm hm=>?_⟩
     rotate_left
     . rw [Apu];obtain ⟨k,hk,rfl⟩:=ZK.1 hm;have:=YN.1 hki (Dp rn k) (QE.2 (.inr (ZK.2 ⟨k,hk,rfl⟩)));simpa using this
     show A2 t (Ai (SV.s (A6 s.boxes)) s.slots)=_;rw [Aq,hz0];refine XT some (B18 λk hk=>?_)
     cases hki':(Dk E rn).any (Nat.beq k) with
     | true =>
      obtain ⟨k2,hk2,hk3⟩:=ZI.1 hki';obtain rfl:=QB hk3;have:=YN.1 hki _ hk2;rw [hk] at this;exact absurd rfl this
     | false =>
      rcases lenM k hki' with h1 | h1
      . rw [cleanS hz0 h1] at hk;cases hk
      . exact h1.symm
  . have hk:E.mv.contains k=true:=hk;have hi:(A2 k (Bw (G5 E x))).isSome=true:=hi;rw [inS k] at hi;obtain ⟨h',hh'⟩:=QY.1 hi;have hm':=Cz hh';unfold Aec at cm;rcases Qbo.1 cm with cm | cm
    . rw [YR.1 cm] at hk;cases hk
    . have:=QJ.1 (Bool.and_eq_true_iff.1 cm).2 _ hm';simp only [hk,ZT,YI] at this;show Dp rn k<1000 \/ K.mv.contains (Dp rn k)=true;rw [(fwdm k h' (qrn _ hm')).1];rcases Qbo.1 this with h | h
      . exact .inl (by simpa [ZY] using h)
      . exact .inr h
  . unfold Aec at cm;rcases Qbo.1 cm with cm | cm
    . exact .inl (YR.1 cm)
    . refine .inr λh b hb=>?_;have hb:A2 h (Ai (B3.box (A6 s.boxes)) s.boxes)=some b:=hb;rw [Aq] at hb;obtain ⟨b3,hb3,rfl⟩:=QD.1 hb;exact hfB_box (QJ.1 (Bool.and_eq_true_iff.1 cm).1 _ (C7 hb3))
 refine ⟨{ callB:=some cb },cb.OK P K E.f (s.st nt) bor::ob,?_,λp hp=>?_⟩
 . have a1' : I9 cb.hd (s.st nt).box cb.ims (c.args.toList.map (s.st nt).val ++ cs.map fun x => S.v (V.one (C.i x))) cb.args = some (ob, bor) := by
    rw [hmap];exact a1
   simp only [Eh,Ae5,hf,hfv,k1,a1'];have:cb.s'.putD K dst (cb.r.ren cb.σ)=some (s'.st nt):=hput;rw [this];rfl
 . rcases QW.1 hp with rfl | hp
   . exact hok
   . exact a2 p hp
def onB {α:Type} (K:Ah) (E:Hk) (hb:Nat) (o:Oper) (s:St3) (x:HP E.ts) (bor:List Nat) (q:List (Nat × Nat)) (y:HR E.rs (Am 1000 E.ts)) (k:St3->Option α):Option α :=
 bif Jy K E hb s x bor q y then bif G8 (B1 E y) s.boxes (Dk E (Iq E hb q)) q then (match (Bg E hb s q y).2.put3 K o.dst (Bg E hb s q y).1 with
  | some s'=>k s'
  | none=>none) else none else none
def Rd {α:Type} (K:Ah) (E:Ent3) (hb:Nat) (o:Oper) (s:St3) (k:St3->Option α):Option α :=
 match K0 E.f E.ts o s with
 | some (g,x,bor,q)=>bif g then (match E.m x with
  | some z=>Jz (Am 1000 E.ts) E.forms z λrs y=>onB K ⟨E.f,E.ts,rs,E.mv⟩ hb o s x bor q y k
  | none=>none) else none
 | none=>none
theorem Wh {α:Type} {K:Ah} {E:Ent3} {hb:Nat} {o:Oper} {s:St3} {nt:Nat} {k:St3->Option α} {r:α} (h:Rd K E hb o s k=some r) (hE:E.Sound P) :
  ∃ s' D obs,Eh P T K o D (s.st nt)=some (s'.st nt,obs)/\(∀ p ∈ obs,p)/\k s'=some r:=by
 unfold Rd at h;split at h
 . rename_i g x bor q hc
   cases g with
   | false=>cases h
   | true =>
    simp only [cond] at h;split at h
    . rename_i z hm;obtain ⟨rs,y,h1,h2⟩:=Nc h (hE nt x z hm);unfold onB at h1
      cases hck:Jy K ⟨E.f,E.ts,rs,E.mv⟩ hb s x bor q y with
      | false=>rw [hck] at h1;cases h1
      | true =>
       rw [hck] at h1;simp only [cond] at h1
       cases hl:G8 (B1 ⟨E.f,E.ts,rs,E.mv⟩ y) s.boxes (Dk ⟨E.f,E.ts,rs,E.mv⟩ (Iq ⟨E.f,E.ts,rs,E.mv⟩ hb q)) q with
       | false=>rw [hl] at h1;cases h1
       | true =>
        rw [hl] at h1;simp only at h1;split at h1
        . rename_i s' hp;obtain ⟨D,obs,q1,q2⟩:=Adj (T:=T) (E:=⟨E.f,E.ts,rs,E.mv⟩) hc hck hl h2 hp;exact ⟨s',D,obs,q1,q2,h1⟩
        . cases h1
    . cases h
 . cases h
end Go.Ev

/- DERIVED. In place of EvTr EvTs EvTt EvTu EvTv EwTr EwTu, where no trees are wanted, but a box's cell is settled. -/
namespace Go.Ev
open Go
variable {P:Program} {T:Ty}
theorem Es.weak {K:Ah} {o:Oper} {s s1 s2:St} (h:Es P K o s s1) (hw:Ip s1 s2):Es P K o s s2 :=
 λΓ w E a ro n X hK hX hx hs next Q hn=>h Γ w E a ro n X hK hX hx hs next Q λa' w' hx' ⟨E',hs'⟩=>hn a' w' hx' (hw Γ w' E' a'.tmps hs')
def A5n (_:Ty) (_:Oper) (_:St3):Option (Bool × St3):=none
theorem Ado (_:Ay P T) {K:Ah} {o:Oper} {s s':St3} {nt:Nat} {g:Bool} (h:A5n T o s=some (g,s')) (_:g=true):Es P K o (s.st nt) (s'.st nt):=by cases h
def Aex (_:Ty) (_:Ah) (_:Oper) (_:St3):Option (Bool × St3):=none
theorem Aky (_:Ay P T) {K:Ah} {o:Oper} {s s':St3} {nt:Nat} {g:Bool} (h:Aex T K o s=some (g,s')) (_:g=true):Es P K o (s.st nt) (s'.st nt):=by cases h
def Aew (_:Sh) (_:Nat) (_:St3):Option St3:=none
theorem Akx {sh:Sh} {k:Nat} {s s':St3} {nt:Nat} (h:Aew sh k s=some s'):Ip (s.st nt) (s'.st nt):=by cases h
def Bge {α:Type} (_:Ty) (_:Ah) (_:Nat) (_:Oper) (_:St3) (_:St3->Option α):Option α:=none
theorem Bbe (_:Ay P T) {α:Type} {K:Ah} {kk:Nat} {o:Oper} {s:St3} {nt:Nat} {k:St3->Option α} {r:α} (h:Bge T K kk o s k=some r) :
  ∃ s':St3,Es P K o (s.st nt) (s'.st nt)/\k s'=some r:=by cases h
theorem Ip.trans {s s1 s2:St} (h:Ip s s1) (h':Ip s1 s2):Ip s s2:=λΓ w E tmps hs=>by
 obtain ⟨E',hs'⟩:=h Γ w E tmps hs;exact h' Γ w E' tmps hs'
inductive Shut where
 | hole (kk:Nat)
 | stl (h j:Nat) (sh:Sh)
theorem At7 {s s':St} (hn:s'.nt=s.nt) (h1:∀ t x,A2 t s'.slots=some x->x = .dead \/ A2 t s.slots=some x) (h2:∀ k,A2 k s'.boxes=A2 k s.boxes):Ip s s':=λΓ w E tmps hs=>by
 have hs1:=hs.relook (bs:=s'.boxes) h2;refine ⟨E,?_⟩;obtain ⟨sl,bx,nt⟩:=s';simp only at hn h1 h2 hs1 ⊢;subst hn
 exact ⟨hs1.fr,hs1.wf,hs1.old,hs1.nt,hs1.tag,hs1.new,hs1.boxes,hs1.inj,hs1.own,λt x hx=>(h1 t x hx).elim (λe=>by subst e;exact .dead) (λe=>hs1.slots t x e),hs1.tsize,hs1.dom,hs1.stay,hs1.fzn,hs1.held,hs1.tow⟩
theorem A63 {ks:List Nat}:∀ {bs:List (Nat × Box)} {h:Nat},h ∉ ks->A2 h (B7 bs ks)=A2 h bs:=by
 induction ks with
 | nil=>intro bs h _;rfl
 | cons k r ih =>
  intro bs h hk;simp only [QW,not_or] at hk;simp only [B7];rw [ih hk.2]
  cases hl:A2 k bs with
  | none=>rfl
  | some b=>exact Ao _ _ hk.1
theorem B0v {s:St} {h row j:Nat} {b:Box} {r:List C} {c c':C} {obs:List Prop} {ks:List Nat} {hf':Bool} (hb:A2 h s.boxes=some b) (htr:b.tr=false) (hr:b.rows[row]? = some r) (hc:r[j]? = some c)
  (hcv:Nb (A2 · s.boxes) c c'=some (obs,ks)) (ho:∀ p ∈ obs,p) (hz:H7 s.boxes ks=true) (hk:h ∉ ks)
  (hhf:hf'=true->∀ (i:Nat) (q:List C) (l:Nat) (d:C),(b.rows.set row (r.set j c'))[i]? = some q->q[l]? = some d->∃ x,d = .i x) :
  Ip s { s with boxes:=Aw h { b with hf:=hf',rows:=b.rows.set row (r.set j c') } (B7 s.boxes ks) }:=λΓ w E tmps hs=>by
 obtain ⟨E',hs',kk,_,_,hl⟩:=hs.freezes ks hz;obtain ⟨b1,hb1,r1,r2,r3,r4,r5,r6⟩:=hl h b hb
 have hfzn:b1.fz=b.fz:=by
  have:=A63 (ks:=ks) (bs:=s.boxes) hk;rw [this,hb] at hb1;rw [<- QA hb1]
 let nb:Box:={ b with hf:=hf',rows:=b.rows.set row (r.set j c') }
 have same:∀ k b',A2 k (Aw h nb (B7 s.boxes ks))=some b'->∃ b0,A2 k (B7 s.boxes ks)=some b0/\b0.fz=b'.fz/\b0.sz=b'.sz:=by
  intro k b' hb';by_cases e:k=h
  . subst e;rw [Ap] at hb';obtain rfl:=QA hb';exact ⟨b1,hb1,hfzn,r2⟩
  . rw [Ao _ _ e] at hb';exact ⟨b',hb',rfl,rfl⟩
 have hcell:∃ g cap arr v,E.β h=some (g,b.sz,cap)/\w.heap[g]? = some (.cells arr b.e (0,0))/\arr[row*b.sz+j]? = some v/\Rc w E' v c':=by
  obtain ⟨g,cap,hβ,⟨arr,a1,a2,a3,a4,a5,a6,a7,a8,a9⟩,hω,hS⟩:=hs.boxes h b hb;obtain ⟨v,hv,hrc⟩:=a6 row r j c hr hc;rw [htr] at hrc
  exact ⟨g,cap,arr,v,hβ,a1,hv,R6 (s:=s) (s':={ s with boxes:=B7 s.boxes ks }) hs' kk hrc hcv ho (λk hk' b0 hb0=>by
   obtain ⟨b',q1,q2,q3,_,_,q6,q7⟩:=hl k b0 hb0
   exact ⟨b',q1,q2,q3,q6 hk',q7⟩)⟩
 obtain ⟨g0,cap0,arr0,v0,z1,z2,z3,z4⟩:=hcell;refine ⟨E',hs'.fr,hs'.wf,hs'.old,hs'.nt,hs'.tag,hs'.new,λk b' hb'=>?_,λk k' b b' g g' z z' hb hb' hz hz'=>?_,λk b g z hb hz=>?_,hs'.slots,hs'.tsize,λk x hx=>?_,hs'.stay,λk b g z hb hz hf=>?_,hs'.held,hs'.tow⟩
 . by_cases e:k=h
   . subst e;rw [Ap] at hb';obtain rfl:=QA hb';obtain ⟨g,cap,hβ,⟨arr,a1,a2,a3,a4,a5,a6,a7,a8,a9⟩,hω,hS⟩:=hs'.boxes k b1 hb1;have e1:=kk.β _ _ z1;rw [hβ] at e1
     obtain ⟨rfl,e2,rfl⟩:g=g0/\b1.sz=b.sz/\cap=cap0:=by simpa using QA e1
     have htr1:b1.tr=false:=r6.trans htr;rw [htr1] at a6 a8 a9;have rl:row<b.rows.length:=(ZA.1 hr).1;have jl:j<r.length:=(ZA.1 hc).1
     have arreq:arr=arr0:=by rw [z2] at a1;exact (by simpa using QA a1:arr0=arr/\_).1.symm
     subst arreq
     refine ⟨g,cap,by rw [hβ,e2],⟨arr,z2,by show arr.size=cap*b.sz;rw [<- e2];exact a2,by show (b.rows.set row (r.set j c')).length<=cap;rw [Qbf,<- r1];exact a3,a4,λi q hi=>?_,λi q l d hi hd=>?_,hhf,?_,?_⟩,hω,λh'=>by rw [show nb.tr=b.tr from rfl,htr] at h';cases h'⟩
     . show q.length=b.sz;have hi:(b.rows.set row (r.set j c'))[i]? = some q:=hi;by_cases e3:i=row
       . subst e3;rw [JQ rl] at hi;obtain rfl:=QA hi;rw [Qbf,<- e2]
         exact a5 i r (by rw [r1];exact hr)
       . rw [KO (λh=>e3 h.symm)] at hi;rw [<- e2]
         exact a5 i q (by rw [r1];exact hi)
     . rw [show nb.tr=b.tr from rfl,htr];have hi:(b.rows.set row (r.set j c'))[i]? = some q:=hi;show ∃ v,arr[i*b.sz+l]? = some v/\Rc w E' v d;by_cases e3:i=row
       . subst e3;rw [JQ rl] at hi;obtain rfl:=QA hi;by_cases e4:l=j
         . subst e4;rw [JQ jl] at hd;obtain rfl:=QA hd;exact ⟨v0,z3,z4⟩
         . rw [KO (λh=>e4 h.symm)] at hd
           obtain ⟨v,p1,p2⟩:=a6 i r l d (by rw [r1];exact hr) hd
           exact ⟨v,by rw [<- e2];exact p1,p2⟩
       . rw [KO (λh=>e3 h.symm)] at hi
         obtain ⟨v,p1,p2⟩:=a6 i q l d (by rw [r1];exact hi) hd
         exact ⟨v,by rw [<- e2];exact p1,p2⟩
     . intro hf;rw [show nb.tr=b.tr from rfl,htr];exact a8 (hfzn.trans hf)
     . rw [show nb.tr=b.tr from rfl,htr];exact a9
   . rw [Ao _ _ e] at hb';exact hs'.boxes k b' hb'
 . obtain ⟨b0,h0,_⟩:=same k b hb;obtain ⟨b2,h2,_⟩:=same k' b' hb';exact hs'.inj k k' b0 b2 g g' z z' h0 h2 hz hz'
 . obtain ⟨b0,h0,h1,_⟩:=same k b hb;rw [<- h1];exact hs'.own k b0 g z h0 hz
 . by_cases e:k=h
   . subst e;rw [Ap];rfl
   . rw [Ao _ _ e];exact hs'.dom k x hx
 . obtain ⟨b0,h0,h1,_⟩:=same k b hb;exact hs'.fzn k b0 g z h0 hz (h1.trans hf)
def B14 (h j:Nat) (sh:Sh) (s:St3):Option (Bool × St3):=match A2 h s.boxes with
 | some (.var e hf fz cs)=>match cs[j]? with
  | some c=>match Fc s.boxes sh c with
   | some (g,x,ks)=>bif sh.one && !ks.any (Nat.beq h) then some (g,⟨s.slots,Aw h (.var e ((cs.set j (.d sh x)).all SV.isD) fz (cs.set j (.d sh x))) (Bu s.boxes ks)⟩) else none
   | none=>none
  | none=>none
 | _=>none
theorem B6r {h j:Nat} {sh:Sh} {s s':St3} {g:Bool} {nt:Nat} (hh:B14 h j sh s=some (g,s')) (hg:g=true):Ip (s.st nt) (s'.st nt):=by
 unfold B14 at hh;split at hh
 . rename_i e hf fz cs hl;split at hh
   . rename_i c hc;split at hh
     . rename_i g0 x ks hcv
       cases hb:(sh.one && !ks.any (Nat.beq h)) with
       | false=>rw [hb] at hh;cases hh
       | true =>
        rw [hb] at hh;simp only [cond,QC,QL] at hh;obtain ⟨rfl,rfl⟩:=hh;simp only [QF,XB] at hb;obtain ⟨h1,h2⟩:=hb;obtain ⟨q1,⟨ob,q2,q3⟩,q4⟩:=Yz h1 hcv hg
        have hn:h ∉ ks:=λhk=>by have:=YN.1 h2 h hk;simp at this
        let L:=A6 s.boxes
        let nb:B3:=.var e ((cs.set j (.d sh x)).all SV.isD) fz (cs.set j (.d sh x))
        have hbx:A2 h (s.st nt).boxes=some ((B3.var e hf fz cs).box L):=by
         show A2 h (Ai (B3.box L) s.boxes)=_;rw [Aq,hl];rfl
        have ex:(SV.d sh x).c L = .i (hd1 (sh.cells x)):=rfl
        have hw:=B0v (s:=s.st nt) (h:=h) (row:=0) (j:=j) (b:=(B3.var e hf fz cs).box L) (r:=cs.map (SV.c L)) (c:=c.c L) (c':=.i (hd1 (sh.cells x))) (obs:=ob) (ks:=ks) (hf':=(cs.set j (.d sh x)).all SV.isD) hbx rfl rfl
         (by rw [QP,hc];rfl) q2 q3 (Ve q4) hn (λhall i q l d hi hd=>by
          cases i with
          | zero =>
           have hi:some ((cs.map (SV.c L)).set j (.i (hd1 (sh.cells x))))=some q:=hi;obtain rfl:=QA hi;rw [<- ex,<- List.map_set,QP] at hd;obtain ⟨y,hy,rfl⟩:=QD.1 hd;have:=QJ.1 hall y (ZM hy)
           cases y with
           | d t z=>exact ⟨_,rfl⟩
           | _=>cases this
          | succ i=>simp [B3.box] at hi)
        refine hw.trans (At7 rfl (λt z hz=>.inr ?_) λk=>?_)
        . have hz:A2 t (Ai (SV.s (A6 (Aw h nb (Bu s.boxes ks)))) s.slots)=some z:=hz
          have hL:A6 (Aw h nb (Bu s.boxes ks))=L:=by
           funext k;unfold A6;by_cases e1:k=h
           . subst e1;rw [Ap];show (1:Nat)=A6 s.boxes k;simp [A6,hl,B3.len]
           . rw [Ao _ _ e1];show A6 (Bu s.boxes ks) k=L k;rw [D4]
          rw [hL] at hz;exact hz
        . have hL : A6 (Aw h nb (Bu s.boxes ks)) = L := by
           funext k;unfold A6;by_cases e1:k=h
           . subst e1;rw [Ap];show (1:Nat)=A6 s.boxes k;simp [A6,hl,B3.len]
           . rw [Ao _ _ e1];show A6 (Bu s.boxes ks) k=L k;rw [D4]
          show A2 k (Ai (B3.box (A6 (Aw h nb (Bu s.boxes ks)))) (Aw h nb (Bu s.boxes ks)))=A2 k (Aw h _ (B7 (Ai (B3.box L) s.boxes) ks));rw [hL,Gu];by_cases e1:k=h
          . subst e1;rw [Aq,Ap,Ap];simp only [QV,nb,B3.box,List.map_set,Qbf];rfl
          . rw [Aq,Ao _ _ e1,Ao _ _ e1,Aq]
     . cases hh
   . cases hh
 . cases hh
def B5e:Shut->St3->Option (Bool × St3)
 | .hole _,_=>none
 | .stl h j sh,s=>B14 h j sh s
theorem B17 {k:Shut} {s s':St3} {g:Bool} {nt:Nat} (h:B5e k s=some (g,s')) (hg:g=true):Ip (s.st nt) (s'.st nt):=by
 cases k with
 | hole kk=>cases h
 | stl h0 j sh=>exact B6r h hg
end Go.Ev

/- DERIVED. Code over shapes: all paths, in one expression. -/
namespace Go.Ev
open Go
variable {P:Program} {T:Ty}
structure OA where
 ent:Option Ent:=none
 sh:Option Sh:=none
 fz:List (Nat × Sh):=[]
 entB:Option Ent3:=none
 hb:Nat:=0
 tr:Option Sh:=none
 alt:List Ent3:=[]
 bor:Option Nat:=none
 shut:Option Shut:=none
def OA.two (a:OA):Bool:=(a.ent.isSome&&a.entB.isSome) || !a.alt.isEmpty || (a.bor.isSome || a.shut.isSome)
theorem OA.two_false {a:OA} (h:a.two=false):(a.ent.isSome&&a.entB.isSome)=false/\a.alt=[]/\a.bor=none/\a.shut=none:=by
 unfold OA.two at h;simp only [Qbg,Bool.not_eq_false'] at h
 exact ⟨h.1.1,YR.1 h.1.2,by simpa using h.2.1,by simpa using h.2.2⟩
structure RA where
 m:Nat:=0
 fz:List (Nat × Sh):=[]
 ops:List (Nat × OA):=[]
@[reducible] def KS (α:Type):List (Exit × Tm)->Type
 | []=>Unit
 | (_,X)::r=>(X.den->Option α) × KS α r
def Oe {α:Type} (k:Exit->St3->Option α):(l:List (Exit × Tm))->KS α l
 | []=>()
 | (x,X)::r=>(λw=>k x (X.enc w),Oe k r)
def Exit.eqb:Exit->Exit->Bool
 | .normal,.normal=>true
 | .ret,.ret=>true
 | .exit i,.exit j=>Nat.beq i j
 | _,_=>false
theorem Exit.eqb_eq {a b:Exit} (h:Exit.eqb a b=true):a=b:=by
 unfold Exit.eqb at h;split at h
 . rfl
 . rfl
 . rw [QB h]
 . cases h
def Mw {α:Type}:(l:List (Exit × Tm))->KS α l->Exit->St3->Option α
 | [],_,_,_=>none
 | (x,X)::r,ks,y,s=>bif Exit.eqb x y then (match X.dec s with
  | some w=>ks.1 w
  | none=>none) else Mw r ks.2 y s
structure LO (α:Type) where
 H:Tm
 outs:List (Exit × Tm)
 run:H.den->KS α outs->Option α
structure D3 (α:Type) where
 reg:List (Nat × RA):=[]
 join:List (Nat × Tm):=[]
 loop:List (Nat × LO α):=[]
 any:List (Nat × Tm):=[]
def Cf:Code->Nat
 | .region id _ _=>id
 | .seq c d=>match Cf c with
  | 0=>Cf d
  | n+1=>n+1
 | .cond _ c d=>match Cf c with
  | 0=>Cf d
  | n+1=>n+1
 | .block _ c=>Cf c
 | .loop c=>Cf c
 | .rangeFunc _ _ a b=>match Cf a with
  | 0=>Cf b
  | n+1=>n+1
 | _=>0
def upd {α:Type} (k:Nat) (x:α):List (Nat × α)->List (Nat × α)
 | []=>[]
 | (j,y)::r=>bif Nat.beq j k then (j,x)::r else (j,y)::upd k x r
def Ib {α:Type}:List (Nat × Sh)->St3->(St3->Option α)->Option α
 | [],s,k=>k s
 | (t,sh)::r,s,k=>match Nj s t sh with
  | some (g,s1)=>bif g then Ib r s1 k else none
  | none=>none
def ob {α β:Type} (x:Option β) (k:β->Option α):Option α:=match x with
 | some r=>k r
 | none=>none
def gd {α:Type} (g:Bool) (x:Option α):Option α:=bif g then x else none
abbrev W (x:Int):Int:=IntKind.i64.wrap x
def A0r (T:Ty) (K:Ah) (A:OA) (o:Oper) (s:St3):Option (Bool × St3) :=
 match Ln T A.sh o s with
 | some r=>match s.eff3 K o.dst r.eff with
  | some s1=>match s1.put3 K o.dst r.val with
   | some s'=>match A.tr with
    | none=>some (r.g,s')
    | some sh=>match o.dst with
     | some d=>(Aew sh d s').map λs2=>(r.g,s2)
     | none=>none
   | none=>none
  | none=>none
 | none=>match A5n T o s with
  | some q=>some q
  | none=>Aex T K o s
def Akj:List Ent3->Oper->St3->Option Ent3
 | [],_,_=>none
 | E::r,o,s=>match K0 E.f E.ts o s with
  | some _=>some E
  | none=>Akj r o s
theorem Aki:∀ {l:List Ent3} {o:Oper} {s:St3} {E:Ent3},Akj l o s=some E->E ∈ l
 | [],_,_,_,h=>by cases h
 | F::r,o,s,E,h=>by
  simp only [Akj] at h;split at h
  . cases h;exact YE
  . exact ZH _ (Aki h)
def Re {α:Type} (T:Ty) (K:Ah) (A:OA) (o:Oper) (s:St3) (k:St3->Option α):Option α :=
 match Akj A.alt o s with
 | some E=>Rd K E A.hb o s k
 | none=>match A.ent with
 | some E=>match Qt E o s with
  | some (g,x)=>bif g then ob (E.m x) (λr=>match s.put3 K o.dst (Ae E.rs r) with
    | some s'=>k s'
    | none=>none) else none
  | none=>match A.entB with
   | some F=>Rd K F A.hb o s k
   | none=>none
 | none=>match A.entB with
 | some E=>Rd K E A.hb o s k
 | none=>match A0r T K A o s with
  | some (g,s')=>bif g then k s' else none
  | none=>none
def T1 {α:Type} (T:Ty) (K:Ah) (A:OA) (o:Oper) (s:St3) (k:St3->Option α):Option α :=
 match A.bor with
 | some kk=>Bge T K kk o s k
 | none=>match A.shut with
  | none=>Re T K A o s k
  | some kk=>Re T K A o s λs1=>match B5e kk s1 with
   | some (g,s2)=>bif g then k s2 else none
   | none=>none
def Ae6 {α:Type} (K:Ah) (o:Oper) (s:St3) (k:St3->Option α):Option α :=
 match s.put3 K o.dst (.tup []) with
 | some s'=>k s'
 | none=>none
def Xf {α:Type} (ops:List Oper) (o:Oper) (s:St3) (f g:St3->Option α):Option α :=
 match o.guard with
 | none=>f s
 | some (j,want)=>match ops[j]? with
  | some p=>match p.dst with
   | some t=>match A2 t s.slots with
    | some (.d .bool b)=>bif b then
      (bif want then f { s with slots:=upd t (.d .bool true) s.slots } else g { s with slots:=upd t (.d .bool true) s.slots }) else
      (bif want then g { s with slots:=upd t (.d .bool false) s.slots } else f { s with slots:=upd t (.d .bool false) s.slots })
    | some (.tup [])=>g s
    | _=>none
   | none=>none
  | none=>none
def Id {α:Type} (T:Ty) (K:Ah) (ops:List Oper) (A:List (Nat × OA)):List (Nat × Oper)->St3->(St3->Option α)->Option α
 | [],s,k=>k s
 | (i,o)::r,s,k=>Ib ((A2 i A).getD {}).fz s λs0=>Xf ops o s0 (λs1=>T1 T K ((A2 i A).getD {}) o s1 λs2=>Id T K ops A r s2 k) (λs1=>Ae6 K o s1 λs2=>Id T K ops A r s2 k)
def OA.quiet (T:Ty) (A:OA) (o:Oper) (s:St3):Bool :=
 A.fz.isEmpty&&A.tr.isNone&&A.alt.isEmpty&&(A.bor.isNone&&A.shut.isNone)&&(match A.entB with | some _=>false | none=>true)&&(match o.dst with | some _=>true | none=>false)&&(match A.ent with
 | some _=>true
 | none=>match Ln T A.sh o s with
  | some r=>match r.eff with
   | .none=>true
   | _=>false
  | none=>false)
def Afn {α:Type} (T:Ty) (K:Ah) (ops:List Oper) (A:List (Nat × OA)):List (Nat × Oper)->St3->(St3->Option α)->Option α
 | [],s,k=>k s
 | (i,o)::r,s,k=>Xf ops o s
   (λs1=>bif OA.quiet T ((A2 i A).getD {}) o s1 then T1 T K ((A2 i A).getD {}) o s1 (λs2=>Afn T K ops A r s2 k) else none)
   (λs1=>bif o.dst.isSome then Ae6 K o s1 (λs2=>Afn T K ops A r s2 k) else none)
def B1c {α:Type} (P:Program) (T:Ty) (K:Ah) (A:RA) (ops:Array Oper) (draw:Bool) (s:St3) (k:St3->Option α):Option α :=
 bif draw then
  bif Em ops A.m then Ib A.fz s λs0=>Afn T K ops.toList A.ops ((A7 ops.toList).take A.m) s0 λs1=>Id T K ops.toList A.ops ((A7 ops.toList).drop A.m) s1 k else none
 else Id T K ops.toList A.ops (A7 ops.toList) s k
def Aa:Code->List (Nat × Code)
 | .seq c d=>Aa c++Aa d
 | .cond _ c d=>Aa c++Aa d
 | .block _ c=>Aa c
 | .loop c=>[(Cf c,.loop c)]
 | .rangeFunc f ps a b=>[(match Cf a with | 0=>Cf b | n+1=>n+1,.rangeFunc f ps a b)]
 | _=>[]
def As:Code->List (Nat × Array Oper)
 | .seq c d=>As c++As d
 | .cond _ c d=>As c++As d
 | .block _ c=>As c
 | .loop c=>As c
 | .region id ops true=>[(id,ops)]
 | _=>[]
def Vj (id:Nat):List (Nat × Tm)->List Tm
 | []=>[]
 | (i,X)::r=>bif Nat.beq i id then X::Vj id r else Vj id r
def Ae8 {α:Type} (s:St3) (f:(X:Tm)->X.den->Option α):List Tm->Option α
 | []=>none
 | X::r=>match X.dec s with
  | some w=>f X w
  | none=>Ae8 s f r
def Bp {α:Type} (P:Program) (T:Ty) (K:Ah) (D:D3 α):Code->St3->(Exit->St3->Option α)->Option α
 | .skip,s,k=>k .normal s
 | .region id ops draw,s,k=>match Vj id D.any with
  | []=>B1c P T K ((A2 id D.reg).getD {}) ops draw s (k .normal)
  | X::r=>bif draw then Ae8 s (λX w=>Id T K ops.toList ((A2 id D.reg).getD {}).ops (A7 ops.toList) (X.enc w) (k .normal)) (X::r) else none
 | .seq c d,s,k=>match A2 (Cf d) D.join with
  | none=>Bp P T K D c s λx s1=>match x with
   | .normal=>Bp P T K D d s1 k
   | x=>k x s1
  | some X=>(λ(J:X.den->Option α)=>Bp P T K D c s λx s1=>match x with
   | .normal=>match X.dec s1 with
    | some w=>J w
    | none=>none
   | x=>k x s1) λw=>Bp P T K D d (X.enc w) k
 | .cond (.tmp t) c d,s,k=>match A2 t s.slots with
  | some (.d .bool b)=>bif b then Bp P T K D c { s with slots:=upd t (.d .bool true) s.slots } k else Bp P T K D d { s with slots:=upd t (.d .bool false) s.slots } k
  | _=>none
 | .block id c,s,k=>Bp P T K D c s λx s1=>match x with
  | .exit j=>bif Nat.beq j id then k .normal s1 else k (.exit j) s1
  | x=>k x s1
 | .loop c,s,k=>match A2 (Cf c) D.loop with
  | some L=>match L.H.dec s with
   | some v=>L.run v (Oe k L.outs)
   | none=>bif (Aa c).isEmpty then Bp P T K D c s λx s1=>match x with
    | .normal=>match L.H.dec s1 with
     | some v=>L.run v (Oe k L.outs)
     | none=>none
    | x=>k x s1 else none
  | none=>none
 | .rangeFunc _ _ a b,s,k=>match A2 (match Cf a with | 0=>Cf b | n+1=>n+1) D.loop with
  | some L=>match L.H.dec s with
   | some v=>L.run v (Oe k L.outs)
   | none=>none
  | none=>none
 | .exit id,s,k=>k (.exit id) s
 | .ret,s,k=>k .ret s
 | _,_,_=>none
def A5 {α:Type} {V Ks:Type} (B:V->(V->Option α)->Ks->Option α):Nat->V->Ks->Option α
 | 0,_,_=>none
 | n+1,v,ks=>B v (λv'=>A5 B n v' ks) ks
def A86 {α:Type} (H:Tm) (outs:List (Exit × Tm)) (f:H.den->Option α) (ks:KS α outs) (x:Exit) (s:St3):Option α :=
 match x with
 | .normal=>match H.dec s with
  | some v=>f v
  | none=>none
 | x=>Mw outs ks x s
def A8q (T:Ty) (s:St3):ResultVar->Option SV
 | .tmp t=>A2 t s.slots
 | .cell a t=>match s.val (.tmp a) with
  | .hp h row col=>match A2 h s.boxes with
   | some (.var _ _ _ _)=>match Zd T t (.hp h row col) s.boxes with
    | some r=>some r.val
    | none=>none
   | _=>none
  | _=>none
def Wz (T:Ty) (s:St3) (rv:ResultVar) (t:Sh):Option (Bool × t.den × List Nat) :=
 match A8q T s rv with
 | some v=>Yx s.boxes t v
 | none=>none
def Ja (T:Ty) (s:St3):(ts:List Sh)->List ResultVar->Option (Bool × HL ts)
 | [],[]=>some (true,())
 | [t],[rv]=>match Wz T s rv t with
  | some (g,x,_)=>some (g,x)
  | none=>none
 | t::u::r,rv::rvs=>match Wz T s rv t,Ja T s (u::r) rvs with
  | some (g,x,_),some (g',xs)=>some (g&&g',(x,xs))
  | _,_=>none
 | _,_=>none
def B26 (T:Ty) (rs:List Sh) (rvs:List ResultVar) (x:Exit) (s:St3):Option (HL rs) :=
 match x with
 | .exit _=>none
 | .normal=>match Ja T s rs rvs with
  | some (g,y)=>bif g then some y else none
  | none=>none
 | .ret=>match Ja T s rs rvs with
  | some (g,y)=>bif g then some y else none
  | none=>none
 | _=>none
def Fe (i:Nat):List SV->List (Nat × SV)
 | []=>[]
 | x::r=>(i,x)::Fe (i+1) r
def Yu (ts:List Sh) (x:HL ts):St3:=⟨Fe 0 (F5 ts x),[]⟩
end Go.Ev

/- DERIVED. Code over shapes is what the code does. -/
namespace Go.Ev
open Go
variable {P:Program} {T:Ty} {α:Type}
theorem Atd {f:SV->S} {t:Nat} {x y:SV} (hxy:f x=f y):∀ {l:List (Nat × SV)},A2 t l=some y->Ai f (upd t x l)=Ai f l
 | [],h=>by cases h
 | (j,z)::r,h=>by
  simp only [A2] at h;simp only [upd]
  cases hb:Nat.beq j t with
  | true =>
   rw [hb] at h;simp only [cond,QC] at h;subst h;simp [Ai,hxy]
  | false =>
   rw [hb] at h;have:=Atd hxy h;simp only [Ai] at this;simp [Ai,this]
theorem Qy {nt:Nat}:∀ {l:List (Nat × Sh)} {s:St3} {k:St3->Option α} {r:α},Ib l s k=some r->∃ s' fz ob,F7 fz (s.st nt)=some (s'.st nt,ob)/\(∀ p ∈ ob,p)/\k s'=some r/\(l=[]->fz=[]/\s'=s)
 | [],s,k,r,h=>⟨s,[],[],rfl,by simp,h,λ_=>⟨rfl,rfl⟩⟩
 | (t,sh)::l,s,k,r,h=>by
  simp only [Ib] at h;split at h
  . rename_i g s1 hs
    cases g with
    | false=>cases h
    | true =>
     obtain ⟨x',ob,h1,h2⟩:=T3 (nt:=nt) hs rfl;obtain ⟨s2,fz,ob2,h3,h4,h5,_⟩:=Qy (nt:=nt) (l:=l) h
     refine ⟨s2,(t,x')::fz,ob++ob2,by simp only [F7,h1,h3],λp hp=>?_,h5,λe=>by cases e⟩
     rcases QE.1 hp with hp | hp
     . exact h2 p hp
     . exact h4 p hp
  . cases h
theorem Apj {o:Oper} {s:St3} {nt:Nat} {A:Option Sh} {r:R3} (h:Ln T A o s=some r) (hg:r.g=true) (he:r.eff = .none) :
  ∃ D obs,(∀ p ∈ obs,p)/\quiet P T o D (s.st nt)=some (r.val.s (A6 s.boxes),obs):=by
 obtain ⟨hnt,q,h1,h2,h3⟩:=Ak3 (nt:=nt) h hg;unfold J3 at h3;rw [he] at h3
 refine ⟨{ cells:=hnt },q.ob++[],by simpa using h2,?_⟩
 unfold quiet;simp only [h1,h3.1,Option.getD_none,h3.2]
theorem B16 {K:Ah} {o:Oper} {D:Fw} {s:St} (fz:List (Nat × V)):Eh P T K o { D with fz:=fz } s=Eh P T K o D s:=rfl
def OA.S (P:Program) (a:OA):Prop:=(∀ E,a.ent=some E->E.Sound P)/\(∀ E,a.entB=some E->E.Sound P) /\ ∀ E,E ∈ a.alt->E.Sound P
theorem Akc (hT:Ay P T) {K:Ah} {A:OA} {o:Oper} {s s':St3} {nt:Nat} {g:Bool} (h:A0r T K A o s=some (g,s')) (hg:g=true) :
  ∃ D obs,Eh P T K o D (s.st nt)=some (s'.st nt,obs) /\ ∀ p ∈ obs,p:=by
 unfold A0r at h;split at h
 . rename_i q hq;split at h
   . rename_i s1 he;split at h
     . rename_i s2 hp
       have key:q.g=true->∃ D obs,Eh P T K o D (s.st nt)=some (s2.st nt,obs) /\ ∀ p ∈ obs,p:=λhg=>by
        obtain ⟨hnt,r1,h1,h2,h3⟩:=Ak3 (nt:=nt) hq hg;obtain ⟨h4,h5⟩:=Bb9 (nt:=nt) he h3;have h6:=Rj (nt:=nt) hp;rw [<- h5] at h6
        refine ⟨{ cells:=hnt },r1.ob++[]++[],?_,by simpa using h2⟩
        unfold Eh;simp only [h1,h4,Option.getD_none,h6,QV]
       split at h
       . simp only [QC,QL] at h;obtain ⟨rfl,rfl⟩:=h;exact key hg
       . split at h
         . simp only [QD,QL] at h;obtain ⟨s3,h3,rfl,rfl⟩:=h;obtain ⟨D,obs,k1,k2⟩:=key hg
           exact ⟨{ own:=some (s3.st nt) },_,rfl,λp hp=>by
            rw [QS.1 hp]
            exact (Fy hT k1 k2).weak (Akx h3)⟩
         . cases h
     . cases h
   . cases h
 . split at h
   . rename_i q hq;obtain rfl:=QA h
     exact ⟨{ own:=some (s'.st nt) },_,rfl,λp hp=>by rw [QS.1 hp];exact Ado hT hq hg⟩
   . exact ⟨{ own:=some (s'.st nt) },_,rfl,λp hp=>by rw [QS.1 hp];exact Aky hT h hg⟩
theorem Abc (hT:Ay P T) {K:Ah} {A:OA} {o:Oper} {s:St3} {nt:Nat} {k:St3->Option α} {r:α} (h:Re T K A o s k=some r) (hE:A.S P) :
  ∃ s' D obs,Eh P T K o D (s.st nt)=some (s'.st nt,obs)/\(∀ p ∈ obs,p)/\k s'=some r:=by
 unfold Re at h;split at h
 . rename_i E hal;exact Wh h (hE.2.2 E (Aki hal))
 split at h
 . rename_i E hent;split at h
   . rename_i g x hc
     cases g with
     | false=>cases h
     | true =>
      simp only [cond,ob] at h;split at h
      . rename_i y hm;split at h
        . rename_i s' hp;obtain ⟨obs,h1,h2⟩:=A5d (T:=T) (nt:=nt) hc hm (hE.1 E hent);have:=Rj (nt:=nt) hp;rw [A8o] at this;obtain ⟨D',obs',h3,h4⟩:=T5 h2 this;exact ⟨s',D',obs',h3,h4 h1,h⟩
        . cases h
      . cases h
   . split at h
     . rename_i F hF;exact Wh h (hE.2.1 F hF)
     . cases h
 split at h
 . rename_i E hent;exact Wh h (hE.2.1 E hent)
 . split at h
   . rename_i g s' hq
     cases g with
     | false=>cases h
     | true =>
      obtain ⟨D,obs,h1,h2⟩:=Akc (nt:=nt) hT hq rfl;exact ⟨s',D,obs,h1,h2,h⟩
   . cases h
theorem B15 (hT:Ay P T) {K:Ah} {A:OA} {o:Oper} {s:St3} {nt:Nat} {k:St3->Option α} {r:α} (h:T1 T K A o s k=some r) (hE:A.S P) :
  ∃ s' D obs,Eh P T K o D (s.st nt)=some (s'.st nt,obs)/\(∀ p ∈ obs,p)/\k s'=some r:=by
 unfold T1 at h;split at h
 . obtain ⟨s',h1,h2⟩:=Bbe (nt:=nt) hT h
   exact ⟨s',{ own:=some (s'.st nt) },_,rfl,λp hp=>by rw [QS.1 hp];exact h1,h2⟩
 . split at h
   . exact Abc hT h hE
   . obtain ⟨s1,D,obs,h1,h2,h3⟩:=Abc (nt:=nt) hT h hE;split at h3
     . rename_i g s2 hs
       cases g with
       | false=>cases h3
       | true=>exact ⟨s2,{ own:=some (s2.st nt) },_,rfl,λp hp=>by rw [QS.1 hp];exact (Fy hT h1 h2).weak (B17 hs rfl),h3⟩
     . cases h3
theorem Atv {K:Ah} {A:OA} {o:Oper} {s:St3} {nt:Nat} {k:St3->Option α} {r:α} (h:T1 T K A o s k=some r) (hq:A.quiet T o s=true) (hE:A.S P) :
  ∃ t s' D x obs,o.dst=some t/\Nat.blt t K.N=true/\quiet P T o D (s.st nt)=some (x,obs)/\(∀ p ∈ obs,p)/\k s'=some r/\s'.st nt={ s.st nt with slots:=Aw t x (s.st nt).slots }:=by
 unfold OA.quiet at hq;simp only [QF] at hq;obtain ⟨⟨⟨⟨⟨⟨_,hqt⟩,hqa⟩,hqb,hqc⟩,hq0⟩,hq1⟩,hq2⟩:=hq
 have putI:∀ {s s':St3} {y:SV},s.put3 K o.dst y=some s'->∃ t,o.dst=some t/\Nat.blt t K.N=true/\s'.st nt={ s.st nt with slots:=Aw t (y.s (A6 s.boxes)) (s.st nt).slots }:=by
  intro s s' y hp;unfold St3.put3 at hp
  cases hd:o.dst with
  | none=>rw [hd] at hq1;cases hq1
  | some t =>
   rw [hd] at hp;simp only at hp
   cases hb:Nat.blt t K.N with
   | false=>rw [hb] at hp;cases hp
   | true =>
    rw [hb] at hp;obtain rfl:=QA hp
    exact ⟨t,rfl,hb,by simp only [St3.st,Fi]⟩
 unfold T1 at h
 rw [show A.bor=none by simpa using hqb,show A.shut=none by simpa using hqc] at h
 simp only at h;unfold Re at h;split at h
 . rename_i E hal;rw [YR.1 hqa] at hal;cases hal
 split at h
 . rename_i E hent;split at h
   . rename_i g x hc
     cases g with
     | false=>cases h
     | true =>
      simp only [cond,ob] at h;split at h
      . rename_i y hm;split at h
        . rename_i s' hp;obtain ⟨obs,h1,h2⟩:=A5d (T:=T) (nt:=nt) hc hm (hE.1 E hent);obtain ⟨t,p1,p2,p3⟩:=putI hp;rw [A8o] at p3;exact ⟨t,s',_,_,obs,p1,p2,h2,h1,h,p3⟩
        . cases h
      . cases h
   . split at h
     . rename_i F hF;rw [hF] at hq0;cases hq0
     . cases h
 split at h
 . rename_i E hB;rw [hB] at hq0;cases hq0
 . rename_i hent _ _;rw [hent] at hq2;simp only at hq2
   cases hcq:Ln T A.sh o s with
   | none=>rw [hcq] at hq2;cases hq2
   | some q =>
    rw [hcq] at hq2;simp only at hq2
    have he:q.eff = .none:=by
     cases e:q.eff <;> first | rfl | (rw [e] at hq2;cases hq2)
    have htr:A.tr=none:=by
     cases e:A.tr with
     | none=>rfl
     | some _=>rw [e] at hqt;cases hqt
    unfold A0r at h;rw [hcq] at h;simp only [he,St3.eff3,htr] at h;split at h
    . rename_i g s' hb;split at hb
      . rename_i s2 hp;simp only [QC,QL] at hb;obtain ⟨hg,rfl⟩:=hb
        cases g with
        | false=>cases h
        | true =>
         simp only [cond] at h;obtain ⟨D,obs,h1,h2⟩:=Apj (P:=P) (nt:=nt) hcq hg he;obtain ⟨t,p1,p2,p3⟩:=putI hp;exact ⟨t,_,D,_,obs,p1,p2,h2,h1,h,p3⟩
      . cases hb
    . cases h
theorem Abf {s:St3} {nt t:Nat} {b:Bool} (h:A2 t s.slots=some (.d .bool b)):A2 t (s.st nt).slots=some (.v (.one (.i (.lit (.bool b))))):=by
 simp only [St3.st,Aq,h];rfl
theorem Ka {s:St3} {nt t:Nat} {b:Bool} (h:A2 t s.slots=some (.d .bool b)):(({ s with slots:=upd t (.d .bool b) s.slots }:St3).st nt)=s.st nt:=by
 simp only [St3.st];rw [Atd rfl h]
theorem Abp {ops:List Oper} {o:Oper} {s:St3} {nt:Nat} {f g:St3->Option α} {r:α} (h:Xf ops o s f g=some r) :
  ∃ s0,s0.st nt=s.st nt/\((Hq (s.st nt) ops o=some true/\f s0=some r) \/ (Hq (s.st nt) ops o=some false/\g s0=some r)):=by
 unfold Xf at h;unfold Hq;split at h
 . rename_i hg;rw [hg]
   exact ⟨s,rfl,.inl ⟨by first | rfl | trivial,h⟩⟩
 . rename_i j want hg;rw [hg];simp only;split at h
   . rename_i p hp;simp only [hp];split at h
     . rename_i t ht;simp only [ht];split at h
       . rename_i b hl;simp only [Abf (nt:=nt) hl]
         cases b <;> cases want <;> simp only [cond] at h
         . exact ⟨_,Ka hl,.inl ⟨by first | rfl | trivial,h⟩⟩
         . exact ⟨_,Ka hl,.inr ⟨by first | rfl | trivial,h⟩⟩
         . exact ⟨_,Ka hl,.inr ⟨by first | rfl | trivial,h⟩⟩
         . exact ⟨_,Ka hl,.inl ⟨by first | rfl | trivial,h⟩⟩
       . rename_i hl
         have:A2 t (s.st nt).slots=some (.tup []):=by
          simp only [St3.st,Aq,hl];rfl
         simp only [this]
         exact ⟨s,rfl,.inr ⟨by first | rfl | trivial,h⟩⟩
       . cases h
     . cases h
   . cases h
theorem Afa {K:Ah} {o:Oper} {s:St3} {nt:Nat} {k:St3->Option α} {r:α} (h:Ae6 K o s k=some r):∃ s',(s.st nt).putD K o.dst (.tup [])=some (s'.st nt)/\k s'=some r:=by
 unfold Ae6 at h;split at h
 . rename_i s' hp;exact ⟨s',Rj (nt:=nt) hp,h⟩
 . cases h
theorem J9 {K:Ah} {ops:List Oper} {Ds Ds':List (Nat × Fw)}:∀ (l:List (Nat × Oper)) (s:St),(∀ p ∈ l,A2 p.1 Ds=A2 p.1 Ds')->Dc P T K ops Ds l s=Dc P T K ops Ds' l s
 | [],_,_=>rfl
 | (i,o)::r,s,h=>by
  have h0:=h (i,o) (by simp)
  have ih:=λs=>J9 (K:=K) (ops:=ops) r s λp hp=>h p (by simp [hp])
  simp only [Dc];rw [show A2 i Ds=A2 i Ds' from h0];simp only [ih]
theorem J8 {K:Ah} {ops:List Oper} {Ds Ds':List (Nat × Fw)}:∀ (l:List (Nat × Oper)) (xs:List (Nat × Nat × S)) (s:St),(∀ p ∈ l,A2 p.1 Ds=A2 p.1 Ds')->Gd P T K ops Ds l xs s=Gd P T K ops Ds' l xs s
 | [],_,_,_=>rfl
 | (i,o)::r,xs,s,h=>by
  have h0:=h (i,o) (by simp)
  have ih:=λxs s=>J8 (K:=K) (ops:=ops) r xs s λp hp=>h p (by simp [hp])
  simp only [Gd];rw [show A2 i Ds=A2 i Ds' from h0];simp only [ih]
theorem Bb {β:Type} {i j:Nat} {x:β} {l:List (Nat × β)} (h:i ≠ j):A2 j ((i,x)::l)=A2 j l:=by
 simp only [A2]
 have:Nat.beq i j=false:=by cases e:Nat.beq i j with | false=>rfl | true=>exact absurd (QB e) h
 rw [this];rfl
theorem Bs {β:Type} {i:Nat} {x:β} {l:List (Nat × β)}:A2 i ((i,x)::l)=some x:=by
 simp only [A2,XZ];rfl
theorem Za (hT:Ay P T) {K:Ah} {ops:List Oper} {A:List (Nat × OA)} {nt:Nat} (hE:∀ i a,A2 i A=some a->a.S P):∀ (l:List (Nat × Oper)) (s:St3) (k:St3->Option α) (r:α),(l.map (·.1)).Nodup->Id T K ops A l s k=some r ->
  ∃ s' Ds obs,k s'=some r/\Dc P T K ops Ds l (s.st nt)=some (s'.st nt,obs) /\ ∀ p ∈ obs,p
 | [],s,k,r,_,h=>⟨s,[],[],h,rfl,by simp⟩
 | (i,o)::l,s,k,r,hn,h=>by
  simp only [QT,KZ] at hn;simp only [Id] at h;obtain ⟨s0,fz,ob0,h1,h2,h3,_⟩:=Qy (nt:=nt) h;obtain ⟨s00,e1,hg⟩:=Abp (nt:=nt) h3
  have hEi:((A2 i A).getD {}).S P:=by
   cases hl:A2 i A with
   | none=>exact ⟨(λE h=>by cases h),(λE h=>by cases h),(λE h=>by cases h)⟩
   | some a=>exact hE i a hl
  rcases hg with ⟨g1,g2⟩ | ⟨g1,g2⟩
  . obtain ⟨s1,D,ob1,h4,h5,h6⟩:=B15 (P:=P) (nt:=nt) hT g2 hEi;obtain ⟨s',Ds,ob2,h7,h8,h9⟩:=Za hT hE l s1 k r hn.2 h6;refine ⟨s',(i,{ D with fz:=fz })::Ds,ob0++(ob1++ob2),h7,?_,λp hp=>?_⟩
    . simp only [Dc,Bs,YL,h1];rw [e1] at h4;simp only [Z7,g1,B16,h4]
      rw [J9 (Ds':=Ds) l _ λp hp=>Bb λe=>hn.1 (by rw [e];exact ZK.2 ⟨p,hp,rfl⟩),h8]
    . rcases QE.1 hp with hp | hp
      . exact h2 p hp
      . rcases QE.1 hp with hp | hp
        . exact h5 p hp
        . exact h9 p hp
  . obtain ⟨s1,h4,h6⟩:=Afa (nt:=nt) g2;obtain ⟨s',Ds,ob2,h7,h8,h9⟩:=Za hT hE l s1 k r hn.2 h6;refine ⟨s',(i,{ fz:=fz })::Ds,ob0++([]++ob2),h7,?_,λp hp=>?_⟩
    . simp only [Dc,Bs,YL,h1];rw [e1] at h4;simp only [Z7,g1,h4,QV]
      rw [J9 (Ds':=Ds) l _ λp hp=>Bb λe=>hn.1 (by rw [e];exact ZK.2 ⟨p,hp,rfl⟩),h8]
    . rcases QE.1 hp with hp | hp
      . exact h2 p hp
      . exact h9 p (by simpa using hp)
theorem Abi {β:Type} {i:Nat} {d:β} {Ds:List (Nat × β)} {ks:List Nat} (h:∀ j,(A2 j Ds).isSome=true ↔ j ∈ ks):∀ j,(A2 j ((i,d)::Ds)).isSome=true ↔ j ∈ i::ks:=by
 intro j;by_cases e:i=j
 . subst e;rw [Bs];simp
 . rw [Bb e,h j];simp [Ne.symm e]
theorem Vq {β:Type} {j:Nat}:∀ {a b:List (Nat × β)},(A2 j a).isSome=true->A2 j (a++b)=A2 j a
 | [],_,h=>by cases h
 | (i,x)::r,b,h=>by
  by_cases e:i=j
  . subst e;rw [YA,Bs,Bs]
  . rw [Bb e] at h;rw [YA,Bb e,Bb e,Vq h]
theorem Vr {β:Type} {j:Nat}:∀ {a b:List (Nat × β)},A2 j a=none->A2 j (a++b)=A2 j b
 | [],_,_=>rfl
 | (i,x)::r,b,h=>by
  by_cases e:i=j
  . subst e;rw [Bs] at h
    cases h
  . rw [Bb e] at h;rw [YA,Bb e,Vr h]
theorem A8t {K:Ah} {ops:List Oper} {A:List (Nat × OA)} {nt:Nat} (hE:∀ i a,A2 i A=some a->a.S P):∀ (l:List (Nat × Oper)) (s:St3) (k:St3->Option α) (r:α),(l.map (·.1)).Nodup->Afn T K ops A l s k=some r ->
  ∃ s' Ds obs,k s'=some r/\(∀ xs,∃ ys,Gd P T K ops Ds l xs (s.st nt)=some (ys,s'.st nt,obs))/\(∀ p ∈ obs,p) /\ ∀ j,(A2 j Ds).isSome=true ↔ j ∈ l.map (·.1)
 | [],s,k,r,_,h=>⟨s,[],[],h,λxs=>⟨xs,rfl⟩,by simp,λj=>by simp [A2]⟩
 | (i,o)::l,s,k,r,hn,h=>by
  simp only [QT,KZ] at hn;simp only [Afn] at h
  have hEi:((A2 i A).getD {}).S P:=by
   cases hl:A2 i A with
   | none=>exact ⟨(λE h=>by cases h),(λE h=>by cases h),(λE h=>by cases h)⟩
   | some a=>exact hE i a hl
  obtain ⟨s00,e1,hg⟩:=Abp (nt:=nt) h;rcases hg with ⟨g1,g2⟩ | ⟨g1,g2⟩
  . cases hq:OA.quiet T ((A2 i A).getD {}) o s00 with
    | false=>rw [hq] at g2;cases g2
    | true =>
     rw [hq] at g2;simp only [cond] at g2;obtain ⟨t,s1,D,x,ob1,d1,d2,d3,d4,d5,d6⟩:=Atv (P:=P) (nt:=nt) g2 hq hEi;obtain ⟨s',Ds,ob2,h7,h8,h9,h10⟩:=A8t hE l s1 k r hn.2 d5;refine ⟨s',(i,D)::Ds,ob1++ob2,h7,λxs=>?_,λp hp=>?_,Abi h10⟩
     . obtain ⟨ys,h8⟩:=h8 ((i,t,x)::xs);refine ⟨ys,?_⟩;rw [e1] at d3 d6;simp only [Gd,d1,Bs,YL,T6,g1,d3,d2,cond]
       rw [<- d6,J8 (Ds':=Ds) l _ _ λp hp=>Bb λe=>hn.1 (by rw [e];exact ZK.2 ⟨p,hp,rfl⟩),h8]
     . rcases QE.1 hp with hp | hp
       . exact d4 p hp
       . exact h9 p hp
  . cases hd:o.dst with
    | none=>rw [hd] at g2;cases g2
    | some t =>
     rw [hd] at g2;simp only [Option.isSome_some,cond] at g2;obtain ⟨s1,h4,h6⟩:=Afa (nt:=nt) g2;rw [hd] at h4;simp only [St.putD] at h4
     cases hb:Nat.blt t K.N with
     | false=>rw [hb] at h4;cases h4
     | true =>
      rw [hb] at h4;simp only [cond,QC] at h4;obtain ⟨s',Ds,ob2,h7,h8,h9,h10⟩:=A8t hE l s1 k r hn.2 h6
      refine ⟨s',(i,{})::Ds,[]++ob2,h7,λxs=>?_,λp hp=>h9 p (by simpa using hp),Abi h10⟩
      obtain ⟨ys,h8⟩:=h8 ((i,t,.tup [])::xs);refine ⟨ys,?_⟩;rw [e1] at h4;simp only [Gd,hd,Bs,YL,T6,g1,hb,cond]
      rw [h4,J8 (Ds':=Ds) l _ _ λp hp=>Bb λe=>hn.1 (by rw [e];exact ZK.2 ⟨p,hp,rfl⟩),h8]
theorem Fq (l:List Oper):((A7 l).map (·.1)).Nodup:=by
 have:(A7 l).map (·.1)=List.range l.length:=by
  apply JS;intro j;simp only [A7,ZX,QP,YW];by_cases hj:j<l.length
  . simp [hj]
  . simp [hj]
 rw [this];exact Qba
theorem B73 (hT:Ay P T) (hfol:P.follows .mixedOrders=true) {K:Ah} {A:RA} {id:Nat} {ops:Array Oper} {draw:Bool} {s:St3} {nt:Nat} {k:St3->Option α} {r:α}
  (hE:∀ i a,A2 i A.ops=some a->a.S P) (h:B1c P T K A ops draw s k=some r) :
  ∃ s',Code.Den P K (.region id ops draw) (s.st nt) .normal (s'.st nt)/\k s'=some r:=by
 unfold B1c at h
 cases draw with
 | true =>
  simp only [cond] at h
  cases hok:Em ops A.m with
  | false=>rw [hok] at h;cases h
  | true =>
   rw [hok] at h;obtain ⟨s0,fz,ob0,h1,h2,h3,_⟩:=Qy (nt:=nt) h;obtain ⟨s1,Ds1,ob1,h4,h5,h6,h6'⟩:=A8t (P:=P) (nt:=nt) hE _ s0 _ _ ((Fq ops.toList).sublist ((List.take_sublist _ _).map _)) h3;obtain ⟨s2,Ds2,ob2,h7,h8,h9⟩:=Za (P:=P) (nt:=nt) hT hE _ s1 _ _ ((Fq ops.toList).sublist ((List.drop_sublist _ _).map _)) h4;refine ⟨s2,?_,h7⟩;have hnd:=Fq ops.toList
   have e1:∀ p ∈ (A7 ops.toList).take A.m,A2 p.1 (Ds1++Ds2)=A2 p.1 Ds1:=λp hp=>by
    have:=(h6' p.1).2 (ZK.2 ⟨p,hp,rfl⟩);exact Vq this
   have e2:∀ p ∈ (A7 ops.toList).drop A.m,A2 p.1 (Ds1++Ds2)=A2 p.1 Ds2:=λp hp=>by
    refine Vr ?_
    cases hl:A2 p.1 Ds1 with
    | none=>rfl
    | some d =>
     exfalso
     have hm:=(h6' p.1).1 (by rw [hl];rfl)
     have hd:p.1 ∈ ((A7 ops.toList).drop A.m).map (·.1):=ZK.2 ⟨p,hp,rfl⟩;rw [<- JC A.m (A7 ops.toList),YT,List.nodup_append] at hnd;exact hnd.2.2 _ hm _ hd rfl
   obtain ⟨ys,h5⟩:=h5 []
   have:Wq P T K ops A.m (Ds1++Ds2) fz (s.st nt)=some (s2.st nt,(P.follows .mixedOrders=true)::(ob0++(ob1++ob2))):=by
    unfold Wq;rw [hok];simp only [cond,h1];rw [J8 _ _ _ e1,h5];simp only;rw [J9 _ _ e2,h8]
   refine Aff hT this λp hp=>?_;rcases QW.1 hp with rfl | hp
   . exact hfol
   . rcases QE.1 hp with hp | hp
     . exact h2 p hp
     . rcases QE.1 hp with hp | hp
       . exact h6 p hp
       . exact h9 p hp
 | false =>
  simp only [cond] at h;obtain ⟨s2,Ds2,ob2,h7,h8,h9⟩:=Za (P:=P) (nt:=nt) hT hE _ s _ _ (Fq ops.toList) h;refine ⟨s2,?_,h7⟩
  have:Ls P T K ops { ds:=Ds2,drop:=[] } (s.st nt)=some ((s2.st nt).forget [],ob2):=by
   unfold Ls;simp only [h8]
  have:=Afk (id:=id) hT this h9
  have e:(s2.st nt).forget []=s2.st nt:=by
   have:Ael [] (s2.st nt).slots=(s2.st nt).slots:=Qab.2 λ_ _=>rfl;unfold St.forget;rw [this]
  rw [e] at this;exact this
end Go.Ev
