/- DERIVED. The evaluator over shapes of data: calls, trees, all paths. -/
import Derived.Test.YtdheaaapdlekdaaGreatEc

set_option linter.all false
set_option linter.unusedVariables false
set_option linter.unusedSimpArgs false

/- DERIVED. What is settled, and results, over shapes; templates of states. -/
namespace Go.Ev
open Go
variable {P:Program} {T:Ty}
theorem A43 {bs:List (Nat × B3)} {t:Sh} {v:SV} {g:Bool} {x:t.den} {ks:List Nat} (ht:t.one=true) (h:Gi bs t v=some (g,x,ks)) (hg:g=true) :
  v.cellB=true/\(∃ ob,Qd (A1 · (Am (B3.box (A5 bs)) bs)) (v.c (A5 bs)) (.i (hd1 (t.cells x)))=some (ob,ks) /\ ∀ p ∈ ob,p) /\ ∀ k ∈ ks,k<1000/\(A1 k bs).isSome=true:=by
 unfold Gi at h;split at h
 . rename_i hh;split at h
   . rename_i t0;split at h
     . rename_i e sh fz xs hl
       cases hk:Nat.blt hh 1000 with
       | false=>rw [hk] at h;cases h
       | true =>
        rw [hk] at h;simp only [cond,QI,QL] at h;obtain ⟨y,hy,rfl,rfl,rfl⟩:=h;obtain ⟨rfl,rfl⟩:=F0 hy
        have hle:A5 bs hh=xs.length:=by simp [A5,hl,B3.len]
        refine ⟨rfl,⟨[0+A5 bs hh<=(xs.map λy=>(sh.cells y).map C.i).length,((xs.map λy=>(sh.cells y).map C.i).drop 0).take (A5 bs hh)=(xs.map sh.cells).map (·.map .i)],?_,?_⟩,?_⟩
        . simp only [Qd,SV.c,Ch,hl,QV,B3.box,Sh.cells,hd1,YC,ZW,XR,ZO,cond]
        . simp only [QX,YK,or_false,forall_eq_or_imp,forall_eq]
          refine ⟨by simp [hle],?_⟩
          rw [ZR,hle,XS (by simp),XC]
          rfl
        . intro k hk';simp only [QU] at hk';subst hk'
          exact ⟨by simpa [XD] using hk,by rw [hl];rfl⟩
     . cases h
   . cases h
 . rename_i hh off len;split at h
   . rename_i t0;split at h
     . rename_i e sh fz xs hl
       cases hk:Nat.blt hh 1000 with
       | false=>rw [hk] at h;cases h
       | true =>
        rw [hk] at h;simp only [cond,QI,QL] at h;obtain ⟨y,hy,rfl,rfl,rfl⟩:=h;obtain ⟨rfl,rfl⟩:=F0 hy;simp only [QO] at hg;refine ⟨rfl,⟨[off+len<=(xs.map λy=>(sh.cells y).map C.i).length,((xs.map λy=>(sh.cells y).map C.i).drop off).take len=(((xs.drop off).take len).map sh.cells).map (·.map .i)],?_,?_⟩,?_⟩
        . simp only [Qd,SV.c,Ch,hl,QV,B3.box,Sh.cells,hd1,YC,ZW,XR,ZO,cond]
        . simp only [QX,YK,or_false,forall_eq_or_imp,forall_eq]
          refine ⟨by simpa using hg,?_⟩
          rw [XC,JP,KM];rfl
        . intro k hk';simp only [QU] at hk';subst hk'
          exact ⟨by simpa [XD] using hk,by rw [hl];rfl⟩
     . cases h
   . cases h
 . rename_i cs;split at h
   . rename_i t0
     cases hd:cs.all SV.isD with
     | false=>rw [hd] at h;cases h
     | true =>
      rw [hd] at h;simp only [cond,QI,QL] at h;obtain ⟨y,hy,rfl,rfl,rfl⟩:=h;obtain ⟨_,_,h3,_⟩:=Et hy
      refine ⟨hd,⟨[C.i (.ref 0 (cs.map SV.i0))=C.i (.ref 0 (t0.cells y))],rfl,by simp [h3 hd]⟩,by simp⟩
   . cases h
 . rename_i h1 h2 h3;rw [ht] at h;simp only [cond,QI,QL] at h;obtain ⟨y,hy,rfl,rfl,rfl⟩:=h;obtain ⟨q1,ob,q2,q3⟩:=Wu (L:=A5 bs) ht hy
   refine ⟨U5 q1,⟨ob,?_,q3⟩,by simp⟩
   have hI:Dc (v.c (A5 bs))=true:=Qo (Afq q1);unfold Qd;split
   . rename_i he _;rw [he] at hI;cases hI
   . rw [q2];rfl
def Ts (bs:List (Nat × B3)) (cs:List SV) (ds:List I) (ks:List Nat):Prop :=
 (∃ ob,Gh (A1 · (Am (B3.box (A5 bs)) bs)) (cs.map (SV.c (A5 bs))) (ds.map .i)=some (ob,ks) /\ ∀ p ∈ ob,p) /\ ∀ k ∈ ks,k<1000/\(A1 k bs).isSome=true
theorem Ts.app {bs:List (Nat × B3)}:∀ {cs cs':List SV} {ds ds':List I} {ks ks':List Nat},Ts bs cs ds ks->Ts bs cs' ds' ks'->Ts bs (cs++cs') (ds++ds') (ks++ks')
 | [],cs',[],ds',ks,ks',h,h'=>by
  obtain ⟨⟨ob,h,_⟩,_⟩:=h;simp only [XN,Gh,QF,QL] at h;obtain ⟨_,rfl⟩:=h;exact h'
 | [],cs',d::ds,ds',_,_,h,_=>by obtain ⟨⟨ob,h,_⟩,_⟩:=h;simp [Gh] at h
 | c::cs,cs',[],ds',_,_,h,_=>by obtain ⟨⟨ob,h,_⟩,_⟩:=h;simp [Gh] at h
 | c::cs,cs',d::ds,ds',ks,ks',h,h'=>by
  obtain ⟨⟨ob,h,ho⟩,hk⟩:=h;simp only [QT,Gh] at h;split at h
  . rename_i p k q l h1 h2;simp only [QF,QL] at h;obtain ⟨rfl,rfl⟩:=h;obtain ⟨⟨ob2,h3,ho2⟩,hk2⟩:=Ts.app (cs:=cs) (ds:=ds) (ks:=l) ⟨⟨q,h2,λx hx=>ho x (QG.2 (.inr hx))⟩,λk hk'=>hk k (QG.2 (.inr hk'))⟩ h';refine ⟨⟨p++ob2,?_,λx hx=>?_⟩,λj hj=>?_⟩
    . simp only [YD,QT,Gh,h1,h3,ZP]
    . rcases QG.1 hx with hx | hx
      . exact ho x (QG.2 (.inl hx))
      . exact ho2 x hx
    . rw [ZP] at hj;rcases QG.1 hj with hj | hj
      . exact hk j (QG.2 (.inl hj))
      . exact hk2 j hj
  . cases h
theorem Bhg {bs:List (Nat × B3)}:∀ (t:Sh) (cs:List SV) (g:Bool) (x:t.den) (ks:List Nat) (r:List SV),t.impB bs cs=some (g,x,ks,r)->g=true->∃ pre,cs=pre++r/\Ts bs pre (t.cells x) ks/\pre.all SV.cellB=true:=by
 have cell:∀ (t:Sh) (c:SV) (r q:List SV) (g:Bool) (x:t.den) (ks:List Nat),t.one=true->(Gi bs t c).map (λp=>(p.1,p.2.1,p.2.2,r))=some (g,x,ks,q)->g=true->∃ pre,c::r=pre++q/\Ts bs pre (t.cells x) ks/\pre.all SV.cellB=true:=by
  intro t c r q g x ks ht h hg;simp only [QI,QL] at h;obtain ⟨⟨g',x',k'⟩,h1,rfl,rfl,rfl,rfl⟩:=h;obtain ⟨hc,⟨ob,h2,h3⟩,h4⟩:=A43 ht h1 hg
  refine ⟨[c],rfl,⟨⟨ob++[],?_,by simpa using h3⟩,h4⟩,by simp [hc]⟩
  rw [Wq t x' ht];simp only [QT,XN,Gh,h2,XT]
 intro t
 induction t with
 | pair a b iha ihb =>
  intro cs g x ks r h hg;simp only [Sh.impB] at h;split at h
  . rename_i g1 y k1 q h1;split at h
    . rename_i g2 z k2 q' h2;simp only [QF,QL] at h;obtain ⟨rfl,rfl,rfl,rfl⟩:=h;simp only [QH] at hg;obtain ⟨p1,e1,c1,i1⟩:=iha _ _ _ _ _ h1 hg.1;obtain ⟨p2,e2,c2,i2⟩:=ihb _ _ _ _ _ h2 hg.2
      exact ⟨p1++p2,by rw [e1,e2,ZP],c1.app c2,by simp [i1,i2]⟩
    . cases h
  . cases h
 | st t ih=>intro cs g x ks r h hg;exact ih _ _ _ _ _ h hg
 | unit =>
  intro cs g x ks r h _;simp only [Sh.impB,QF,QL] at h;obtain ⟨_,_,rfl,rfl⟩:=h
  exact ⟨[],rfl,⟨⟨[],rfl,by simp⟩,by simp⟩,rfl⟩
 | int k=>intro cs g x ks r h hg;cases cs with | nil=>simp [Sh.impB] at h | cons c cs=>exact cell _ _ _ _ _ _ _ rfl h hg
 | bool=>intro cs g x ks r h hg;cases cs with | nil=>simp [Sh.impB] at h | cons c cs=>exact cell _ _ _ _ _ _ _ rfl h hg
 | str=>intro cs g x ks r h hg;cases cs with | nil=>simp [Sh.impB] at h | cons c cs=>exact cell _ _ _ _ _ _ _ rfl h hg
 | nil=>intro cs g x ks r h hg;cases cs with | nil=>simp [Sh.impB] at h | cons c cs=>exact cell _ _ _ _ _ _ _ rfl h hg
 | fn f=>intro cs g x ks r h hg;cases cs with | nil=>simp [Sh.impB] at h | cons c cs=>exact cell _ _ _ _ _ _ _ rfl h hg
 | sl t _=>intro cs g x ks r h hg;cases cs with | nil=>simp [Sh.impB] at h | cons c cs=>exact cell _ _ _ _ _ _ _ rfl h hg
 | ref t _=>intro cs g x ks r h hg;cases cs with | nil=>simp [Sh.impB] at h | cons c cs=>exact cell _ _ _ _ _ _ _ rfl h hg
 | clo f c _=>intro cs g x ks r h hg;cases cs with | nil=>simp [Sh.impB] at h | cons v cs=>exact cell _ _ _ _ _ _ _ rfl h hg
theorem Hq {L:Nat->Nat} {v:SV} (h:v.cellB=true):v.s L = .v (.one (v.c L))/\v.v L = .one (v.c L):=by cases v <;> first | exact ⟨rfl,rfl⟩ | cases h
theorem Up {bs:List (Nat × B3)} {t:Sh} {v:SV} {g:Bool} {x:t.den} {ks:List Nat} (h:A41 bs t v=some (g,x,ks)) (hg:g=true) :
  v.s (A5 bs) = .v (v.v (A5 bs))/\(∃ ob,M3 (A1 · (Am (B3.box (A5 bs)) bs)) (v.v (A5 bs)) (t.v x)=some (ob,ks) /\ ∀ p ∈ ob,p) /\ ∀ k ∈ ks,k<1000/\(A1 k bs).isSome=true:=by
 unfold A41 at h
 cases ht:t.one with
 | true =>
  rw [ht] at h;obtain ⟨hc,⟨ob,h1,h2⟩,h3⟩:=A43 ht h hg;obtain ⟨e1,e2⟩:=Hq (L:=A5 bs) hc
  refine ⟨by rw [e1,e2],⟨ob,?_,h2⟩,h3⟩
  simp only [e2,Sh.v,ht,cond,M3,h1]
 | false =>
  rw [ht] at h;simp only [cond] at h;split at h
  . rename_i cs;split at h
    . rename_i g1 y k1 hi;simp only [QF,QL] at h;obtain ⟨rfl,rfl,rfl⟩:=h;obtain ⟨pre,e,⟨⟨ob,h1,h2⟩,h3⟩,_⟩:=Bhg _ _ _ _ _ _ hi hg;rw [XT] at e;subst e;refine ⟨rfl,⟨ob,?_,h2⟩,h3⟩;simp only [SV.v,Sh.v,ht,cond,M3,h1]
    . cases h
  . cases h
theorem A00 {bs:List (Nat × B3)} {L:Nat->Nat} {ks:List Nat} (h:∀ k ∈ ks,k<1000/\(A1 k bs).isSome=true):J2 (Am (B3.box L) bs) ks=true:=by
 unfold J2;refine QK.2 λk hk=>?_;obtain ⟨h1,h2⟩:=h k hk;rw [Au,KB,h2];simpa [XD] using h1
theorem Xm {s s':St3} {nt:Nat} {t:Nat} {sh:Sh} {g:Bool} (h:Ql s t sh=some (g,s')) (hg:g=true) :
  ∃ (x':V) (ob:List Prop),A1f (s.st nt) t x'=some (s'.st nt,ob) /\ ∀ p ∈ ob,p:=by
 unfold Ql at h;split at h
 . rename_i v hv;split at h
   . rename_i g1 x ks hc;simp only [QF,QL] at h;obtain ⟨rfl,rfl⟩:=h;obtain ⟨h1,⟨ob,h2,h3⟩,h4⟩:=Up hc hg;refine ⟨sh.v x,ob,?_,h3⟩
     have hl:A1 t (s.st nt).slots=some (.v (v.v (A5 s.boxes))):=by
      simp only [St3.st,Au,hv,QV,h1]
     have h2':M3 (A1 · (s.st nt).boxes) (v.v (A5 s.boxes)) (sh.v x)=some (ob,ks):=h2;have hz:J2 (s.st nt).boxes ks=true:=A00 h4;simp only [A1f,hl,h2',hz,cond,QF,QL,and_true];simp only [St3.st];congr 1
     . rw [E6,<- (La (L:=A5 s.boxes) sh x).2,Gs]
     . rw [E6];exact Iq _ _ _
   . cases h
 . cases h
inductive TS where
 | d (t:Sh)
 | ag (t:Sh)
 | k (v:SV)
 | hs (h:Nat)
@[reducible] def TS.den:TS->Type
 | .d t=>t.den
 | .ag t=>t.den
 | .k _=>Unit
 | .hs _=>Nat × Nat
def TS.enc:(t:TS)->t.den->SV
 | .d t,x=>.d t x
 | .ag t,x=>.agg (t.exp x)
 | .k v,_=>v
 | .hs h,x=>.hs h x.1 x.2
def SV.same:SV->SV->Bool
 | .hw h,.hw h'=>Nat.beq h h'
 | .hp h r c,.hp h' r' c'=>Nat.beq h h'&&Nat.beq r r'&&Nat.beq c c'
 | .dead,_=>true
 | .d t _,.d t' _=>(match t with
  | .nil=>true
  | .fn _=>true
  | _=>false)&&t.eqb t'
 | _,_=>false
def TS.dec:(t:TS)->SV->Option t.den
 | .d t,v=>match v with
  | .rf cs=>match t with
   | .ref t0=>bif cs.all SV.isD then t0.all false cs else none
   | _=>none
  | v=>bif t.one then v.as true t else none
 | .ag t,v=>match v with
  | .agg cs=>t.all true cs
  | _=>none
 | .k c,v=>bif c.same v then some () else none
 | .hs h,v=>match v with
  | .hs h' o l=>bif Nat.beq h h' then some (o,l) else none
  | _=>none
inductive TB where
 | arr (e:TypeId) (t:Sh) (fz:Bool)
 | var (e:TypeId) (hf fz:Bool) (cs:List TS)
 | tree (e:TypeId) (t:Sh) (fz:Bool)
@[reducible] def DL:List TS->Type
 | []=>Unit
 | t::r=>t.den × DL r
def M0:(l:List TS)->DL l->List SV
 | [],_=>[]
 | t::r,x=>t.enc x.1::M0 r x.2
def Ahs:(l:List TS)->List SV->Option (DL l)
 | [],[]=>some ()
 | t::r,v::vs=>match t.dec v,Ahs r vs with
  | some x,some xs=>some (x,xs)
  | _,_=>none
 | _,_=>none
@[reducible] def TB.den:TB->Type
 | .arr _ t _=>List t.den
 | .var _ _ _ cs=>DL cs
 | .tree _ t _=>List t.den
def TB.enc:(b:TB)->b.den->B3
 | .arr e t fz,xs=>.arr e t fz xs
 | .var e hf fz cs,xs=>.var e hf fz (M0 cs xs)
 | .tree e t fz,xs=>.tree e t fz xs
def TB.dec:(b:TB)->B3->Option b.den
 | .arr e t fz,b=>match b with
  | .arr e' t' fz' xs=>bif Nat.beq e e'&&(fz==fz') then (Sh.sl t').to (.sl t) xs else none
  | .rep e' fz' n cs=>bif Nat.beq e e'&&(fz==fz') then (t.all true cs).map λx=>List.replicate n x else none
  | _=>none
 | .var e hf fz cs,b=>match b with
  | .var e' hf' fz' vs=>bif Nat.beq e e'&&(hf==hf')&&(fz==fz')&&vs.all SV.cellB then (match Ahs cs vs with
   | some x=>bif (M0 cs x).all SV.cellB&&(!hf || (M0 cs x).all SV.imm) then some x else none
   | none=>none) else none
  | _=>none
 | .tree e t fz,b=>match b with
  | .tree e' t' fz' xs=>bif Nat.beq e e'&&(fz==fz') then (Sh.sl t').to (.sl t) xs else none
  | _=>none
@[reducible] def DK (β:Type) (den:β->Type):List (Nat × β)->Type
 | []=>Unit
 | (_,t)::r=>den t × DK β den r
def Asa:(l:List (Nat × TS))->DK TS TS.den l->List (Nat × SV)
 | [],_=>[]
 | (k,t)::r,x=>(k,t.enc x.1)::Asa r x.2
def Ahr:(l:List (Nat × TS))->List (Nat × SV)->Option (DK TS TS.den l)
 | [],[]=>some ()
 | (k,t)::r,(j,v)::vs=>bif Nat.beq k j then (match t.dec v,Ahr r vs with
  | some x,some xs=>some (x,xs)
  | _,_=>none) else none
 | _,_=>none
def Zo:(l:List (Nat × TB))->DK TB TB.den l->List (Nat × B3)
 | [],_=>[]
 | (k,t)::r,x=>(k,t.enc x.1)::Zo r x.2
def Aht:(l:List (Nat × TB))->List (Nat × B3)->Option (DK TB TB.den l)
 | [],[]=>some ()
 | (k,t)::r,(j,v)::vs=>bif Nat.beq k j then (match t.dec v,Aht r vs with
  | some x,some xs=>some (x,xs)
  | _,_=>none) else none
 | _,_=>none
structure Tm where
 slots:List (Nat × TS)
 boxes:List (Nat × TB):=[]
 drop:List Nat:=[]
 fz:List (Nat × Sh):=[]
@[reducible] def Tm.den (X:Tm):Type:=DK TS TS.den X.slots × DK TB TB.den X.boxes
def Tm.enc (X:Tm) (x:X.den):St3:=⟨Asa X.slots x.1,Zo X.boxes x.2⟩
def Xz:List (Nat × TS)->List (Nat × SV)->List (Nat × SV)
 | X,sl=>sl.filter λp=>X.any λq=>Nat.beq q.1 p.1
def Amg:List Nat->St3->Option St3
 | [],s=>some s
 | h::r,s=>bif Nat.blt h 1000&&s.clean h then Amg r { s with boxes:=M2 h s.boxes } else none
def Mn:List (Nat × Sh)->St3->Option St3
 | [],s=>some s
 | (t,sh)::r,s=>match A1 t s.slots with
  | some (.d _ _)=>Mn r s
  | _=>match Ql s t sh with
   | some (g,s1)=>bif g then Mn r s1 else none
   | none=>none
def Tm.dec1 (X:Tm) (s:St3):Option X.den :=
 match Amg X.drop { s with slots:=Xz X.slots s.slots } with
 | some s2=>match Ahr X.slots s2.slots,Aht X.boxes s2.boxes with
  | some x,some y=>some (x,y)
  | _,_=>none
 | none=>none
def Tm.dec (X:Tm) (s:St3):Option X.den :=
 match Mn X.fz s with
 | some s1=>X.dec1 s1
 | none=>none
end Go.Ev

/- DERIVED. Calls that are handed boxes or hand out boxes, over shapes. -/
namespace Go.Ev
open Go
variable {P:Program} {T:Ty}
inductive CK where
 | im (t:Sh)
 | own (e:TypeId) (t:Sh)
 | ptr (e:TypeId) (t:Sh)
 | back (k:Nat)
 | win (e:TypeId) (t:Sh)
 | tree (e:TypeId) (t:Sh)
 | emp (t:Sh)
 | vst (e:TypeId) (fs:List (Sh ⊕ Nat))
@[reducible] def DF:List (Sh ⊕ Nat)->Type
 | []=>Unit
 | .inl t::r=>t.den × DF r
 | .inr _::r=>DF r
def svF:(fs:List (Sh ⊕ Nat))->DF fs->List SV
 | [],_=>[]
 | .inl t::r,x=>.d t x.1::svF r x.2
 | .inr j::r,x=>.hw j::svF r x
@[reducible] def CK.den:CK->Type
 | .im t=>t.den
 | .own _ t=>List t.den
 | .ptr _ t=>t.den
 | .back _=>Unit
 | .win _ t=>List t.den × Nat × Nat
 | .tree _ t=>List t.den
 | .emp _=>Unit
 | .vst _ fs=>DF fs
@[reducible] def DC:List CK->Type
 | []=>Unit
 | [c]=>c.den
 | c::d::r=>c.den × DC (d::r)
inductive PK where
 | im (t:Sh)
 | one (c:CK)
 | mix (cs:List CK)
 | pst (e:TypeId) (gs:List CK)
@[reducible] def PK.den:PK->Type
 | .im t=>t.den
 | .one c=>c.den
 | .mix cs=>DC cs
 | .pst _ gs=>DC gs
@[reducible] def HP:List PK->Type
 | []=>Unit
 | [p]=>p.den
 | p::q::r=>p.den × HP (q::r)
def CK.sv (k:Nat):(c:CK)->c.den->SV
 | .im t,x=>.d t x
 | .own _ _,_=>.hw k
 | .ptr _ _,_=>.hp k 0 0
 | .back j,_=>.hw j
 | .win _ _,x=>.hs k x.2.1 x.2.2
 | .tree _ _,_=>.hw k
 | .emp t,_=>.d (.sl t) []
 | .vst _ _,_=>.hp k 0 0
def CK.bx (k:Nat):(c:CK)->c.den->List (Nat × B3)
 | .own e t,xs=>[(k,.arr e t false xs)]
 | .ptr e t,x=>[(k,.var e true false (t.exp x))]
 | .win e t,x=>[(k,.arr e t false x.1)]
 | .tree e t,xs=>[(k,.tree e t false xs)]
 | .vst e fs,x=>[(k,.var e false false (svF fs x))]
 | _,_=>[]
def I4 (k:Nat):(cs:List CK)->DC cs->List SV
 | [],_=>[]
 | [c],x=>[c.sv k x]
 | c::d::r,x=>c.sv k x.1::I4 (k+1) (d::r) x.2
def Jf (k:Nat):(cs:List CK)->DC cs->List (Nat × B3)
 | [],_=>[]
 | [c],x=>c.bx k x
 | c::d::r,x=>c.bx k x.1++Jf (k+1) (d::r) x.2
def PK.n:PK->Nat
 | .mix cs=>cs.length
 | .pst _ gs=>gs.length+1
 | _=>1
def PK.isIm:PK->Bool
 | .im _=>true
 | _=>false
def PK.sv (k:Nat):(p:PK)->p.den->SV
 | .im t,x=>t.sv x
 | .one c,x=>c.sv k x
 | .mix cs,x=>.agg (I4 k cs x)
 | .pst _ _,_=>.hp k 0 0
def PK.bx (k:Nat):(p:PK)->p.den->List (Nat × B3)
 | .im _,_=>[]
 | .one c,x=>c.bx k x
 | .mix cs,x=>Jf k cs x
 | .pst e gs,x=>(k,.var e false false (I4 (k+1) gs x))::Jf (k+1) gs x
def Cm (k:Nat):(ps:List PK)->HP ps->List SV
 | [],_=>[]
 | [p],x=>[p.sv k x]
 | p::q::r,x=>p.sv k x.1::Cm (k+p.n) (q::r) x.2
def E9 (k:Nat):(ps:List PK)->HP ps->List (Nat × B3)
 | [],_=>[]
 | [p],x=>p.bx k x
 | p::q::r,x=>p.bx k x.1++E9 (k+p.n) (q::r) x.2
def CK.owns (k:Nat):CK->List (Nat × CK)
 | .own e t=>[(k,.own e t)]
 | .ptr e t=>[(k,.ptr e t)]
 | .win e t=>[(k,.own e t)]
 | .tree e t=>[(k,.tree e t)]
 | .vst e fs=>[(k,.vst e fs)]
 | _=>[]
def Alz (k:Nat):List CK->List (Nat × CK)
 | []=>[]
 | c::r=>c.owns k++Alz (k+1) r
def Bby (k:Nat):List CK->List (Sh ⊕ Nat)
 | []=>[]
 | .im t::r=>.inl t::Bby (k+1) r
 | _::r=>.inr k::Bby (k+1) r
def PK.owns (k:Nat):PK->List (Nat × CK)
 | .im _=>[]
 | .one c=>c.owns k
 | .mix cs=>Alz k cs
 | .pst e gs=>(k,.vst e (Bby (k+1) gs))::Alz (k+1) gs
def Ar (k:Nat):List PK->List (Nat × CK)
 | []=>[]
 | p::r=>p.owns k++Ar (k+p.n) r
@[reducible] def DO:List (Nat × CK)->Type
 | []=>Unit
 | [p]=>p.2.den
 | p::q::r=>p.2.den × DO (q::r)
def bxO:(os:List (Nat × CK))->DO os->List (Nat × B3)
 | [],_=>[]
 | [p],x=>p.2.bx p.1 x
 | p::q::r,x=>p.2.bx p.1 x.1++bxO (q::r) x.2
@[reducible] def HR (rs:List PK):List (Nat × CK)->Type
 | []=>HP rs
 | p::r=>HP rs × DO (p::r)
def Q1 {rs:List PK}:{os:List (Nat × CK)}->HR rs os->HP rs
 | [],y=>y
 | _::_,y=>y.1
def Bfg {rs:List PK}:{os:List (Nat × CK)}->HR rs os->DO os
 | [],_=>()
 | _::_,y=>y.2
structure Ji where
 f:Nat
 ts:List PK
 rs:List PK
 mv:List Nat
def Hu (E:Ji) (x:HP E.ts):List (Nat × B3):=E9 1000 E.ts x
def Bd (E:Ji) (y:HR E.rs (Ar 1000 E.ts)):List (Nat × B3):=E9 0 E.rs (Q1 y)++bxO (Ar 1000 E.ts) (Bfg y)
def Ca (bs:List (Nat × B3)):List (Nat × Box):=Am (B3.box (A5 bs)) bs
def Ji.Den (P:Program) (E:Ji) (nt:Nat) (x:HP E.ts) (y:HR E.rs (Ar 1000 E.ts)):Prop :=
 Me P E.f nt E.mv (Ca (Hu E x)) ((Cm 1000 E.ts x).map (SV.v (A5 (Hu E x)))) ((Jo (Cm 0 E.rs (Q1 y))).s (A5 (Bd E y))) nt (Ca (Bd E y))
@[reducible] def HF (os:List (Nat × CK)):List (List PK)->Type
 | []=>Unit
 | [rs]=>HR rs os
 | rs::r::q=>HR rs os ⊕ HF os (r::q)
def Bs3 {A B α:Type} (z:A ⊕ B) (f:A->Option α) (g:B->Option α):Option α:=match z with
 | .inl a=>f a
 | .inr b=>g b
def M7 {α:Type} (os:List (Nat × CK)):(fs:List (List PK))->HF os fs->((rs:List PK)->HR rs os->Option α)->Option α
 | [],_,_=>none
 | [rs],y,k=>k rs y
 | rs::r::q,z,k=>Bs3 z (λy=>k rs y) (λz=>M7 os (r::q) z k)
def Ai3 (os:List (Nat × CK)):(fs:List (List PK))->HF os fs->((rs:List PK)->HR rs os->Prop)->Prop
 | [],_,_=>True
 | [rs],y,k=>k rs y
 | rs::_::_,.inl y,k=>k rs y
 | _::r::q,.inr z,k=>Ai3 os (r::q) z k
theorem Qe {α:Type} {os:List (Nat × CK)} {p:(rs:List PK)->HR rs os->Prop}:∀ {fs:List (List PK)} {z:HF os fs} {k:(rs:List PK)->HR rs os->Option α} {r:α},M7 os fs z k=some r->Ai3 os fs z p->∃ rs y,k rs y=some r/\p rs y
 | [],_,_,_,h,_=>by cases h
 | [rs],y,k,r,h,hp=>⟨rs,y,h,hp⟩
 | rs::_::_,.inl y,k,r,h,hp=>⟨rs,y,h,hp⟩
 | _::r::q,.inr z,k,_,h,hp=>Qe (fs:=r::q) h hp
structure Ent3 where
 f:Nat
 ts:List PK
 forms:List (List PK)
 m:HP ts->Option (HF (Ar 1000 ts) forms)
 mv:List Nat
def Ent3.Sound (P:Program) (E:Ent3):Prop:=∀ (nt:Nat) (x:HP E.ts) (z:HF (Ar 1000 E.ts) E.forms),E.m x=some z->Ai3 (Ar 1000 E.ts) E.forms z λrs y=>Ji.Den P ⟨E.f,E.ts,rs,E.mv⟩ nt x y
def Es (rn:List (Nat × Nat)) (k:Nat):Nat:=match A1 k rn with
 | some h=>h
 | none=>0
def M9:List (Nat × Nat)->Nat->Option Nat
 | [],_=>none
 | (k,h')::r,h=>bif Nat.beq h' h then some k else M9 r h
def Ge:List (Nat × Nat)->Bool
 | []=>true
 | (k,h)::r=>r.all (λp=>!Nat.beq p.1 k && !Nat.beq p.2 h)&&Ge r
def C6 {β:Type}:List (Nat × β)->List (Nat × Nat)->Bool
 | [],[]=>true
 | (k,_)::B,(k',_)::R=>Nat.beq k k'&&C6 B R
 | _,_=>false
def A27:List (Nat × B3)->List (Nat × Nat)->List (Nat × B3)->List (Nat × B3)
 | (_,b)::B,(_,h)::R,bs=>B2 h b (A27 B R bs)
 | _,_,bs=>bs
theorem Asu {a b:Nat} (h:Nat.beq a b=false):a ≠ b:=λe=>by subst e;simp at h
theorem Ac7 {a b:Nat} (h:a ≠ b):Nat.beq a b=false:=by cases hb:Nat.beq a b with | false=>rfl | true=>exact absurd (QD hb) h
theorem Nx {k h:Nat} {r:List (Nat × Nat)} (hg:Ge ((k,h)::r)=true):(∀ p ∈ r,p.1 ≠ k/\p.2 ≠ h)/\Ge r=true:=by
 simp only [Ge,QH,QK,XH] at hg;exact ⟨λp hp=>⟨Asu (hg.1 p hp).1,Asu (hg.1 p hp).2⟩,hg.2⟩
theorem Dx {β:Type}:∀ {rn:List (Nat × β)} {k:Nat} {h:β},A1 k rn=some h->(k,h) ∈ rn
 | [],_,_,e=>by cases e
 | (k',h')::r,k,h,e=>by
  simp only [A1] at e
  cases hb:Nat.beq k' k with
  | true=>rw [hb] at e;obtain rfl:=QA e;rw [QD hb];exact YA
  | false=>rw [hb] at e;exact ZI _ (Dx e)
theorem A6h:∀ {rn:List (Nat × Nat)} {k h:Nat},M9 rn h=some k->(k,h) ∈ rn
 | [],_,_,e=>by cases e
 | (k',h')::r,k,h,e=>by
  simp only [M9] at e
  cases hb:Nat.beq h' h with
  | true=>rw [hb] at e;obtain rfl:=QA e;rw [QD hb];exact YA
  | false=>rw [hb] at e;exact ZI _ (A6h e)
theorem Gq:∀ {rn:List (Nat × Nat)} {k h:Nat},Ge rn=true->(k,h) ∈ rn->A1 k rn=some h/\M9 rn h=some k
 | [],_,_,_,e=>by cases e
 | (k',h')::r,k,h,hg,e=>by
  obtain ⟨h1,h2⟩:=Nx hg;simp only [A1,M9];rcases QX.1 e with e | e
  . obtain ⟨rfl,rfl⟩:=KF e;simp only [YC,cond];exact ⟨trivial,trivial⟩
  . obtain ⟨e1,e2⟩:=Gq h2 e;rw [Ac7 (h1 _ e).1.symm,Ac7 (h1 _ e).2.symm];exact ⟨e1,e2⟩
theorem Dq {β:Type}:∀ {B:List (Nat × β)} {R:List (Nat × Nat)},C6 B R=true->∀ k,(A1 k B).isSome=(A1 k R).isSome
 | [],[],_,_=>rfl
 | (k1,b)::B,(k2,h)::R,e,k=>by
  simp only [C6,QH] at e;obtain rfl:=QD e.1;simp only [A1]
  cases Nat.beq k1 k with
  | true=>rfl
  | false=>exact Dq e.2 k
 | [],_::_,e,_=>by simp [C6] at e
 | _::_,[],e,_=>by simp [C6] at e
theorem A1w {β:Type}:∀ {B:List (Nat × β)} {R:List (Nat × Nat)} {k:Nat} {b:β},C6 B R=true->Ge R=true->(k,b) ∈ B->A1 k B=some b
 | [],_,_,_,_,_,e=>by cases e
 | (k1,b1)::B,(k2,h)::R,k,b,hs,hg,e=>by
  simp only [C6,QH] at hs;obtain rfl:=QD hs.1;obtain ⟨h1,h2⟩:=Nx hg;simp only [A1];rcases QX.1 e with e | e
  . obtain ⟨rfl,rfl⟩:=KF e;simp only [YC,cond]
  . have:=A1w hs.2 h2 e
    have hk:(A1 k R).isSome=true:=by rw [<- Dq hs.2 k,this];rfl
    obtain ⟨h',hh⟩:=QZ.1 hk;rw [Ac7 (h1 _ (Dx hh)).1.symm];exact this
 | _::_,[],_,_,hs,_,_=>by simp [C6] at hs
theorem A7a:∀ {B:List (Nat × B3)} {R:List (Nat × Nat)} {bs:List (Nat × B3)},C6 B R=true->Ge R=true->∀ h,A1 h (A27 B R bs)=match M9 R h with | some k=>A1 k B | none=>A1 h bs
 | [],[],_,_,_,h=>rfl
 | (k1,b)::B,(k2,h2)::R,bs,hs,hg,h=>by
  simp only [C6,QH] at hs;obtain rfl:=QD hs.1;obtain ⟨g1,g2⟩:=Nx hg;simp only [A27,M9]
  cases hb:Nat.beq h2 h with
  | true =>
   obtain rfl:=QD hb;simp only [cond,At,A1,YC]
  | false =>
   simp only [cond];rw [As _ _ (Asu hb).symm,A7a hs.2 g2 h]
   cases hw:M9 R h with
   | none=>rfl
   | some k =>
    simp only [A1];rw [Ac7 (g1 _ (A6h hw)).1.symm];rfl
 | [],_::_,_,e,_,_=>by simp [C6] at e
 | _::_,[],_,e,_,_=>by simp [C6] at e
def Ws (bs:List (Nat × B3)) (k:Nat):(c:CK)->SV->Option (c.den × List (Nat × Nat))
 | .im t,v=>bif t.one then (v.as true t).map λx=>(x,[]) else none
 | .own e t,.hw h=>match A1 h bs with
  | some (.arr e' sh false xs)=>bif Nat.beq e e' then ((Sh.sl sh).to (.sl t) xs).map λx=>(x,[(k,h)]) else none
  | _=>none
 | .ptr e t,.hp h 0 0=>match A1 h bs with
  | some (.var e' true false cs)=>bif Nat.beq e e'&&cs.all SV.isD then (t.all false cs).map λx=>(x,[(k,h)]) else none
  | _=>none
 | .tree e t,.hw h=>match A1 h bs with
  | some (.tree e' sh false xs)=>bif Nat.beq e e' then ((Sh.sl sh).to (.sl t) xs).map λx=>(x,[(k,h)]) else none
  | _=>none
 | .win e t,.hs h off len=>match A1 h bs with
  | some (.arr e' sh false xs)=>bif Nat.beq e e' then ((Sh.sl sh).to (.sl t) xs).map λx=>((x,off,len),[(k,h)]) else none
  | _=>none
 | _,_=>none
def Ig (bs:List (Nat × B3)) (k:Nat):(cs:List CK)->List SV->Option (DC cs × List (Nat × Nat))
 | [],[]=>some ((),[])
 | [c],[v]=>Ws bs k c v
 | c::d::r,v::vs=>match Ws bs k c v,Ig bs (k+1) (d::r) vs with
  | some (x,q),some (y,q')=>some ((x,y),q++q')
  | _,_=>none
 | _,_=>none
def Acw (bs:List (Nat × B3)) (k:Nat):(c:CK)->SV->Option (c.den × List (Nat × Nat))
 | .im t,v=>bif t.one then (v.as false t).map λx=>(x,[]) else none
 | .own e t,.hw h=>match A1 h bs with
  | some (.arr e' sh false xs)=>bif Nat.beq e e' then ((Sh.sl sh).to (.sl t) xs).map λx=>(x,[(k,h)]) else none
  | _=>none
 | _,_=>none
def Is (bs:List (Nat × B3)) (k:Nat):(cs:List CK)->List SV->Option (DC cs × List (Nat × Nat))
 | [],[]=>some ((),[])
 | [c],[v]=>Acw bs k c v
 | c::d::r,v::vs=>match Acw bs k c v,Is bs (k+1) (d::r) vs with
  | some (x,q),some (y,q')=>some ((x,y),q++q')
  | _,_=>none
 | _,_=>none
def B3z (bs:List (Nat × B3)) (k:Nat) (e:TypeId) (gs:List CK) (v:SV):Option (DC gs × List (Nat × Nat)):=match v with
 | .hp h 0 0=>match A1 h bs with
  | some (.var e' false false cs)=>bif Nat.beq e e' then (Is bs (k+1) gs cs).map λq=>(q.1,(k,h)::q.2) else none
  | _=>none
 | _=>none
def Abf (bs:List (Nat × B3)) (k:Nat):(p:PK)->SV->Option (Bool × p.den × List Nat × List (Nat × Nat))
 | .im t,v=>(Abh bs t v).map λq=>(q.1,q.2.1,q.2.2,[])
 | .one c,v=>(Ws bs k c v).map λq=>(true,q.1,[],q.2)
 | .mix cs,.agg vs=>(Ig bs k cs vs).map λq=>(true,q.1,[],q.2)
 | .pst e gs,v=>(B3z bs k e gs v).map λq=>(true,q.1,[],q.2)
 | _,_=>none
def Qh (bs:List (Nat × B3)) (k:Nat):(ps:List PK)->List SV->Option (Bool × HP ps × List Nat × List (Nat × Nat))
 | [],[]=>some (true,(),[],[])
 | [p],[v]=>Abf bs k p v
 | p::q::r,v::vs=>match Abf bs k p v,Qh bs (k+p.n) (q::r) vs with
  | some (g,x,l,n),some (g',y,l',n')=>some (g&&g',(x,y),l++l',n++n')
  | _,_=>none
 | _,_=>none
def B3.plain:B3->Bool
 | .arr _ _ _ _=>true
 | .var _ hf _ cs=>hf&&cs.all SV.isD
 | .tree _ _ _ _=>true
 | _=>false
theorem Ac5 (σ:Nat->Nat) (p:Nat->Bool) {L:Nat->Nat} {b:B3} (h:b.plain=true):(b.box L).ren σ=b.box L/\(b.box L).okH p=true:=by
 cases b with
 | arr e t fz xs=>exact ⟨by simp [B3.box,Box.ren,XC,JJ,C.ren],by simp [B3.box,Box.okH,C.okH]⟩
 | tree e t fz xs=>exact ⟨by simp [B3.box,Box.ren,XC,JJ,C.ren],by simp [B3.box,Box.okH,C.okH]⟩
 | rep=>cases h
 | hole=>cases h
 | var e hf fz cs =>
  simp only [B3.plain,QH] at h;have hc:∀ x ∈ cs,x.c L = .i x.i0:=λx hx=>Azl (QK.1 h.2 x hx);refine ⟨?_,?_⟩
  . simp only [B3.box,Box.ren,QT,XN,XC];congr 2
    exact ZE λx hx=>by simp only [Function.comp,hc x hx,C.ren]
  . simp only [B3.box,Box.okH,XJ,KT,XR,YB,QK,Function.comp]
    exact λx hx=>by rw [hc x hx];rfl
theorem A1p {σ:Nat->Nat} {L:Nat->Nat} {b:B3} (h:b.plain=true):(b.box L).ren σ=b.box L:=(Ac5 σ (λ_=>true) h).1
theorem A1q {p:Nat->Bool} {L:Nat->Nat} {b:B3} (h:b.plain=true):(b.box L).okH p=true:=(Ac5 id p h).2
def Cr (bs B:List (Nat × B3)) (q:List (Nat × Nat)):Prop :=
 ∀ k b,(k,b) ∈ B->∃ h b',(k,h) ∈ q/\A1 h bs=some b'/\b'.len=b.len/\(∀ (L L' σ:Nat->Nat),(∀ p ∈ q,σ p.1=p.2/\L p.2=L' p.1)->b'.box L=(b.box L').ren σ) /\ ∀ L,(b.box L).fz=false/\(b.box L).okH (λk=>q.any λp=>Nat.beq p.1 k)=true
theorem Cr.plain {bs:List (Nat × B3)} {k h:Nat} {b b':B3} {q:List (Nat × Nat)} (hq:(k,h) ∈ q) (hl:A1 h bs=some b') (hn:b'.len=b.len) (hp:b.plain=true) (hb:∀ L L',b'.box L=b.box L') (hf:∀ L,(b.box L).fz=false):Cr bs [(k,b)] q:=by
 intro k1 b1 hm;obtain ⟨rfl,rfl⟩:=KF (QU.1 hm);exact ⟨h,b',hq,hl,hn,λL L' σ _=>(hb L L').trans (A1p hp).symm,λL=>⟨hf L,A1q hp⟩⟩
theorem Bh1 {q q':List (Nat × Nat)} (h:∀ p ∈ q,p ∈ q') {b:Box} (hb:b.okH (λk=>q.any λp=>Nat.beq p.1 k)=true):b.okH (λk=>q'.any λp=>Nat.beq p.1 k)=true:=by
 refine QK.2 λr hr=>QK.2 λc hc=>C.okH_mono (λk hk=>?_) (QK.1 (QK.1 hb r hr) c hc);obtain ⟨p,hp,hp2⟩:=ZL.1 hk;exact ZL.2 ⟨p,h p hp,hp2⟩
theorem Cr.mono {bs B:List (Nat × B3)} {q q':List (Nat × Nat)} (h:Cr bs B q) (hq:∀ p ∈ q,p ∈ q'):Cr bs B q':=by
 intro k b hb;obtain ⟨x,y,h1,h2,h3,h4,h5⟩:=h k b hb;exact ⟨x,y,hq _ h1,h2,h3,λL L' σ hh=>h4 L L' σ λp hp=>hh p (hq p hp),λL=>⟨(h5 L).1,Bh1 hq (h5 L).2⟩⟩
theorem Cr.app {bs B B':List (Nat × B3)} {q q':List (Nat × Nat)} (h:Cr bs B q) (h':Cr bs B' q'):Cr bs (B++B') (q++q'):=by
 intro k b hb;rcases QG.1 hb with hb | hb
 . exact h.mono (λp hp=>QG.2 (.inl hp)) k b hb
 . exact h'.mono (λp hp=>QG.2 (.inr hp)) k b hb
theorem Ais {bs:List (Nat × B3)} {k:Nat} {c:CK} {v:SV} {x:c.den} {q:List (Nat × Nat)} (h:Acw bs k c v=some (x,q)) :
  Cr bs (c.bx k x) q/\(∀ (L L' σ:Nat->Nat),(∀ p ∈ q,σ p.1=p.2/\L p.2=L' p.1)->v.c L=((c.sv k x).c L').ren σ) /\ ∀ L',((c.sv k x).c L').okH (λk=>q.any λp=>Nat.beq p.1 k)=true:=by
 unfold Acw at h;split at h
 . rename_i t
   cases ht:t.one with
   | false=>rw [ht] at h;cases h
   | true =>
    rw [ht] at h;simp only [cond,QI,QL] at h;obtain ⟨y,hy,rfl,rfl⟩:=h;obtain rfl:=Tn hy
    exact ⟨(λk b hb=>by cases hb),λ_ _ _ _=>rfl,λ_=>rfl⟩
 . rename_i e t hh;split at h
   . rename_i e' sh xs hl
     cases he:Nat.beq e e' with
     | false=>rw [he] at h;cases h
     | true =>
      rw [he] at h;simp only [cond,QI,QL] at h;obtain ⟨y,hy,rfl,rfl⟩:=h;obtain ⟨rfl,rfl⟩:=F0 hy;obtain rfl:=QD he
      refine ⟨Cr.plain (h:=hh) (by simp) hl rfl rfl (λ_ _=>rfl) (λ_=>rfl),λL L' σ hp=>?_,λL'=>?_⟩
      . obtain ⟨h1,h2⟩:=hp (k,hh) (by simp)
        simp only [CK.sv,SV.c,C.ren];simp only at h1 h2;rw [h1,h2]
      . simp [CK.sv,SV.c,C.okH]
   . cases h
 . cases h
theorem Acv {bs:List (Nat × B3)}:∀ {cs:List CK} {k:Nat} {vs:List SV} {x:DC cs} {q:List (Nat × Nat)},Is bs k cs vs=some (x,q) ->
  Cr bs (Jf k cs x) q/\(∀ (L L' σ:Nat->Nat),(∀ p ∈ q,σ p.1=p.2/\L p.2=L' p.1)->vs.map (SV.c L)=((I4 k cs x).map (SV.c L')).map (C.ren σ)) /\ ∀ L',((I4 k cs x).map (SV.c L')).all (C.okH λk=>q.any λp=>Nat.beq p.1 k)=true
 | [],k,[],x,q,h=>by
  simp only [Is,QF,QL] at h;obtain ⟨_,rfl⟩:=h
  exact ⟨(λk b hb=>by cases hb),λ_ _ _ _=>rfl,λ_=>rfl⟩
 | [],k,_::_,_,_,h=>by simp [Is] at h
 | [c],k,[],_,_,h=>by simp [Is] at h
 | [c],k,[v],x,q,h=>by
  obtain ⟨h1,h2,h3⟩:=Ais (x:=x) h;refine ⟨h1,λL L' σ hp=>?_,λL'=>?_⟩
  . simp only [I4,QT,XN,h2 L L' σ hp]
  . simp only [I4,QT,XN,XJ,KT,h3 L',ZO]
 | [c],k,v::w::r,_,_,h=>by simp [Is] at h
 | c::d::r,k,[],_,_,h=>by simp [Is] at h
 | c::d::r,k,v::vs,x,q,h=>by
  simp only [Is] at h;split at h
  . rename_i x1 q1 y1 q2 h1 h2;simp only [QF,QL] at h;obtain ⟨rfl,rfl⟩:=h;obtain ⟨a1,a2,a3⟩:=Ais h1;obtain ⟨b1,b2,b3⟩:=Acv h2;refine ⟨a1.app b1,λL L' σ hp=>?_,λL'=>?_⟩
    . simp only [I4,QT,a2 L L' σ (λp h=>hp p (QG.2 (.inl h))),b2 L L' σ (λp h=>hp p (QG.2 (.inr h)))]
    . simp only [I4,QT,XJ,QH]
      have mono:∀ (q0:List (Nat × Nat)),(∀ p ∈ q0,p ∈ q1++q2)->∀ k,(q0.any λp=>Nat.beq p.1 k)=true->((q1++q2).any λp=>Nat.beq p.1 k)=true:=λq0 h0 k hk=>by
       obtain ⟨p,hp,hp2⟩:=ZL.1 hk;exact ZL.2 ⟨p,h0 p hp,hp2⟩
      exact ⟨C.okH_mono (mono q1 λp h=>QG.2 (.inl h)) (a3 L'),QK.2 λc hc=>C.okH_mono (mono q2 λp h=>QG.2 (.inr h)) (QK.1 (b3 L') c hc)⟩
  . cases h
theorem Zx {bs:List (Nat × B3)} {hd:Nat->Nat->Bool} {L:Nat->Nat} {k:Nat} {c:CK} {v:SV} {x:c.den} {q:List (Nat × Nat)} (h:Ws bs k c v=some (x,q))
  (hq:∀ p ∈ q,hd p.1 p.2=true) (hL:∀ k' b,(k',b) ∈ c.bx k x->L k'=b.len) :
  v.cellB=true/\(∃ ob,To hd (A1 · (Am (B3.box (A5 bs)) bs)) (v.c (A5 bs)) ((c.sv k x).c L)=some (ob,[]) /\ ∀ p ∈ ob,p)/\(c.sv k x).cellB=true/\Cr bs (c.bx k x) q:=by
 unfold Ws at h;split at h
 . rename_i t
   cases ht:t.one with
   | false=>rw [ht] at h;cases h
   | true =>
    rw [ht] at h;simp only [cond,QI,QL] at h;obtain ⟨y,hy,rfl,rfl⟩:=h;obtain ⟨q1,ob,q2,q3⟩:=Wu (L:=A5 bs) ht hy
    refine ⟨U5 q1,⟨ob,?_,q3⟩,ht,λk b hb=>by cases hb⟩
    have hc:=Azl (L:=A5 bs) q1;rw [hc] at q2 ⊢;simp only [CK.sv,SV.c,To,Jg,V.noH,Dc,ZO,cond,A81,q2,QV]
 . rename_i e t hh;split at h
   . rename_i e' sh xs hl
     cases he:Nat.beq e e' with
     | false=>rw [he] at h;cases h
     | true =>
      rw [he] at h;simp only [cond,QI,QL] at h;obtain ⟨y,hy,rfl,rfl⟩:=h;obtain ⟨rfl,rfl⟩:=F0 hy;obtain rfl:=QD he
      have hle:A5 bs hh=xs.length:=by simp [A5,hl,B3.len]
      have hk:L k=xs.length:=hL k (.arr e sh false xs) (by simp [CK.bx])
      refine ⟨rfl,⟨[0=0,A5 bs hh=L k],?_,by simp [hle,hk]⟩,rfl,λk' b hb=>?_⟩
      . simp only [CK.sv,SV.c,To,hq (k,hh) (by simp),cond]
      . exact Cr.plain (k:=k) (h:=hh) (q:=[(k,hh)]) (by simp) hl rfl rfl (λ_ _=>rfl) (λ_=>rfl) k' b hb
   . cases h
 . rename_i e t hh;split at h
   . rename_i e' cs hl
     cases he:(Nat.beq e e'&&cs.all SV.isD) with
     | false=>rw [he] at h;cases h
     | true =>
      rw [he] at h;simp only [cond,QI,QL] at h;obtain ⟨y,hy,rfl,rfl⟩:=h;simp only [QH] at he;obtain rfl:=QD he.1;obtain ⟨a1,_,_,a4⟩:=Et hy
      refine ⟨rfl,⟨[0=0,0=0],?_,by simp⟩,rfl,λk' b hb=>?_⟩
      . simp only [CK.sv,SV.c,To,hq (k,hh) (by simp),cond]
      . refine Cr.plain (k:=k) (h:=hh) (q:=[(k,hh)]) (b:=.var e true false (t.exp y)) (by simp) hl rfl (by simp only [B3.plain,ZZ];exact (L4 t y).2) (λL1 L2=>?_) (λ_=>rfl) k' b hb
        simp only [B3.box,a1,Qb,Aho,a4]
   . cases h
 . rename_i e t hh;split at h
   . rename_i e' sh xs hl
     cases he:Nat.beq e e' with
     | false=>rw [he] at h;cases h
     | true =>
      rw [he] at h;simp only [cond,QI,QL] at h;obtain ⟨y,hy,rfl,rfl⟩:=h;obtain ⟨rfl,rfl⟩:=F0 hy;obtain rfl:=QD he
      have hle:A5 bs hh=xs.length:=by simp [A5,hl,B3.len]
      have hk:L k=xs.length:=hL k (.tree e sh false xs) (by simp [CK.bx])
      refine ⟨rfl,⟨[0=0,A5 bs hh=L k],?_,by simp [hle,hk]⟩,rfl,λk' b hb=>?_⟩
      . simp only [CK.sv,SV.c,To,hq (k,hh) (by simp),cond]
      . exact Cr.plain (k:=k) (h:=hh) (q:=[(k,hh)]) (by simp) hl rfl rfl (λ_ _=>rfl) (λ_=>rfl) k' b hb
   . cases h
 . rename_i e t hh off len;split at h
   . rename_i e' sh xs hl
     cases he:Nat.beq e e' with
     | false=>rw [he] at h;cases h
     | true =>
      rw [he] at h;simp only [cond,QI,QL] at h;obtain ⟨y,hy,rfl,rfl⟩:=h;obtain ⟨rfl,rfl⟩:=F0 hy;obtain rfl:=QD he
      refine ⟨rfl,⟨[off=off,len=len],?_,by simp⟩,rfl,λk' b hb=>?_⟩
      . simp only [CK.sv,SV.c,To,hq (k,hh) (by simp),cond]
      . exact Cr.plain (k:=k) (h:=hh) (q:=[(k,hh)]) (by simp) hl rfl rfl (λ_ _=>rfl) (λ_=>rfl) k' b hb
   . cases h
 . cases h
theorem A7g {bs:List (Nat × B3)} {hd:Nat->Nat->Bool} {L:Nat->Nat}:∀ {cs:List CK} {k:Nat} {vs:List SV} {x:DC cs} {q:List (Nat × Nat)},Ig bs k cs vs=some (x,q) ->
  (∀ p ∈ q,hd p.1 p.2=true)->(∀ k' b,(k',b) ∈ Jf k cs x->L k'=b.len) ->
  (∃ ob,Qi hd (A1 · (Am (B3.box (A5 bs)) bs)) (vs.map (SV.c (A5 bs))) ((I4 k cs x).map (SV.c L))=some (ob,[]) /\ ∀ p ∈ ob,p)/\Cr bs (Jf k cs x) q
 | [],k,[],x,q,h,_,_=>⟨⟨[],rfl,by simp⟩,λk b hb=>by cases hb⟩
 | [],k,_::_,_,_,h,_,_=>by simp [Ig] at h
 | [c],k,[],_,_,h,_,_=>by simp [Ig] at h
 | [c],k,[v],x,q,h,hq,hL=>by
  obtain ⟨_,⟨ob,h1,h2⟩,_,h3⟩:=Zx (hd:=hd) (L:=L) (x:=x) h hq hL
  refine ⟨⟨ob++[],?_,by simpa using h2⟩,h3⟩
  simp only [I4,QT,XN,Qi,h1,XT]
 | [c],k,v::w::r,_,_,h,_,_=>by simp [Ig] at h
 | c::d::r,k,[],_,_,h,_,_=>by simp [Ig] at h
 | c::d::r,k,v::vs,x,q,h,hq,hL=>by
  simp only [Ig] at h;split at h
  . rename_i x1 q1 y1 q2 h1 h2;simp only [QF,QL] at h;obtain ⟨rfl,rfl⟩:=h
    obtain ⟨_,⟨ob,a1,a2⟩,_,a3⟩:=Zx (hd:=hd) (L:=L) h1 (λp hp=>hq p (QG.2 (.inl hp))) (λk' b hb=>hL k' b (by simp only [Jf];exact QG.2 (.inl hb)))
    obtain ⟨⟨ob',b1,b2⟩,b3⟩:=A7g (hd:=hd) (L:=L) h2 (λp hp=>hq p (QG.2 (.inr hp))) (λk' b hb=>hL k' b (by simp only [Jf];exact QG.2 (.inr hb)))
    refine ⟨⟨ob++ob',?_,λp hp=>(QG.1 hp).elim (a2 p) (b2 p)⟩,a3.app b3⟩;simp only [I4,QT,Qi,a1,b1,XT]
  . cases h
theorem Ay8 {bs:List (Nat × B3)} {hd:Nat->Nat->Bool} {L:Nat->Nat} {k:Nat} {p:PK} {v:SV} {g:Bool} {x:p.den} {bor:List Nat} {q:List (Nat × Nat)} (h:Abf bs k p v=some (g,x,bor,q)) (hg:g=true)
  (hq:∀ p ∈ q,hd p.1 p.2=true) (hL:∀ k' b,(k',b) ∈ p.bx k x->L k'=b.len) :
  (∃ ob,A48 hd (A1 · (Am (B3.box (A5 bs)) bs)) p.isIm (v.s (A5 bs)) ((p.sv k x).v L)=some (ob,bor) /\ ∀ p ∈ ob,p)/\(∀ k ∈ bor,∃ b,A1 k (Am (B3.box (A5 bs)) bs)=some b/\b.fz=false)/\Cr bs (p.bx k x) q/\v.alive=true:=by
 cases p with
 | im t =>
  simp only [Abf,QI,QL] at h;obtain ⟨⟨g',y,b⟩,h1,rfl,rfl,rfl,rfl⟩:=h;obtain ⟨ob,a1,a2,a3⟩:=Ahx h1 hg
  refine ⟨⟨ob,?_,a2⟩,a3,(λk b hb=>by cases hb),A04 h1⟩
  simp only [A48,PK.isIm,cond,PK.sv,(La t y).1];exact a1
 | one c =>
  simp only [Abf,QI,QL] at h;obtain ⟨⟨y,b⟩,h1,rfl,rfl,rfl,rfl⟩:=h;obtain ⟨c1,⟨ob,a1,a2⟩,c2,a3⟩:=Zx (hd:=hd) (L:=L) h1 hq hL
  refine ⟨⟨ob,?_,a2⟩,by simp,a3,Bw λe=>by subst e;cases c1⟩
  simp only [A48,PK.isIm,cond,PK.sv,(Hq c1).1,(Hq c2).2];exact a1
 | mix cs =>
  cases v with
  | agg vs =>
   simp only [Abf] at h;simp only [QI,QL] at h;obtain ⟨⟨y,b⟩,h1,rfl,rfl,rfl,rfl⟩:=h;obtain ⟨⟨ob,a1,a2⟩,a3⟩:=A7g (hd:=hd) (L:=L) h1 hq hL
   refine ⟨⟨ob,?_,a2⟩,by simp,a3,rfl⟩
   simp only [A48,PK.isIm,cond,PK.sv,SV.s,SV.v];exact a1
  | _=>cases h
 | pst e gs =>
  simp only [Abf,QI,QL] at h;obtain ⟨⟨y,b⟩,h1,rfl,rfl,rfl,rfl⟩:=h;unfold B3z at h1;split at h1
  . rename_i h0;split at h1
    . rename_i e' cs hl
      cases he:Nat.beq e e' with
      | false=>rw [he] at h1;cases h1
      | true =>
       rw [he] at h1;simp only [cond,QI,QL] at h1;obtain ⟨⟨z,qq⟩,h1,rfl,rfl⟩:=h1;obtain rfl:=QD he;obtain ⟨b1,b2,b3⟩:=Acv h1
       refine ⟨⟨[0=0,0=0],?_,by simp⟩,by simp,?_,rfl⟩
       . simp only [A48,PK.isIm,cond,PK.sv,SV.s,SV.v,SV.c,To,hq (k,h0) (by simp)]
       . intro k' b hb;rcases QX.1 (show (k',b) ∈ (k,B3.var e false false (I4 (k+1) gs z))::Jf (k+1) gs z from hb) with hb | hb
         . obtain ⟨rfl,rfl⟩:=KF hb
           refine ⟨h0,_,by simp,hl,rfl,λL L' σ hp=>?_,λL=>⟨rfl,?_⟩⟩
           . have e1:=b2 L L' σ λp hp'=>hp p (ZI _ hp');have e2:=ZY List.length e1;simp only [ZA] at e2;simp only [B3.box,Box.ren,QT,XN,e1,e2]
           . simp only [B3.box,Box.okH,XJ,KT,XR];refine QK.2 λc hc=>C.okH_mono (λj hj=>?_) (QK.1 (b3 L) c hc);obtain ⟨p,hp,hp2⟩:=ZL.1 hj;exact ZL.2 ⟨p,ZI _ hp,hp2⟩
         . exact b1.mono (λp hp=>ZI _ hp) k' b hb
    . cases h1
  . cases h1
theorem Asy {bs:List (Nat × B3)} {hd:Nat->Nat->Bool} {L:Nat->Nat}:∀ {ps:List PK} {k:Nat} {vs:List SV} {g:Bool} {x:HP ps} {bor:List Nat} {q:List (Nat × Nat)},Qh bs k ps vs=some (g,x,bor,q)->g=true ->
  (∀ p ∈ q,hd p.1 p.2=true)->(∀ k' b,(k',b) ∈ E9 k ps x->L k'=b.len) ->
  (∃ ob,K6 hd (A1 · (Am (B3.box (A5 bs)) bs)) (ps.map PK.isIm) (vs.map (SV.s (A5 bs))) ((Cm k ps x).map (SV.v L))=some (ob,bor) /\ ∀ p ∈ ob,p)/\(∀ k ∈ bor,∃ b,A1 k (Am (B3.box (A5 bs)) bs)=some b/\b.fz=false)/\Cr bs (E9 k ps x) q /\ ∀ v ∈ vs,v.alive=true
 | [],k,[],g,x,bor,q,h,_,_,_=>by
  simp only [Qh,QF,QL] at h;obtain ⟨_,_,rfl,rfl⟩:=h
  exact ⟨⟨[],rfl,by simp⟩,by simp,(λk b hb=>by cases hb),by simp⟩
 | [],k,_::_,_,_,_,_,h,_,_,_=>by simp [Qh] at h
 | [p],k,[],_,_,_,_,h,_,_,_=>by simp [Qh] at h
 | [p],k,[v],g,x,bor,q,h,hg,hq,hL=>by
  obtain ⟨⟨ob,h1,h2⟩,h3,h4,h5⟩:=Ay8 (hd:=hd) (L:=L) (x:=x) h hg hq hL
  refine ⟨⟨ob++[],?_,by simpa using h2⟩,h3,h4,by simpa using h5⟩
  simp only [Cm,QT,XN,K6,h1,XT]
 | [p],k,v::w::r,_,_,_,_,h,_,_,_=>by simp [Qh] at h
 | p::p2::r,k,[],_,_,_,_,h,_,_,_=>by simp [Qh] at h
 | p::p2::r,k,v::vs,g,x,bor,q,h,hg,hq,hL=>by
  simp only [Qh] at h;split at h
  . rename_i g1 x1 l1 q1 g2 y1 l2 q2 h1 h2;simp only [QF,QL] at h;obtain ⟨rfl,rfl,rfl,rfl⟩:=h;simp only [QH] at hg
    obtain ⟨⟨ob,a1,a2⟩,a3,a4,a5⟩:=Ay8 (hd:=hd) (L:=L) h1 hg.1 (λp hp=>hq p (QG.2 (.inl hp))) (λk' b hb=>hL k' b (by simp only [E9];exact QG.2 (.inl hb)))
    obtain ⟨⟨ob',b1,b2⟩,b3,b4,b5⟩:=Asy (hd:=hd) (L:=L) h2 hg.2 (λp hp=>hq p (QG.2 (.inr hp))) (λk' b hb=>hL k' b (by simp only [E9];exact QG.2 (.inr hb)))
    refine ⟨⟨ob++ob',?_,λp hp=>(QG.1 hp).elim (a2 p) (b2 p)⟩,λj hj=>(QG.1 hj).elim (a3 j) (b3 j),a4.app b4,by simpa using ⟨a5,b5⟩⟩
    simp only [QT] at b1;simp only [Cm,QT,K6,a1,b1]
  . cases h
end Go.Ev

/- DERIVED. A state that a template takes may be read as the template's. -/
namespace Go.Ev
open Go
variable {P:Program} {T:Ty}
def Jh (x x':S):Prop:=∀ (w:World) (E:Env) (v:Value),Rs w E v x->Rs w E v x'
def H4 (c c':C):Prop:=∀ (w:World) (E:Env) (v:Value),Rc w E v c->Rc w E v c'
structure B2y (b b':Box):Prop where
 e:b'.e=b.e
 sz:b'.sz=b.sz
 fz:b'.fz=b.fz
 tr:b'.tr=b.tr
 trr:b'.tr=true->b'.rows=b.rows
 len:b'.rows.length=b.rows.length
 rows:∀ (i:Nat) (r':List C),b'.rows[i]? = some r'->∃ r,b.rows[i]? = some r/\r'.length=r.length /\ ∀ (j:Nat) (c':C),r'[j]? = some c'->∃ c,r[j]? = some c/\H4 c c'
 hf:b'.hf=true->∀ (i:Nat) (r:List C) (j:Nat) (c:C),b'.rows[i]? = some r->r[j]? = some c->∃ x,c = .i x
theorem C3.sub {w:World} {E:Env} {b b':Box} {g cap:Nat} (h:C3 w E b g cap) (hb:B2y b b'):C3 w E b' g cap:=by
 obtain ⟨arr,a1,a2,a3,a4,a5,a6,a7,a8,a9⟩:=h
 refine ⟨arr,by rw [hb.e];exact a1,by rw [hb.sz];exact a2,by rw [hb.len];exact a3,a4,λi r hi=>?_,λi r j c hi hj=>?_,λhf i r j c hi hj=>hb.hf hf i r j c hi hj,λhf=>a8 (by rw [<- hb.fz];exact hf),a9⟩
 . obtain ⟨r0,h1,h2,_⟩:=hb.rows i r hi;rw [h2,hb.sz];exact a5 i r0 h1
 . obtain ⟨r0,h1,_,h3⟩:=hb.rows i r hi;obtain ⟨c0,h4,h5⟩:=h3 j c hj;obtain ⟨v,h6,h7⟩:=a6 i r0 j c0 h1 h4
   exact ⟨v,by rw [hb.sz];exact h6,h5 _ _ _ h7⟩
theorem A6.sub {Γ:Ctx} {w:World} {E:Env} {s s':St} {tmps:Array Value} (hs:A6 Γ w E s tmps) (hnt:s'.nt=s.nt)
  (h1:∀ t x',A1 t s'.slots=some x'->∃ x,A1 t s.slots=some x/\Jh x x')
  (h2:∀ h b',A1 h s'.boxes=some b'->∃ b,A1 h s.boxes=some b/\B2y b b')
  (h3:∀ h b,A1 h s.boxes=some b->(A1 h s'.boxes).isSome=true):A6 Γ w E s' tmps where
 fr:=hs.fr
 held:=hs.held
 tow:=hs.tow
 wf:=by rw [hnt];exact hs.wf
 old:=hs.old
 nt:=by rw [hnt];exact hs.nt
 tag:=hs.tag
 new:=hs.new
 boxes:=λh b' hb'=>by
  obtain ⟨b,hb,hsub⟩:=h2 h b' hb';obtain ⟨g,cap,hβ,hat,hω,hS⟩:=hs.boxes h b hb
  refine ⟨g,cap,by rw [hsub.sz];exact hβ,by rw [hsub.tr];exact hat.sub hsub,hω,λe=>?_⟩
  have h5:=hS (by rw [<- hsub.tr];exact e)
  unfold P1 at h5 ⊢;rw [hsub.trr e,hsub.sz];exact h5
 inj:=λh h' b b' g g' z z' hb hb' hz hz' hne=>by
  obtain ⟨b0,hb0,_⟩:=h2 h b hb;obtain ⟨b1,hb1,_⟩:=h2 h' b' hb';exact hs.inj h h' b0 b1 g g' z z' hb0 hb1 hz hz' hne
 own:=λh b' g z hb' hz=>by
  obtain ⟨b,hb,hsub⟩:=h2 h b' hb';rw [hsub.fz];exact hs.own h b g z hb hz
 slots:=λt x' hx'=>by
  obtain ⟨x,hx,hsub⟩:=h1 t x' hx';exact hsub _ _ _ (hs.slots t x hx)
 tsize:=hs.tsize
 dom:=λh x hx=>by
  obtain ⟨b,hb⟩:=QZ.1 (hs.dom h x hx);exact h3 h b hb
 stay:=hs.stay
 fzn:=λh b' g z hb' hz hf=>by
  obtain ⟨b,hb,hsub⟩:=h2 h b' hb'
  exact hs.fzn h b g z hb hz (by rw [<- hsub.fz];exact hf)
theorem H4.refl (c:C):H4 c c:=λ_ _ _ h=>h
theorem Jh.refl (x:S):Jh x x:=λ_ _ _ h=>h
theorem Jh.dead (x:S):Jh x .dead:=λ_ _ _ _=>.dead
theorem An6 {c c':C} (h:∃ ob,Xj c c'=some ob /\ ∀ p ∈ ob,p):H4 c c':=by
 obtain ⟨ob,h1,h2⟩:=h;exact λw E v hv=>Py hv h1 h2
def At5 (cs cs':List C):Prop:=cs'.length=cs.length /\ ∀ (j:Nat) (c':C),cs'[j]? = some c'->∃ c,cs[j]? = some c/\H4 c c'
theorem Ai7:∀ (cs cs':List C) (ob:List Prop),G1 cs cs'=some ob->(∀ p ∈ ob,p)->At5 cs cs'
 | [],[],_,_,_=>⟨rfl,λj c hj=>by simp at hj⟩
 | [],_::_,_,h,_=>by simp [G1] at h
 | _::_,[],_,h,_=>by simp [G1] at h
 | c::cs,c'::cs',ob,h,ho=>by
  simp only [G1] at h;split at h
  . rename_i p q h1 h2;obtain rfl:=QA h;obtain ⟨i1,i2⟩:=Ai7 cs cs' q h2 (λx hx=>ho x (QG.2 (.inr hx)))
    refine ⟨by simp [i1],λj d hj=>?_⟩
    cases j with
    | zero =>
     simp at hj;subst hj;exact ⟨c,rfl,An6 ⟨p,h1,λx hx=>ho x (QG.2 (.inl hx))⟩⟩
    | succ j=>exact i2 j d (by simpa using hj)
  . cases h
theorem Hz.subL {L:Nat->Nat} {cs:List SV} {ds:List I} (h:Hz L cs ds):At5 (cs.map (SV.c L)) (ds.map .i):=by
 obtain ⟨ob,h1,h2⟩:=h;exact Ai7 _ _ _ h1 h2
theorem At5.agg {cs cs':List C} (h:At5 cs cs'):Jh (.v (.agg cs)) (.v (.agg cs')):=by
 intro w E v hv
 cases hv with
 | v hv =>
  cases hv with
  | agg hv =>
   refine .v (.agg ⟨by rw [h.1];exact hv.1,λj v c hv' hc=>?_⟩)
   obtain ⟨c0,h1,h2⟩:=h.2 j c hc;exact h2 _ _ _ (hv.2 j v c0 hv' h1)
theorem H4.one {c c':C} (h:H4 c c'):Jh (.v (.one c)) (.v (.one c')):=by
 intro w E v hv
 cases hv with
 | v hv=>cases hv with | one hv=>exact .v (.one (h _ _ _ hv))
theorem Ay1 {L:Nat->Nat} {t:TS} {v:SV} {x:t.den} (h:t.dec v=some x):Jh (v.s L) ((t.enc x).s L)/\(v.cellB=true->(t.enc x).cellB=true->H4 (v.c L) ((t.enc x).c L)):=by
 cases t with
 | d t =>
  simp only [TS.dec] at h;split at h
  . rename_i cs;split at h
    . rename_i t0
      cases hd:cs.all SV.isD with
      | false=>rw [hd] at h;cases h
      | true =>
       rw [hd] at h;simp only [cond] at h;obtain ⟨_,_,h3,_⟩:=Et h
       have e:(SV.rf cs).c L=(SV.d (.ref t0) x).c L:=by
        simp only [SV.c,h3 hd,Sh.cells,hd1]
       have hc:H4 ((SV.rf cs).c L) ((TS.enc (.d (.ref t0)) x).c L):=by
        show H4 _ ((SV.d (.ref t0) x).c L);rw [<- e];exact H4.refl _
       exact ⟨hc.one,λ_ _=>hc⟩
    . cases h
  . rename_i hnr
    cases ht:t.one with
    | false=>rw [ht] at h;cases h
    | true =>
     rw [ht] at h;obtain ⟨q1,q2⟩:=Wu (L:=L) ht h;have hc:H4 (v.c L) ((TS.enc (.d t) x).c L):=An6 q2
     have e:v.s L = .v (.one (v.c L)):=by cases v <;> first | rfl | cases q1
     refine ⟨?_,λ_ _=>hc⟩;rw [e];exact hc.one
 | ag t =>
  simp only [TS.dec] at h;split at h
  . rename_i cs;obtain ⟨h1,h2⟩:=Abj (L:=L) h
    refine ⟨?_,λhc=>by cases hc⟩
    show Jh (.v (.agg (cs.map (SV.c L)))) (.v (.agg ((t.exp x).map (SV.c L))));rw [Qb];exact h1.subL.agg
  . cases h
 | k c =>
  simp only [TS.dec] at h
  cases hs:c.same v with
  | false=>rw [hs] at h;cases h
  | true =>
   show Jh (v.s L) (c.s L)/\(v.cellB=true->c.cellB=true->H4 (v.c L) (c.c L));unfold SV.same at hs;split at hs
   . obtain rfl:=QD hs;exact ⟨Jh.refl _,λ_ _=>H4.refl _⟩
   . simp only [QH] at hs;obtain rfl:=QD hs.1.1;obtain rfl:=QD hs.1.2;obtain rfl:=QD hs.2;exact ⟨Jh.refl _,λ_ _=>H4.refl _⟩
   . exact ⟨Jh.dead _,λ_ h=>by cases h⟩
   . rename_i t x' t' y;simp only [QH] at hs;obtain rfl:=Sh.eqb_eq hs.2
     have:SV.d t x'=SV.d t y:=by
      split at hs
      . rfl
      . rfl
      . exact absurd hs.1 (by simp)
     rw [this];exact ⟨Jh.refl _,λ_ _=>H4.refl _⟩
   . cases hs
 | hs h' =>
  simp only [TS.dec] at h;split at h
  . rename_i k o l
    cases hk:Nat.beq h' k with
    | false=>rw [hk] at h;cases h
    | true =>
     rw [hk] at h;obtain rfl:=QD hk;simp only [cond,QF] at h;subst h;exact ⟨Jh.refl _,λ_ _=>H4.refl _⟩
  . cases h
theorem Asi:∀ {l:List (Nat × TS)} {sl:List (Nat × SV)} {x:DK TS TS.den l},Ahr l sl=some x->∀ (L:Nat->Nat) (k:Nat) (y:S),A1 k (Am (SV.s L) (Asa l x))=some y->∃ z,A1 k (Am (SV.s L) sl)=some z/\Jh z y
 | [],[],_,_,_,k,y,h=>by simp [Asa,Am,A1] at h
 | [],_::_,_,h,_,_,_,_=>by simp [Ahr] at h
 | _::_,[],_,h,_,_,_,_=>by simp [Ahr] at h
 | (k,t)::r,(j,v)::vs,x,h,L,i,y,hy=>by
  simp only [Ahr] at h
  cases hk:Nat.beq k j with
  | false=>rw [hk] at h;cases h
  | true =>
   rw [hk] at h;obtain rfl:=QD hk;simp only [cond] at h;split at h
   . rename_i a as h1 h2;obtain rfl:=QA h;simp only [Asa,Am,QT,A1] at hy ⊢
     cases hb:Nat.beq k i with
     | true =>
      rw [hb] at hy;simp only [cond,QF] at hy;subst hy;exact ⟨_,rfl,(Ay1 h1).1⟩
     | false =>
      rw [hb] at hy;exact Asi h2 L i y hy
   . cases h
theorem Asj {L:Nat->Nat}:∀ {l:List TS} {vs:List SV} {x:DL l},Ahs l vs=some x->vs.all SV.cellB=true->(M0 l x).all SV.cellB=true->At5 (vs.map (SV.c L)) ((M0 l x).map (SV.c L))
 | [],[],_,_,_,_=>⟨rfl,λj c h=>by simp [M0] at h⟩
 | [],_::_,_,h,_,_=>by simp [Ahs] at h
 | _::_,[],_,h,_,_=>by simp [Ahs] at h
 | t::r,v::vs,x,h,hc,hc'=>by
  simp only [Ahs] at h;split at h
  . rename_i a as h1 h2;obtain rfl:=QA h;simp only [XJ,QH,M0] at hc hc';obtain ⟨i1,i2⟩:=Asj (L:=L) h2 hc.2 hc'.2
    refine ⟨by simpa [M0] using i1,λj c hj=>?_⟩
    cases j with
    | zero =>
     simp [M0] at hj;subst hj;exact ⟨_,rfl,(Ay1 h1).2 hc.1 hc'.1⟩
    | succ j=>exact i2 j c (by simpa [M0] using hj)
  . cases h
theorem B2s {L:Nat->Nat} {t:TB} {b:B3} {x:t.den} (h:t.dec b=some x):B2y (b.box L) ((t.enc x).box L)/\(t.enc x).len=b.len:=by
 cases t with
 | tree e t fz =>
  simp only [TB.dec] at h;split at h
  . rename_i e' t' fz' xs
    cases hc:(Nat.beq e e'&&(fz==fz')) with
    | false=>rw [hc] at h;cases h
    | true =>
     rw [hc] at h;simp only [QH] at hc;obtain rfl:=QD hc.1;obtain rfl:=eq_of_beq hc.2;obtain ⟨rfl,rfl⟩:=F0 h;refine ⟨⟨rfl,rfl,rfl,rfl,λ_=>rfl,rfl,λi r hi=>⟨r,hi,rfl,λj c hj=>⟨c,hj,H4.refl c⟩⟩,λ_ i r j c hi hj=>?_⟩,rfl⟩;simp only [TB.enc,B3.box,QQ] at hi;obtain ⟨x,_,rfl⟩:=QI.1 hi;rw [QQ] at hj;obtain ⟨y,_,rfl⟩:=QI.1 hj;exact ⟨y,rfl⟩
  . cases h
 | arr e t fz =>
  simp only [TB.dec] at h;split at h
  . rename_i e' t' fz' xs
    cases hc:(Nat.beq e e'&&(fz==fz')) with
    | false=>rw [hc] at h;cases h
    | true =>
     rw [hc] at h;simp only [QH] at hc;obtain rfl:=QD hc.1;obtain rfl:=eq_of_beq hc.2;obtain ⟨rfl,rfl⟩:=F0 h;refine ⟨⟨rfl,rfl,rfl,rfl,λ_=>rfl,rfl,λi r hi=>⟨r,hi,rfl,λj c hj=>⟨c,hj,H4.refl c⟩⟩,λ_ i r j c hi hj=>?_⟩,rfl⟩;simp only [TB.enc,B3.box,QQ] at hi;obtain ⟨y,_,rfl⟩:=QI.1 hi;rw [QQ] at hj;obtain ⟨z,_,rfl⟩:=QI.1 hj;exact ⟨z,rfl⟩
  . rename_i e' fz' n cs
    cases hc:(Nat.beq e e'&&(fz==fz')) with
    | false=>rw [hc] at h;cases h
    | true =>
     rw [hc] at h;simp only [cond,QI] at h;obtain ⟨y,hy,rfl⟩:=h;simp only [QH] at hc;obtain rfl:=QD hc.1;obtain rfl:=eq_of_beq hc.2;obtain ⟨h1,h2⟩:=Abj (L:=L) hy;have hL:=h1.subL
     have hz:cs.length=t.size:=by have:=hL.1;simp [Sh.cells_len] at this;omega
     refine ⟨⟨rfl,by simp [TB.enc,B3.box,hz],rfl,rfl,λe=>(by cases e),by simp [TB.enc,B3.box],λi r hi=>?_,λ_ i r j c hi hj=>?_⟩,by simp [TB.enc,B3.len]⟩
     . simp only [TB.enc,B3.box,List.map_replicate,XX] at hi;split at hi
       . rename_i hlt;obtain rfl:=QA hi
         exact ⟨cs.map (SV.c L),by simp [B3.box,XX,hlt],hL.1,hL.2⟩
       . cases hi
     . simp only [TB.enc,B3.box,List.map_replicate,XX] at hi;split at hi
       . obtain rfl:=QA hi;rw [QQ] at hj;obtain ⟨z,_,rfl⟩:=QI.1 hj;exact ⟨z,rfl⟩
       . cases hi
  . cases h
 | var e hf fz cs =>
  simp only [TB.dec] at h;split at h
  . rename_i e' hf' fz' vs
    cases hc:(Nat.beq e e'&&(hf==hf')&&(fz==fz')&&vs.all SV.cellB) with
    | false=>rw [hc] at h;cases h
    | true =>
     rw [hc] at h;simp only [cond] at h;simp only [QH] at hc;obtain rfl:=QD hc.1.1.1;obtain rfl:=eq_of_beq hc.1.1.2;obtain rfl:=eq_of_beq hc.1.2;split at h
     . rename_i y hy
       cases he:((M0 cs y).all SV.cellB&&(!hf || (M0 cs y).all SV.imm)) with
       | false=>rw [he] at h;cases h
       | true =>
        rw [he] at h;obtain rfl:=QA h;simp only [QH,XA,XH] at he;have hL:=Asj (L:=L) hy hc.2 he.1
        refine ⟨⟨rfl,by have:=hL.1;simpa [TB.enc,B3.box] using this,rfl,rfl,λe=>(by cases e),rfl,λi r hi=>?_,λhf' i r j c hi hj=>?_⟩,rfl⟩
        . cases i with
          | zero =>
           simp [TB.enc,B3.box] at hi;subst hi;exact ⟨vs.map (SV.c L),rfl,hL.1,hL.2⟩
          | succ i=>simp [TB.enc,B3.box] at hi
        . have hf'':hf=true:=hf'
          have hi':(M0 cs y).all SV.imm=true:=by
           rcases he.2 with h0 | h0
           . rw [hf''] at h0;cases h0
           . exact h0
          cases i with
          | zero =>
           simp [TB.enc,B3.box] at hi;subst hi;rw [QQ] at hj;obtain ⟨z,hz,rfl⟩:=QI.1 hj;have:=Qo (L:=L) (QK.1 hi' z (ZN hz))
           cases hzc:z.c L with
           | i q=>exact ⟨q,rfl⟩
           | hs=>rw [hzc] at this;cases this
           | hp=>rw [hzc] at this;cases this
          | succ i=>simp [TB.enc,B3.box] at hi
     . cases h
  . cases h
theorem Ask {L:Nat->Nat}:∀ {l:List (Nat × TB)} {bs:List (Nat × B3)} {x:DK TB TB.den l},Aht l bs=some x ->
  (∀ k b',A1 k (Am (B3.box L) (Zo l x))=some b'->∃ b,A1 k (Am (B3.box L) bs)=some b/\B2y b b')/\(∀ k b,A1 k (Am (B3.box L) bs)=some b->(A1 k (Am (B3.box L) (Zo l x))).isSome=true)/\A5 (Zo l x)=A5 bs
 | [],[],_,_=>⟨λk b h=>by simp [Zo,Am,A1] at h,λk b h=>by simp [Am,A1] at h,rfl⟩
 | [],_::_,_,h=>by simp [Aht] at h
 | _::_,[],_,h=>by simp [Aht] at h
 | (k,t)::r,(j,v)::vs,x,h=>by
  simp only [Aht] at h
  cases hk:Nat.beq k j with
  | false=>rw [hk] at h;cases h
  | true =>
   rw [hk] at h;obtain rfl:=QD hk;simp only [cond] at h;split at h
   . rename_i a as h1 h2;obtain rfl:=QA h;obtain ⟨i1,i2,i3⟩:=Ask (L:=L) h2;obtain ⟨b1,b2⟩:=B2s (L:=L) h1;refine ⟨λi b hb=>?_,λi b hb=>?_,?_⟩
     . simp only [Zo,Am,QT,A1] at hb ⊢
       cases hc:Nat.beq k i with
       | true=>rw [hc] at hb;simp only [cond,QF] at hb;subst hb;exact ⟨_,rfl,b1⟩
       | false=>rw [hc] at hb;exact i1 i b hb
     . simp only [Zo,Am,QT,A1] at hb ⊢
       cases hc:Nat.beq k i with
       | true=>rfl
       | false=>rw [hc] at hb;exact i2 i b hb
     . funext i;have e:=congrFun i3 i;simp only [A5,Zo,A1] at e ⊢
       cases hc:Nat.beq k i with
       | true=>exact b2
       | false=>exact e
   . cases h
theorem A26 {X:List (Nat × TS)}:∀ {sl:List (Nat × SV)} {k:Nat} {x:SV},A1 k (Xz X sl)=some x->A1 k sl=some x
 | [],k,x,h=>by cases h
 | (j,y)::r,k,x,h=>by
  simp only [Xz,YT] at h
  have gone:(X.any λq=>Nat.beq q.1 j)=false->∀ q:List (Nat × SV),A1 j (q.filter λp=>X.any λz=>Nat.beq z.1 p.1)=none:=by
   intro hc q
   induction q with
   | nil=>rfl
   | cons p' r' ih' =>
    simp only [YT];split
    . rename_i hc';simp only [A1]
      cases hb':Nat.beq p'.1 j with
      | true=>have:=QD hb';rw [this,hc] at hc';cases hc'
      | false=>exact ih'
    . exact ih'
  simp only [A1]
  cases hb:Nat.beq j k with
  | true =>
   have:=QD hb;subst this
   cases hc:(X.any λq=>Nat.beq q.1 j) with
   | true =>
    rw [QC hc] at h;simp only [A1,hb,cond] at h;exact h
   | false =>
    rw [QB (by rw [hc];exact Bool.false_ne_true),gone hc] at h
    cases h
  | false =>
   simp only [cond];split at h
   . simp only [A1,hb,cond] at h;exact A26 h
   . exact A26 h
theorem Ash {α β:Type} (f:α->β) (h:Nat):∀ l:List (Nat × α),M2 h (Am f l)=Am f (M2 h l)
 | []=>rfl
 | (j,x)::r=>by
  have ih:=Ash f h r
  show (bif Nat.beq j h then M2 h (Am f r) else (j,f x)::M2 h (Am f r))=Am f (bif Nat.beq j h then M2 h r else (j,x)::M2 h r)
  cases Nat.beq j h with
  | true=>exact ih
  | false =>
   show (j,f x)::M2 h (Am f r)=(j,f x)::Am f (M2 h r);rw [ih]
theorem Asg {nt:Nat}:∀ (l:List Nat) {s s':St3},Amg l s=some s'->Nk l (s.st nt)=some (s'.st nt)
 | [],s,s',h=>by obtain rfl:=QA h;rfl
 | k::r,s,s',h=>by
  simp only [Amg] at h
  cases hc:(Nat.blt k 1000&&s.clean k) with
  | false=>rw [hc] at h;cases h
  | true =>
   rw [hc] at h;simp only [cond] at h;simp only [QH] at hc;have hcl:=hc.2;unfold St3.clean at hcl;simp only [QH,QK] at hcl;have ih:=Asg (nt:=nt) r h
   have hd:(s.st nt).delBox k=some (({ s with boxes:=M2 k s.boxes }:St3).st nt):=by
    unfold St.delBox
    have h1:(s.st nt).slots.all (λp=>!p.2.men k)=true:=by
     simp only [St3.st,Am,YB,QK,Function.comp,Aze];exact hcl.1
    have h2:Tk k (s.st nt).boxes=true:=by
     simp only [Tk,St3.st,Am,YB,QK,Function.comp,XA,XH];intro p hp
     exact .inr (Bkz (by simpa using hcl.2 p hp))
    rw [hc.1,h1,h2]
    have hL:∀ j,j ≠ k->A5 s.boxes j=A5 (M2 k s.boxes) j:=λj hj=>by
     unfold A5;rw [Jm hj]
    simp only [ZO,cond,QF,St3.st];congr 1
    . exact Q3 λp hp=>Afg hL (by simpa using hcl.1 p hp)
    . rw [<- Ash];congr 1
      exact Q3 λp hp=>A45 hL (by simpa using hcl.2 p hp)
   simp only [Nk,hd];exact ih
theorem Tm.dec1_ok {X:Tm} {s:St3} {x:X.den} (h:X.dec1 s=some x) {nt:Nat} {Γ:Ctx} {w:World} {E:Env} {tmps:Array Value} (hs:A6 Γ w E (s.st nt) tmps):∃ E',A6 Γ w E' ((X.enc x).st nt) tmps:=by
 unfold Tm.dec1 at h;split at h
 . rename_i s2 hd;split at h
   . rename_i a b h1 h2;obtain rfl:=QA h
     have hs1:A6 Γ w E (({ s with slots:=Xz X.slots s.slots }:St3).st nt) tmps:=hs.less λt y hy=>by
      simp only [St3.st,Au] at hy ⊢;obtain ⟨z,hz,rfl⟩:=QI.1 hy;rw [A26 hz];rfl
     obtain ⟨E',hs2⟩:=Wo _ hs1 (Asg _ hd);obtain ⟨b1,b2,b3⟩:=Ask (L:=A5 s2.boxes) h2;refine ⟨E',hs2.sub rfl (λt y hy=>?_) (λk b' hb=>?_) (λk b hb=>?_)⟩
     . simp only [Tm.enc,St3.st] at hy;rw [b3] at hy;exact Asi h1 _ t y hy
     . simp only [Tm.enc,St3.st] at hb;rw [b3] at hb;exact b1 k b' hb
     . simp only [Tm.enc,St3.st];rw [b3];exact b2 k b hb
   . cases h
 . cases h
theorem Xl {nt:Nat} {Γ:Ctx} {w:World} {tmps:Array Value}:∀ {l:List (Nat × Sh)} {s s':St3} {E:Env},Mn l s=some s'->A6 Γ w E (s.st nt) tmps->∃ E',A6 Γ w E' (s'.st nt) tmps
 | [],s,s',E,h,hs=>by
  simp only [Mn,QF] at h;subst h;exact ⟨E,hs⟩
 | (t,sh)::r,s,s',E,h,hs=>by
  have go:∀ {q},Ql s t sh=some q->(bif q.1 then Mn r q.2 else none)=some s'->∃ E',A6 Γ w E' (s'.st nt) tmps:=by
   rintro ⟨g,s1⟩ h1 h2
   cases g with
   | false=>cases h2
   | true =>
    obtain ⟨x',ob,q1,q2⟩:=Xm (nt:=nt) h1 rfl
    obtain ⟨E1,hs1⟩:=Fd [(t,x')] (s':=s1.st nt) (obs:=ob++[]) hs (by simp only [Gb,q1]) (λp hp=>by simp only [XT] at hp;exact q2 p hp)
    exact Xl (l:=r) h2 hs1
  simp only [Mn] at h;split at h
  . exact Xl (l:=r) h hs
  . split at h
    . rename_i hq;exact go hq h
    . cases h
theorem Tm.dec_ok {X:Tm} {s:St3} {x:X.den} (h:X.dec s=some x) {nt:Nat} {Γ:Ctx} {w:World} {E:Env} {tmps:Array Value} (hs:A6 Γ w E (s.st nt) tmps):∃ E',A6 Γ w E' ((X.enc x).st nt) tmps:=by
 unfold Tm.dec at h;split at h
 . rename_i s1 h1;obtain ⟨E1,hs1⟩:=Xl h1 hs;exact Tm.dec1_ok h hs1
 . cases h
end Go.Ev

/- DERIVED. A call that is handed boxes or hands out boxes, decided. -/
namespace Go.Ev
open Go
variable {P:Program} {T:Ty}
def SV.renC (σ:Nat->Nat):SV->SV
 | .hw h=>.hw (σ h)
 | .hs h o l=>.hs (σ h) o l
 | .hp h r c=>.hp (σ h) r c
 | x=>x
def SV.renV (σ:Nat->Nat):SV->SV
 | .agg cs=>.agg (cs.map (SV.renC σ))
 | x=>x.renC σ
def SV.ren3 (σ:Nat->Nat):SV->SV
 | .tup cs=>.tup (cs.map (SV.renV σ))
 | x=>x.renV σ
def SV.okC (p:Nat->Bool):SV->Bool
 | .hw h=>p h
 | .hs h _ _=>p h
 | .hp h _ _=>p h
 | _=>true
def SV.okV (p:Nat->Bool):SV->Bool
 | .agg cs=>cs.all (SV.okC p)
 | x=>x.okC p
def SV.ok3 (p:Nat->Bool):SV->Bool
 | .tup cs=>cs.all (SV.okV p)
 | x=>x.okV p
def SV.clC:SV->Bool
 | .d (.sl _) []=>true
 | .d t _=>t.closed
 | .rf _=>false
 | .dead=>false
 | _=>true
def SV.clV:SV->Bool
 | .agg cs=>cs.all SV.clC
 | x=>x.clC
def SV.cl3:SV->Bool
 | .tup cs=>cs.all SV.clV
 | x=>x.clV
def B3.cl:B3->Bool
 | .arr _ t _ _=>t.closed
 | .rep _ _ _ cs=>cs.all SV.clC
 | .var _ _ _ cs=>cs.all SV.clC
 | .tree _ t _ _=>t.flat
 | .hole _ _ _ _ _ _ _=>false
def B3.okB (p:Nat->Bool):B3->Bool
 | .arr _ _ _ _=>true
 | .var _ _ _ cs=>cs.all (SV.okC p)
 | .tree _ _ _ _=>true
 | _=>false
def B3.ren3 (σ:Nat->Nat):B3->B3
 | .var e hf fz cs=>.var e hf fz (cs.map (SV.renC σ))
 | b=>b
theorem Baz {σ:Nat->Nat} (b:B3):(b.ren3 σ).len=b.len:=by cases b <;> rfl
section
variable {L L':Nat->Nat} {σ:Nat->Nat} {p:Nat->Bool}
theorem Ann (hL:∀ k,p k=true->L (σ k)=L' k) {x:SV} (ho:x.okC p=true):(x.renC σ).c L=(x.c L').ren σ:=by
 cases x <;> first | rfl | skip;simp only [SV.renC,SV.c,C.ren];rw [hL _ ho]
theorem Anm (hL:∀ k,p k=true->L (σ k)=L' k) {x:SV} (ho:x.okV p=true):(x.renV σ).v L=(x.v L').ren σ:=by
 cases x with
 | agg cs =>
  simp only [SV.renV,SV.v,V.ren,XC];congr 1;exact ZE λy hy=>Ann hL (QK.1 ho y hy)
 | hw h=>exact ZY V.one (Ann (x:=.hw h) hL ho)
 | _=>rfl
theorem Blq (hL:∀ k,p k=true->L (σ k)=L' k) {x:SV} (ho:x.ok3 p=true):(x.ren3 σ).s L=(x.s L').ren σ:=by
 cases x with
 | tup cs =>
  simp only [SV.ren3,SV.s,S.ren,XC];congr 1;exact ZE λy hy=>Anm hL (QK.1 ho y hy)
 | hw h=>exact ZY S.v (Anm (x:=.hw h) hL ho)
 | agg cs=>exact ZY S.v (Anm (x:=.agg cs) hL ho)
 | _=>rfl
theorem Bfi {x:SV} (ho:x.okC p=true):(x.c L).okH p=true:=by cases x <;> first | rfl | exact ho
theorem Bfh {x:SV} (ho:x.okV p=true):(x.v L).okH p=true:=by
 cases x with
 | agg cs =>
  simp only [SV.v,V.okH,YB,QK,Function.comp];exact λy hy=>Bfi (QK.1 ho y hy)
 | hw h=>exact ho
 | hs h o l=>exact ho
 | hp h r c=>exact ho
 | _=>rfl
theorem Bqm {x:SV} (ho:x.ok3 p=true):(x.s L).okH p=true:=by
 cases x with
 | tup cs =>
  simp only [SV.s,S.okH,YB,QK,Function.comp];exact λy hy=>Bfh (QK.1 ho y hy)
 | agg cs=>exact Bfh (x:=.agg cs) ho
 | hw h=>exact ho
 | hs h o l=>exact ho
 | hp h r c=>exact ho
 | _=>rfl
theorem hd1_closed {l:List I} (h:∀ c ∈ l,IClosed c):IClosed (hd1 l):=by
 cases l with
 | nil=>exact .lit _
 | cons c r=>exact h c (by simp)
theorem O7 {x:SV} (h:x.clC=true):(x.c L).allI IClosed:=by
 cases x with
 | d t y =>
  cases t with
  | sl t =>
   cases y with
   | nil=>exact .nil _ _ _
   | cons a b=>exact hd1_closed (Tj (.sl t) (a::b) h)
  | _=>exact hd1_closed (Tj _ y h)
 | rf=>cases h
 | dead=>cases h
 | hw=>trivial
 | hs=>trivial
 | hp=>trivial
 | _=>exact .lit _
theorem Zv {x:SV} (h:x.clV=true):(x.v L).allI IClosed:=by
 cases x with
 | agg cs =>
  simp only [SV.v,V.allI,QQ];intro j c hc;obtain ⟨y,hy,rfl⟩:=QI.1 hc;exact O7 (Eu h hy)
 | d t y=>exact O7 (L:=L) (x:=.d t y) h
 | rf cs=>exact O7 (L:=L) (x:=.rf cs) h
 | hw k=>exact O7 (L:=L) (x:=.hw k) h
 | hs k o l=>exact O7 (L:=L) (x:=.hs k o l) h
 | hp k o l=>exact O7 (L:=L) (x:=.hp k o l) h
 | tup cs=>exact O7 (L:=L) (x:=.tup cs) h
 | dead=>exact O7 (L:=L) (x:=.dead) h
theorem Bs2 {x:SV} (h:x.cl3=true):(x.s L).allI IClosed:=by
 cases x with
 | tup cs =>
  simp only [SV.s,S.allI,QQ];intro j c hc;obtain ⟨y,hy,rfl⟩:=QI.1 hc;exact Zv (Eu h hy)
 | dead=>trivial
 | d t y=>exact Zv (L:=L) (x:=.d t y) h
 | rf cs=>exact Zv (L:=L) (x:=.rf cs) h
 | hw k=>exact Zv (L:=L) (x:=.hw k) h
 | hs k o l=>exact Zv (L:=L) (x:=.hs k o l) h
 | hp k o l=>exact Zv (L:=L) (x:=.hp k o l) h
 | agg cs=>exact Zv (L:=L) (x:=.agg cs) h
theorem Bq4 {b:B3} (h:b.cl=true):∀ (i:Nat) (q:List C) (j:Nat) (c:C),(b.box L).rows[i]? = some q->q[j]? = some c->c.allI λy=>IClosed y \/ ((b.box L).tr=true/\A6p y):=by
 intro i q j c hq hc
 cases b with
 | hole=>cases h
 | tree e t fz xs =>
  simp only [B3.box,QQ] at hq;obtain ⟨y,hy,rfl⟩:=QI.1 hq;rw [QQ] at hc;obtain ⟨z,hz,rfl⟩:=QI.1 hc;exact .inr ⟨rfl,Bmh t y h z (ZN hz)⟩
 | arr e t fz xs =>
  simp only [B3.box,QQ] at hq;obtain ⟨y,hy,rfl⟩:=QI.1 hq;rw [QQ] at hc;obtain ⟨z,hz,rfl⟩:=QI.1 hc;exact .inl (Tj t y h z (ZN hz))
 | rep e fz n cs =>
  simp only [B3.box,XX] at hq;split at hq
  . obtain rfl:=QA hq;rw [QQ] at hc;obtain ⟨z,hz,rfl⟩:=QI.1 hc;exact C.allI_mono (λ_ h=>.inl h) (O7 (Eu h hz))
  . cases hq
 | var e hf fz cs =>
  simp only [B3.box] at hq
  cases i with
  | zero =>
   obtain rfl:=QA hq;rw [QQ] at hc;obtain ⟨z,hz,rfl⟩:=QI.1 hc;exact C.allI_mono (λ_ h=>.inl h) (O7 (Eu h hz))
  | succ i=>simp at hq
theorem Av8 {b:B3} (hL:∀ k,p k=true->L (σ k)=L' k) (h:b.okB p=true):(b.ren3 σ).box L=(b.box L').ren σ/\(b.box L').okH p=true:=by
 cases b with
 | hole=>cases h
 | rep=>cases h
 | tree e t fz xs=>exact ⟨(A1p (b:=.tree e t fz xs) (L:=L') rfl).symm,A1q (b:=.tree e t fz xs) rfl⟩
 | arr e t fz xs=>exact ⟨(A1p (b:=.arr e t fz xs) (L:=L') rfl).symm,A1q (b:=.arr e t fz xs) rfl⟩
 | var e hf fz cs =>
  have h:cs.all (SV.okC p)=true:=h;refine ⟨?_,?_⟩
  . simp only [B3.ren3,B3.box,Box.ren,ZA,QT,XN,XC];congr 2;exact ZE λx hx=>Ann hL (QK.1 h x hx)
  . simp only [B3.box,Box.okH,XJ,KT,XR,YB,QK,Function.comp];exact λx hx=>Bfi (QK.1 h x hx)
theorem A1i {f:B3->B3}:∀ {B:List (Nat × B3)} {R:List (Nat × Nat)},C6 B R=true->C6 (Am f B) R=true
 | [],[],_=>rfl
 | (k,_)::B,(k',_)::R,h=>by
  simp only [C6,QH] at h;simp only [Am,QT,C6,QH];exact ⟨h.1,A1i h.2⟩
 | [],_::_,h=>by cases h
 | _::_,[],h=>by cases h
end
theorem A01 {L L':Nat->Nat} {x:SV} (hL:∀ k,x.menC k=true->L k=L' k):x.c L=x.c L':=by
 cases x <;> first | rfl | skip;rename_i k;simp only [SV.c]
 rw [hL k (by simp [SV.menC])]
theorem A80 {L L':Nat->Nat} {x:SV} (hL:∀ k,x.menV k=true->L k=L' k):x.v L=x.v L':=by
 cases x with
 | agg cs =>
  simp only [SV.v];congr 1;exact ZE λy hy=>A01 λk hk=>hL k (ZL.2 ⟨y,hy,hk⟩)
 | hw k=>exact ZY V.one (A01 (x:=.hw k) hL)
 | _=>rfl
theorem Bax {L L':Nat->Nat} {x:SV} (hL:∀ k,x.men k=true->L k=L' k):x.s L=x.s L':=by
 cases x with
 | tup cs =>
  simp only [SV.s];congr 1;exact ZE λy hy=>A80 λk hk=>hL k (ZL.2 ⟨y,hy,hk⟩)
 | hw k=>exact ZY S.v (A80 (x:=.hw k) hL)
 | agg cs=>exact ZY S.v (A80 (x:=.agg cs) hL)
 | _=>rfl
theorem B2t {L L':Nat->Nat} {b:B3} (hL:∀ k,b.men k=true->L k=L' k):b.box L=b.box L':=by
 cases b with
 | hole e t fz xs row col k=>simp only [B3.box];rw [hL k (by simp [B3.men])]
 | tree=>rfl
 | arr=>rfl
 | rep e fz n cs =>
  simp only [B3.box];rw [ZE λy hy=>A01 λk hk=>hL k (ZL.2 ⟨y,hy,hk⟩)]
 | var e hf fz cs =>
  simp only [B3.box];rw [ZE λy hy=>A01 λk hk=>hL k (ZL.2 ⟨y,hy,hk⟩)]
def CK.backs:CK->List Nat
 | .back j=>[j]
 | _=>[]
def PK.backs:PK->List Nat
 | .im _=>[]
 | .one c=>c.backs
 | .mix cs=>cs.flatMap CK.backs
 | .pst _ _=>[]
def M8 (f0:Nat) (ts:List PK) (o:Oper) (s:St3):Option (Bool × HP ts × List Nat × List (Nat × Nat)) :=
 match o.op with
 | .call c=>match c.callee with
  | .value f=>match A6g (s.val f) with
   | some (fid,caps)=>bif Nat.beq fid f0 then Qh s.boxes 1000 ts (c.args.toList.map s.val++caps) else none
   | none=>none
  | _=>none
 | _=>none
def A4x (rs:List PK):List Nat:=(Ar 0 rs).map (·.1)
def Kn (E:Ji) (hb:Nat) (q:List (Nat × Nat)):List (Nat × Nat):=(A4x E.rs).map (λk=>(k,hb+k))++q
def Eo (E:Ji) (rn:List (Nat × Nat)):List Nat:=(E.rs.flatMap PK.backs).map (Es rn)++E.mv.map (Es rn)
def B3.hfB:B3->Bool
 | .arr _ _ _ _=>true
 | .rep _ _ _ _=>true
 | .var _ hf _ _=>hf
 | .tree _ _ _ _=>true
 | .hole _ _ _ _ _ _ _=>false
theorem hfB_box {L:Nat->Nat} {b:B3} (h:b.hfB=true):(b.box L).hf=true:=by cases b <;> first | rfl | exact h | cases h
def Am2 (K:Aj) (E:Ji) (hb:Nat) (q:List (Nat × Nat)) (s:St3):Bool :=
 E.mv.isEmpty || (s.boxes.all (λp=>p.2.hfB)&&q.all λp=>!E.mv.contains p.1 || (Nat.blt p.2 1000 || K.mv.contains p.2))
def Hw (B bs:List (Nat × B3)) (kill:List Nat):List (Nat × Nat)->Bool
 | []=>true
 | p::r=>bif kill.any (Nat.beq p.2) then Hw B bs kill r else Nat.beq (A5 B p.1) (A5 bs p.2)&&Hw B bs kill r
def Ahv (E:Ji) (hb:Nat) (s:St3) (x:HP E.ts) (bor:List Nat) (q:List (Nat × Nat)) (y:HR E.rs (Ar 1000 E.ts)):Bool :=
 Ge (Kn E hb q)&&C6 (Bd E y) (Kn E hb q)&&C6 (Hu E x) q&&(Hu E x).all (λp=>Nat.ble 1000 p.1)&&(Bd E y).all (λp=>p.2.okB λk=>(A1 k (Bd E y)).isSome) &&
 (A4x E.rs).all (λk=>Nat.blt (hb+k) 1000&&(A1 (hb+k) s.boxes).isNone&&s.clean (hb+k))&&q.all (λp=>!bor.any (Nat.beq p.2)) &&
 (bor.isEmpty || ((Jo (Cm 0 E.rs (Q1 y))).cl3&&(Bd E y).all (λp=>p.2.cl)))&&(Jo (Cm 0 E.rs (Q1 y))).ok3 (λk=>(A1 k (Bd E y)).isSome) &&
 (Eo E (Kn E hb q)).all (λh=>s.boxes.all (λp=>!p.2.men h))
def M6 (K:Aj) (E:Ji) (hb:Nat) (s:St3) (x:HP E.ts) (bor:List Nat) (q:List (Nat × Nat)) (y:HR E.rs (Ar 1000 E.ts)):Bool:=Ahv E hb s x bor q y&&Am2 K E hb q s
def Br (E:Ji) (hb:Nat) (s:St3) (q:List (Nat × Nat)) (y:HR E.rs (Ar 1000 E.ts)):SV × St3 :=
 ((Jo (Cm 0 E.rs (Q1 y))).ren3 (Es (Kn E hb q)),
  ⟨Am (λx=>bif (Eo E (Kn E hb q)).any (λh=>x.men h) then .dead else x) s.slots,A27 (Am (B3.ren3 (Es (Kn E hb q))) (Bd E y)) (Kn E hb q) s.boxes⟩)
theorem A2b:∀ {a b:List (Nat × Nat)},Ge (a++b)=true->Ge b=true
 | [],_,h=>h
 | (k,h')::r,b,h=>A2b (Nx h).2
theorem A20 {B bs:List (Nat × B3)} {kill:List Nat}:∀ {q:List (Nat × Nat)},Hw B bs kill q=true->∀ p ∈ q,kill.any (Nat.beq p.2)=true \/ A5 B p.1=A5 bs p.2
 | [],_,p,hp=>by cases hp
 | a::r,h,p,hp=>by
  simp only [Hw] at h
  cases hk:kill.any (Nat.beq a.2) with
  | true =>
   rw [hk] at h;rcases QX.1 hp with rfl | hp
   . exact .inl hk
   . exact A20 h p hp
  | false =>
   rw [hk] at h;simp only [cond,QH] at h;rcases QX.1 hp with rfl | hp
   . exact .inr (QD h.1)
   . exact A20 h.2 p hp
theorem Co {β:Type} {k:Nat} {b:β} {l:List (Nat × β)} (h:A1 k l=some b):(k,b) ∈ l:=Dx h
theorem Akr {E:Ji} {hb:Nat} {o:Oper} {s s':St3} {nt:Nat} {x:HP E.ts} {bor:List Nat} {q:List (Nat × Nat)} {y:HR E.rs (Ar 1000 E.ts)} {K:Aj}
  (h:M8 E.f E.ts o s=some (true,x,bor,q)) (hc:M6 K E hb s x bor q y=true) (hg:Hw (Bd E y) s.boxes (Eo E (Kn E hb q)) q=true) (hF:E.Den P nt x y)
  (hp:(Br E hb s q y).2.put3 K o.dst (Br E hb s q y).1=some s') :
  ∃ D obs,Fg P T K o D (s.st nt)=some (s'.st nt,obs) /\ ∀ p ∈ obs,p:=by
 obtain ⟨dst,op,type,pos,aft,guard⟩:=o;unfold M8 at h;simp only at h;split at h
 case h_2=>cases h
 rename_i c;split at h
 case h_2=>cases h
 rename_i f hf;split at h
 case h_2=>cases h
 rename_i fid caps hcal
 cases hcf:Nat.beq fid E.f with
 | false=>rw [hcf] at h;cases h
 | true =>
 rw [hcf] at h;simp only [cond] at h;obtain rfl:=QD hcf;generalize hrn:Kn E hb q=rn at *;unfold M6 at hc;rw [QH] at hc;obtain ⟨hc,cm⟩:=hc;unfold Ahv at hc;rw [hrn] at hc;simp only [QH] at hc;obtain ⟨⟨⟨⟨⟨⟨⟨⟨⟨c1,c2⟩,c3⟩,c4⟩,c5⟩,c6⟩,c7⟩,c8⟩,c9⟩,c10⟩:=hc;have hrn':rn=(A4x E.rs).map (λk=>(k,hb+k))++q:=hrn.symm
 have c1q:Ge q=true:=A2b (by rw [<- hrn'];exact c1)
 have qrn:∀ p ∈ q,p ∈ rn:=λp hp=>by rw [hrn'];exact QG.2 (.inr hp)
 have fwdm:∀ k h,(k,h) ∈ rn->Es rn k=h/\M9 rn h=some k/\A1 k rn=some h:=λk h hm=>by
  obtain ⟨e1,e2⟩:=Gq c1 hm
  exact ⟨by unfold Es;rw [e1],e2,e1⟩
 have outS:∀ k,(A1 k (Ca (Bd E y))).isSome=(A1 k rn).isSome:=λk=>by
  unfold Ca;rw [Au,KB,Dq c2 k]
 have inS:∀ k,(A1 k (Ca (Hu E x))).isSome=(A1 k q).isSome:=λk=>by
  unfold Ca;rw [Au,KB,Dq c3 k]
 obtain ⟨⟨ob,a1,a2⟩,a3,a4,a5⟩:=Asy (hd:=λk h=>q.any λp=>Nat.beq p.1 k&&Nat.beq p.2 h) (L:=A5 (Hu E x)) h rfl
  (λp hp=>ZL.2 ⟨p,hp,by simp⟩) (λk b hb=>by
   have:=A1w c3 c1q hb;simp only [A5]
   show (match A1 k (Hu E x) with | some b=>b.len | none=>0)=b.len
   rw [this])
 obtain ⟨cs,k1,k2⟩:=Aeq (L:=A5 s.boxes) hcal
 have hfa:(s.val f).alive=true:=Bw λe=>by rw [e] at hcal;cases hcal
 have hfv:=Ci (nt:=nt) rfl hfa
 have hmap:c.args.toList.map (s.st nt).val++cs.map (λx=>S.v (V.one (C.i x)))=(c.args.toList.map s.val++caps).map (SV.s (A5 s.boxes)):=by
  rw [YS,k2,XC];congr 1;exact ZE λz hz=>Ci rfl (a5 _ (QG.2 (.inl (ZK.2 ⟨z,hz,rfl⟩))))
 have blook:∀ h,A1 h (Br E hb s q y).2.boxes=match M9 rn h with | some k=>(A1 k (Bd E y)).map (B3.ren3 (Es rn)) | none=>A1 h s.boxes:=λh=>by
  have:=A7a (bs:=s.boxes) (A1i (f:=B3.ren3 (Es rn)) c2) c1 h;simp only [Au] at this;refine Eq.trans ?_ this;rw [<- hrn];rfl
 have lenk:∀ k h,(k,h) ∈ rn->A5 (Br E hb s q y).2.boxes h=A5 (Bd E y) k:=λk h hm=>by
  unfold A5;rw [blook h,(fwdm k h hm).2.1]
  show (match (A1 k (Bd E y)).map (B3.ren3 (Es rn)) with | some b=>b.len | none=>0)=(match A1 k (Bd E y) with | some b=>b.len | none=>0)
  cases A1 k (Bd E y) with
  | none=>rfl
  | some b=>exact Baz b
 have lenS:∀ h,s.clean h=true \/ (∀ k,M9 rn h=some k->(k,h) ∈ q/\(Eo E rn).any (Nat.beq h)=false)->s.clean h=true \/ A5 (Br E hb s q y).2.boxes h=A5 s.boxes h:=by
  intro h hh;rcases hh with hh | hh
  . exact .inl hh
  . cases hw:M9 rn h with
    | none =>
     right;unfold A5;rw [blook h,hw]
    | some k =>
     obtain ⟨h1,h2⟩:=hh k hw;right;rw [lenk k h (qrn _ h1)];rcases A20 hg _ h1 with h3 | h3
     . rw [h3] at h2;cases h2
     . exact h3
 have newC:∀ k h,(k,h) ∈ rn->(k,h) ∈ q \/ (h<1000/\A1 h s.boxes=none/\s.clean h=true):=λk h hm=>by
  rw [hrn'] at hm;rcases QG.1 hm with hm | hm
  . obtain ⟨k',hk',e⟩:=ZK.1 hm;obtain ⟨rfl,rfl⟩:=KF e;have:=QK.1 c6 k' hk';simp only [QH] at this
    exact .inr ⟨by simpa [XD] using this.1.1,by simpa using this.1.2,this.2⟩
  . exact .inl hm
 have lenM:∀ h,(Eo E rn).any (Nat.beq h)=false->s.clean h=true \/ A5 (Br E hb s q y).2.boxes h=A5 s.boxes h:=λh hk=>by
  cases hw:M9 rn h with
  | none=>exact lenS h (.inr λk e=>by rw [hw] at e;cases e)
  | some k =>
   rcases newC k h (A6h hw) with h1 | h1
   . exact lenS h (.inr λk' e=>by rw [hw] at e;obtain rfl:=QA e;exact ⟨h1,hk⟩)
   . exact .inl h1.2.2
 have cleanS:∀ {t:Nat} {z:SV} {h:Nat},A1 t s.slots=some z->s.clean h=true->z.men h=false:=λ{t z h} hz hcl=>by
  unfold St3.clean at hcl;simp only [QH,QK,XH] at hcl;exact hcl.1 _ (Co hz)
 have Tk:∀ {t:Nat} {z:B3} {h:Nat},A1 t s.boxes=some z->s.clean h=true->z.men h=false:=λ{t z h} hz hcl=>by
  unfold St3.clean at hcl;simp only [QH,QK,XH] at hcl;exact hcl.2 _ (Co hz)
 have renL:∀ k,(A1 k (Bd E y)).isSome=true->A5 (Br E hb s q y).2.boxes (Es rn k)=A5 (Bd E y) k:=λk hk=>by
  rw [Dq c2 k] at hk;obtain ⟨h',hh'⟩:=QZ.1 hk;have hm':=Dx hh';rw [(fwdm k h' hm').1,lenk k h' hm']
 have inLen:∀ p ∈ q,A5 s.boxes p.2=A5 (Hu E x) p.1:=λp hp=>by
  have hS:(A1 p.1 (Hu E x)).isSome=true:=by rw [Dq c3 p.1,(Gq c1q (show (p.1,p.2) ∈ q from hp)).1];rfl
  obtain ⟨b,hb⟩:=QZ.1 hS;obtain ⟨h',b',i1,i2,i3,_⟩:=a4 p.1 b (Co hb);have e1:=(Gq c1q i1).1;rw [(Gq c1q (show (p.1,p.2) ∈ q from hp)).1] at e1;obtain rfl:=QA e1;unfold A5;rw [hb,i2];exact i3
 have hval:(Br E hb s q y).1.s (A5 (Br E hb s q y).2.boxes)=((Jo (Cm 0 E.rs (Q1 y))).s (A5 (Bd E y))).ren (Es rn):=by
  have:(Br E hb s q y).1=(Jo (Cm 0 E.rs (Q1 y))).ren3 (Es rn):=by rw [<- hrn];rfl
  rw [this];refine Blq (p:=λk=>(A1 k (Bd E y)).isSome) (λk hk=>?_) c9;rw [Dq c2 k] at hk;obtain ⟨h',hh'⟩:=QZ.1 hk;have hm':=Dx hh';rw [(fwdm k h' hm').1,lenk k h' hm']
 have hput:=Vh (nt:=nt) hp;rw [hval] at hput
 let cb:CallB:=⟨E.ts.map PK.isIm,(Cm 1000 E.ts x).map (SV.v (A5 (Hu E x))),(Jo (Cm 0 E.rs (Q1 y))).s (A5 (Bd E y)),Ca (Hu E x),Ca (Bd E y),Es rn,M9 rn,λk h=>q.any λp=>Nat.beq p.1 k&&Nat.beq p.2 h,(Br E hb s q y).2.st nt,E.mv⟩
 have hok:cb.OK P K E.f (s.st nt) bor:=by
  refine ⟨hF,λk h hq=>?_,λk hk=>?_,λh k hk=>?_,λk b hb=>?_,λk b hb=>?_,?_,?_,a3,λh=>?_,λt z hz=>?_,λk hk hi=>?_,?_⟩
  . obtain ⟨p,hp1,hp2⟩:=ZL.1 hq;simp only [QH] at hp2;have e1:=QD hp2.1;have e2:=QD hp2.2
    have hm':(k,h) ∈ q:=by rw [<- e1,<- e2];exact hp1
    refine ⟨(fwdm k h (qrn _ hm')).1,?_⟩;show (A1 k (Ca (Hu E x))).isSome=true;rw [inS k,(Gq c1q hm').1];rfl
  . have hk:(A1 k (Ca (Bd E y))).isSome=true:=hk;rw [outS k] at hk;obtain ⟨h',hh'⟩:=QZ.1 hk;obtain ⟨e1,e2,_⟩:=fwdm k h' (Dx hh');show M9 rn (Es rn k)=some k;rw [e1,e2]
  . have hk:M9 rn h=some k:=hk;obtain ⟨e1,e2,e3⟩:=fwdm k h (A6h hk);refine ⟨e1,?_⟩;show (A1 k (Ca (Bd E y))).isSome=true;rw [outS k,e3];rfl
  . have hb:A1 k (Ca (Hu E x))=some b:=hb;unfold Ca at hb;rw [Au] at hb;obtain ⟨b3,hb3,rfl⟩:=QI.1 hb;have hmem:=Co hb3;obtain ⟨h',b',i1,i2,i3,i4,i5⟩:=a4 k b3 hmem;obtain ⟨e1,e2,e3⟩:=fwdm k h' (qrn _ i1);have hk:=QK.1 c4 _ hmem;have hnb:=QK.1 c7 _ i1
    refine ⟨by simpa using hk,?_,(i5 _).1,?_,?_,?_⟩
    . show A1 (Es rn k) (Am (B3.box (A5 s.boxes)) s.boxes)=_;rw [e1,Au,i2];exact ZY some (i4 _ _ _ λp hp=>⟨(fwdm p.1 p.2 (qrn _ hp)).1,inLen p hp⟩)
    . refine QK.2 λr hr=>QK.2 λc hc=>C.okH_mono (λk hk=>?_) (QK.1 (QK.1 (i5 (A5 (Hu E x))).2 r hr) c hc);show (A1 k (Ca (Hu E x))).isSome=true;rw [inS k];obtain ⟨p,hp,hp2⟩:=ZL.1 hk;obtain rfl:=QD hp2;rw [(Gq c1q (show (p.1,p.2) ∈ q from hp)).1];rfl
    . show Es rn k ∉ bor;rw [e1];intro hmb
      have:(bor.any (Nat.beq h'))=true:=ZL.2 ⟨h',hmb,by simp⟩
      simp only [this,ZJ] at hnb
      cases hnb
    . show (A1 k (Ca (Bd E y))).isSome=true;rw [outS k,e3];rfl
  . have hb:A1 k (Ca (Bd E y))=some b:=hb
    have hS:(A1 k (Ca (Bd E y))).isSome=true:=by rw [hb];rfl
    rw [outS k] at hS;obtain ⟨h',hh'⟩:=QZ.1 hS;obtain ⟨e1,e2,e3⟩:=fwdm k h' (Dx hh');unfold Ca at hb;rw [Au] at hb;obtain ⟨b3,hb3,rfl⟩:=QI.1 hb;have hok0:=(Av8 renL (QK.1 c5 _ (Co hb3))).2;refine ⟨QK.2 λr hr=>QK.2 λc hc=>C.okH_mono (λk hk=>?_) (QK.1 (QK.1 hok0 r hr) c hc),λhn=>?_⟩
    . show (A1 k (Ca (Bd E y))).isSome=true;unfold Ca;rw [Au,KB];exact hk
    have hn:A1 k (Ca (Hu E x))=none:=hn;rcases newC k h' (Dx hh') with h1 | ⟨h1,h2,_⟩
    . have:(A1 k (Ca (Hu E x))).isSome=true:=by rw [inS k,(Gq c1q h1).1];rfl
      rw [hn] at this;cases this
    . show A1 (Es rn k) (Am _ s.boxes)=none/\Es rn k<1000;rw [e1,Au,h2];exact ⟨rfl,h1⟩
  . simp only [XA,YU,QH] at c8;rcases c8 with c8 | ⟨c8,c8'⟩
    . exact .inl c8
    . refine .inr ⟨Bs2 c8,λk b hb=>?_⟩;have hb:A1 k (Ca (Bd E y))=some b:=hb;unfold Ca at hb;rw [Au] at hb;obtain ⟨b3,hb3,rfl⟩:=QI.1 hb;exact Bq4 (QK.1 c8' _ (Co hb3))
  . have : (fun k => (A1 k (Ca (Bd E y))).isSome) = fun k => (A1 k (Bd E y)).isSome := by
     funext k;unfold Ca;rw [Au,KB]
    show S.okH (λk=>(A1 k (Ca (Bd E y))).isSome) _=true;rw [this];exact Bqm c9
  . show A1 h (Am (B3.box (A5 (Br E hb s q y).2.boxes)) (Br E hb s q y).2.boxes)=match M9 rn h with | some k=>(A1 k (Ca (Bd E y))).map (Box.ren (Es rn)) | none=>A1 h (Am (B3.box (A5 s.boxes)) s.boxes)
    rw [Au,blook h]
    cases hw:M9 rn h with
    | some k =>
     simp only;unfold Ca;rw [Au]
     cases hb:A1 k (Bd E y) with
     | none=>rfl
     | some b3=>exact ZY some (Av8 renL (QK.1 c5 _ (Co hb))).1
    | none =>
     simp only;rw [Au]
     cases hb:A1 h s.boxes with
     | none=>rfl
     | some b3 =>
      refine ZY some (B2t λk hk=>?_)
      cases hki:(Eo E rn).any (Nat.beq k) with
      | true =>
       obtain ⟨k2,hk2,hk3⟩:=ZL.1 hki;obtain rfl:=QD hk3;have:=QK.1 (QK.1 c10 _ hk2) _ (Co hb);simp only [hk,ZJ] at this
       cases this
      | false =>
       rcases lenM k hki with h1 | h1
       . rw [Tk hb h1] at hk;cases hk
       . exact h1
  . have hz:A1 t (Am (SV.s (A5 (Br E hb s q y).2.boxes)) (Am (λx=>bif (Eo E (Kn E hb q)).any (λh=>x.men h) then .dead else x) s.slots))=some z:=hz
    rw [hrn,Au,Au,Option.map_map] at hz;obtain ⟨z0,hz0,rfl⟩:=QI.1 hz;simp only [Function.comp]
    cases hki:(Eo E rn).any (λh=>z0.men h) with
    | true=>exact .inl rfl
    | false =>
     right;refine ⟨?_,λm hm=>?_⟩
     rotate_left
     . rw [Aze];obtain ⟨k,hk,rfl⟩:=ZK.1 hm;have:=YP.1 hki (Es rn k) (QG.2 (.inr (ZK.2 ⟨k,hk,rfl⟩)));simpa using this
     show A1 t (Am (SV.s (A5 s.boxes)) s.slots)=_;rw [Au,hz0];refine ZY some (Bax λk hk=>?_)
     cases hki':(Eo E rn).any (Nat.beq k) with
     | true =>
      obtain ⟨k2,hk2,hk3⟩:=ZL.1 hki';obtain rfl:=QD hk3;have:=YP.1 hki _ hk2;rw [hk] at this;exact absurd rfl this
     | false =>
      rcases lenM k hki' with h1 | h1
      . rw [cleanS hz0 h1] at hk;cases hk
      . exact h1.symm
  . have hk:E.mv.contains k=true:=hk;have hi:(A1 k (Ca (Hu E x))).isSome=true:=hi;rw [inS k] at hi;obtain ⟨h',hh'⟩:=QZ.1 hi;have hm':=Dx hh';unfold Am2 at cm;rcases Qbu.1 cm with cm | cm
    . rw [YU.1 cm] at hk;cases hk
    . have:=QK.1 (Bool.and_eq_true_iff.1 cm).2 _ hm';simp only [hk,ZJ,YJ] at this;show Es rn k<1000 \/ K.mv.contains (Es rn k)=true;rw [(fwdm k h' (qrn _ hm')).1];rcases Qbu.1 this with h | h
      . exact .inl (by simpa [XD] using h)
      . exact .inr h
  . unfold Am2 at cm;rcases Qbu.1 cm with cm | cm
    . exact .inl (YU.1 cm)
    . refine .inr λh b hb=>?_;have hb:A1 h (Am (B3.box (A5 s.boxes)) s.boxes)=some b:=hb;rw [Au] at hb;obtain ⟨b3,hb3,rfl⟩:=QI.1 hb;exact hfB_box (QK.1 (Bool.and_eq_true_iff.1 cm).1 _ (Co hb3))
 refine ⟨{ callB:=some cb },cb.OK P K E.f (s.st nt) bor::ob,?_,λp hp=>?_⟩
 . have a1' : K6 cb.hd (s.st nt).box cb.ims (c.args.toList.map (s.st nt).val ++ cs.map fun x => S.v (V.one (C.i x))) cb.args = some (ob, bor) := by
    rw [hmap];exact a1
   simp only [Fg,Alu,hf,hfv,k1,a1'];have:cb.s'.putD K dst (cb.r.ren cb.σ)=some (s'.st nt):=hput;rw [this];rfl
 . rcases QX.1 hp with rfl | hp
   . exact hok
   . exact a2 p hp
def onB {α:Type} (K:Aj) (E:Ji) (hb:Nat) (o:Oper) (s:St3) (x:HP E.ts) (bor:List Nat) (q:List (Nat × Nat)) (y:HR E.rs (Ar 1000 E.ts)) (k:St3->Option α):Option α :=
 bif M6 K E hb s x bor q y then bif Hw (Bd E y) s.boxes (Eo E (Kn E hb q)) q then (match (Br E hb s q y).2.put3 K o.dst (Br E hb s q y).1 with
  | some s'=>k s'
  | none=>none) else none else none
def Vb {α:Type} (K:Aj) (E:Ent3) (hb:Nat) (o:Oper) (s:St3) (k:St3->Option α):Option α :=
 match M8 E.f E.ts o s with
 | some (g,x,bor,q)=>bif g then (match E.m x with
  | some z=>M7 (Ar 1000 E.ts) E.forms z λrs y=>onB K ⟨E.f,E.ts,rs,E.mv⟩ hb o s x bor q y k
  | none=>none) else none
 | none=>none
theorem A1d {α:Type} {K:Aj} {E:Ent3} {hb:Nat} {o:Oper} {s:St3} {nt:Nat} {k:St3->Option α} {r:α} (h:Vb K E hb o s k=some r) (hE:E.Sound P) :
  ∃ s' D obs,Fg P T K o D (s.st nt)=some (s'.st nt,obs)/\(∀ p ∈ obs,p)/\k s'=some r:=by
 unfold Vb at h;split at h
 . rename_i g x bor q hc
   cases g with
   | false=>cases h
   | true =>
    simp only [cond] at h;split at h
    . rename_i z hm;obtain ⟨rs,y,h1,h2⟩:=Qe h (hE nt x z hm);unfold onB at h1
      cases hck:M6 K ⟨E.f,E.ts,rs,E.mv⟩ hb s x bor q y with
      | false=>rw [hck] at h1;cases h1
      | true =>
       rw [hck] at h1;simp only [cond] at h1
       cases hl:Hw (Bd ⟨E.f,E.ts,rs,E.mv⟩ y) s.boxes (Eo ⟨E.f,E.ts,rs,E.mv⟩ (Kn ⟨E.f,E.ts,rs,E.mv⟩ hb q)) q with
       | false=>rw [hl] at h1;cases h1
       | true =>
        rw [hl] at h1;simp only at h1;split at h1
        . rename_i s' hp;obtain ⟨D,obs,q1,q2⟩:=Akr (T:=T) (E:=⟨E.f,E.ts,rs,E.mv⟩) hc hck hl h2 hp;exact ⟨s',D,obs,q1,q2,h1⟩
        . cases h1
    . cases h
 . cases h
end Go.Ev

/- DERIVED. In place of EvTr EvTs EvTt EvTu EvTv EwTr EwTu, where no trees are wanted, but a box's cell is settled. -/
namespace Go.Ev
open Go
variable {P:Program} {T:Ty}
theorem Fs.weak {K:Aj} {o:Oper} {s s1 s2:St} (h:Fs P K o s s1) (hw:Km s1 s2):Fs P K o s s2 :=
 λΓ w E a ro n X hK hX hx hs next Q hn=>h Γ w E a ro n X hK hX hx hs next Q λa' w' hx' ⟨E',hs'⟩=>hn a' w' hx' (hw Γ w' E' a'.tmps hs')
def Aby (_:Ty) (_:Oper) (_:St3):Option (Bool × St3):=none
theorem Akw (_:B8 P T) {K:Aj} {o:Oper} {s s':St3} {nt:Nat} {g:Bool} (h:Aby T o s=some (g,s')) (_:g=true):Fs P K o (s.st nt) (s'.st nt):=by cases h
def Amz (_:Ty) (_:Aj) (_:Oper) (_:St3):Option (Bool × St3):=none
theorem Ath (_:B8 P T) {K:Aj} {o:Oper} {s s':St3} {nt:Nat} {g:Bool} (h:Amz T K o s=some (g,s')) (_:g=true):Fs P K o (s.st nt) (s'.st nt):=by cases h
def Amy (_:Sh) (_:Nat) (_:St3):Option St3:=none
theorem Atg {sh:Sh} {k:Nat} {s s':St3} {nt:Nat} (h:Amy sh k s=some s'):Km (s.st nt) (s'.st nt):=by cases h
def Bq5 {α:Type} (_:Ty) (_:Aj) (_:Nat) (_:Oper) (_:St3) (_:St3->Option α):Option α:=none
theorem Bl0 (_:B8 P T) {α:Type} {K:Aj} {kk:Nat} {o:Oper} {s:St3} {nt:Nat} {k:St3->Option α} {r:α} (h:Bq5 T K kk o s k=some r) :
  ∃ s':St3,Fs P K o (s.st nt) (s'.st nt)/\k s'=some r:=by cases h
theorem Km.trans {s s1 s2:St} (h:Km s s1) (h':Km s1 s2):Km s s2:=λΓ w E tmps hs=>by
 obtain ⟨E',hs'⟩:=h Γ w E tmps hs;exact h' Γ w E' tmps hs'
inductive Shut where
 | hole (kk:Nat)
 | stl (h j:Nat) (sh:Sh)
theorem B33 {s s':St} (hn:s'.nt=s.nt) (h1:∀ t x,A1 t s'.slots=some x->x = .dead \/ A1 t s.slots=some x) (h2:∀ k,A1 k s'.boxes=A1 k s.boxes):Km s s':=λΓ w E tmps hs=>by
 have hs1:=hs.relook (bs:=s'.boxes) h2;refine ⟨E,?_⟩;obtain ⟨sl,bx,nt⟩:=s';simp only at hn h1 h2 hs1 ⊢;subst hn
 exact ⟨hs1.fr,hs1.wf,hs1.old,hs1.nt,hs1.tag,hs1.new,hs1.boxes,hs1.inj,hs1.own,λt x hx=>(h1 t x hx).elim (λe=>by subst e;exact .dead) (λe=>hs1.slots t x e),hs1.tsize,hs1.dom,hs1.stay,hs1.fzn,hs1.held,hs1.tow⟩
theorem Acb {ks:List Nat}:∀ {bs:List (Nat × Box)} {h:Nat},h ∉ ks->A1 h (Bk bs ks)=A1 h bs:=by
 induction ks with
 | nil=>intro bs h _;rfl
 | cons k r ih =>
  intro bs h hk;simp only [QX,not_or] at hk;simp only [Bk];rw [ih hk.2]
  cases hl:A1 k bs with
  | none=>rfl
  | some b=>exact As _ _ hk.1
theorem Bak {s:St} {h row j:Nat} {b:Box} {r:List C} {c c':C} {obs:List Prop} {ks:List Nat} {hf':Bool} (hb:A1 h s.boxes=some b) (htr:b.tr=false) (hr:b.rows[row]? = some r) (hc:r[j]? = some c)
  (hcv:Qd (A1 · s.boxes) c c'=some (obs,ks)) (ho:∀ p ∈ obs,p) (hz:J2 s.boxes ks=true) (hk:h ∉ ks)
  (hhf:hf'=true->∀ (i:Nat) (q:List C) (l:Nat) (d:C),(b.rows.set row (r.set j c'))[i]? = some q->q[l]? = some d->∃ x,d = .i x) :
  Km s { s with boxes:=B2 h { b with hf:=hf',rows:=b.rows.set row (r.set j c') } (Bk s.boxes ks) }:=λΓ w E tmps hs=>by
 obtain ⟨E',hs',kk,_,_,hl⟩:=hs.freezes ks hz;obtain ⟨b1,hb1,r1,r2,r3,r4,r5,r6⟩:=hl h b hb
 have hfzn:b1.fz=b.fz:=by
  have:=Acb (ks:=ks) (bs:=s.boxes) hk;rw [this,hb] at hb1;rw [<- QA hb1]
 let nb:Box:={ b with hf:=hf',rows:=b.rows.set row (r.set j c') }
 have same:∀ k b',A1 k (B2 h nb (Bk s.boxes ks))=some b'->∃ b0,A1 k (Bk s.boxes ks)=some b0/\b0.fz=b'.fz/\b0.sz=b'.sz:=by
  intro k b' hb';by_cases e:k=h
  . subst e;rw [At] at hb';obtain rfl:=QA hb';exact ⟨b1,hb1,hfzn,r2⟩
  . rw [As _ _ e] at hb';exact ⟨b',hb',rfl,rfl⟩
 have hcell:∃ g cap arr v,E.β h=some (g,b.sz,cap)/\w.heap[g]? = some (.cells arr b.e (0,0))/\arr[row*b.sz+j]? = some v/\Rc w E' v c':=by
  obtain ⟨g,cap,hβ,⟨arr,a1,a2,a3,a4,a5,a6,a7,a8,a9⟩,hω,hS⟩:=hs.boxes h b hb;obtain ⟨v,hv,hrc⟩:=a6 row r j c hr hc;rw [htr] at hrc
  exact ⟨g,cap,arr,v,hβ,a1,hv,V7 (s:=s) (s':={ s with boxes:=Bk s.boxes ks }) hs' kk hrc hcv ho (λk hk' b0 hb0=>by
   obtain ⟨b',q1,q2,q3,_,_,q6,q7⟩:=hl k b0 hb0
   exact ⟨b',q1,q2,q3,q6 hk',q7⟩)⟩
 obtain ⟨g0,cap0,arr0,v0,z1,z2,z3,z4⟩:=hcell;refine ⟨E',hs'.fr,hs'.wf,hs'.old,hs'.nt,hs'.tag,hs'.new,λk b' hb'=>?_,λk k' b b' g g' z z' hb hb' hz hz'=>?_,λk b g z hb hz=>?_,hs'.slots,hs'.tsize,λk x hx=>?_,hs'.stay,λk b g z hb hz hf=>?_,hs'.held,hs'.tow⟩
 . by_cases e:k=h
   . subst e;rw [At] at hb';obtain rfl:=QA hb';obtain ⟨g,cap,hβ,⟨arr,a1,a2,a3,a4,a5,a6,a7,a8,a9⟩,hω,hS⟩:=hs'.boxes k b1 hb1;have e1:=kk.β _ _ z1;rw [hβ] at e1
     obtain ⟨rfl,e2,rfl⟩:g=g0/\b1.sz=b.sz/\cap=cap0:=by simpa using QA e1
     have htr1:b1.tr=false:=r6.trans htr;rw [htr1] at a6 a8 a9;have rl:row<b.rows.length:=(ZD.1 hr).1;have jl:j<r.length:=(ZD.1 hc).1
     have arreq:arr=arr0:=by rw [z2] at a1;exact (by simpa using QA a1:arr0=arr/\_).1.symm
     subst arreq
     refine ⟨g,cap,by rw [hβ,e2],⟨arr,z2,by show arr.size=cap*b.sz;rw [<- e2];exact a2,by show (b.rows.set row (r.set j c')).length<=cap;rw [Qbk,<- r1];exact a3,a4,λi q hi=>?_,λi q l d hi hd=>?_,hhf,?_,?_⟩,hω,λh'=>by rw [show nb.tr=b.tr from rfl,htr] at h';cases h'⟩
     . show q.length=b.sz;have hi:(b.rows.set row (r.set j c'))[i]? = some q:=hi;by_cases e3:i=row
       . subst e3;rw [JW rl] at hi;obtain rfl:=QA hi;rw [Qbk,<- e2]
         exact a5 i r (by rw [r1];exact hr)
       . rw [KP (λh=>e3 h.symm)] at hi;rw [<- e2]
         exact a5 i q (by rw [r1];exact hi)
     . rw [show nb.tr=b.tr from rfl,htr];have hi:(b.rows.set row (r.set j c'))[i]? = some q:=hi;show ∃ v,arr[i*b.sz+l]? = some v/\Rc w E' v d;by_cases e3:i=row
       . subst e3;rw [JW rl] at hi;obtain rfl:=QA hi;by_cases e4:l=j
         . subst e4;rw [JW jl] at hd;obtain rfl:=QA hd;exact ⟨v0,z3,z4⟩
         . rw [KP (λh=>e4 h.symm)] at hd
           obtain ⟨v,p1,p2⟩:=a6 i r l d (by rw [r1];exact hr) hd
           exact ⟨v,by rw [<- e2];exact p1,p2⟩
       . rw [KP (λh=>e3 h.symm)] at hi
         obtain ⟨v,p1,p2⟩:=a6 i q l d (by rw [r1];exact hi) hd
         exact ⟨v,by rw [<- e2];exact p1,p2⟩
     . intro hf;rw [show nb.tr=b.tr from rfl,htr];exact a8 (hfzn.trans hf)
     . rw [show nb.tr=b.tr from rfl,htr];exact a9
   . rw [As _ _ e] at hb';exact hs'.boxes k b' hb'
 . obtain ⟨b0,h0,_⟩:=same k b hb;obtain ⟨b2,h2,_⟩:=same k' b' hb';exact hs'.inj k k' b0 b2 g g' z z' h0 h2 hz hz'
 . obtain ⟨b0,h0,h1,_⟩:=same k b hb;rw [<- h1];exact hs'.own k b0 g z h0 hz
 . by_cases e:k=h
   . subst e;rw [At];rfl
   . rw [As _ _ e];exact hs'.dom k x hx
 . obtain ⟨b0,h0,h1,_⟩:=same k b hb;exact hs'.fzn k b0 g z h0 hz (h1.trans hf)
def Bat (h j:Nat) (sh:Sh) (s:St3):Option (Bool × St3):=match A1 h s.boxes with
 | some (.var e hf fz cs)=>match cs[j]? with
  | some c=>match Gi s.boxes sh c with
   | some (g,x,ks)=>bif sh.one && !ks.any (Nat.beq h) then some (g,⟨s.slots,B2 h (.var e ((cs.set j (.d sh x)).all SV.isD) fz (cs.set j (.d sh x))) (C9 s.boxes ks)⟩) else none
   | none=>none
  | none=>none
 | _=>none
theorem Bgo {h j:Nat} {sh:Sh} {s s':St3} {g:Bool} {nt:Nat} (hh:Bat h j sh s=some (g,s')) (hg:g=true):Km (s.st nt) (s'.st nt):=by
 unfold Bat at hh;split at hh
 . rename_i e hf fz cs hl;split at hh
   . rename_i c hc;split at hh
     . rename_i g0 x ks hcv
       cases hb:(sh.one && !ks.any (Nat.beq h)) with
       | false=>rw [hb] at hh;cases hh
       | true =>
        rw [hb] at hh;simp only [cond,QF,QL] at hh;obtain ⟨rfl,rfl⟩:=hh;simp only [QH,XH] at hb;obtain ⟨h1,h2⟩:=hb;obtain ⟨q1,⟨ob,q2,q3⟩,q4⟩:=A43 h1 hcv hg
        have hn:h ∉ ks:=λhk=>by have:=YP.1 h2 h hk;simp at this
        let L:=A5 s.boxes
        let nb:B3:=.var e ((cs.set j (.d sh x)).all SV.isD) fz (cs.set j (.d sh x))
        have hbx:A1 h (s.st nt).boxes=some ((B3.var e hf fz cs).box L):=by
         show A1 h (Am (B3.box L) s.boxes)=_;rw [Au,hl];rfl
        have ex:(SV.d sh x).c L = .i (hd1 (sh.cells x)):=rfl
        have hw:=Bak (s:=s.st nt) (h:=h) (row:=0) (j:=j) (b:=(B3.var e hf fz cs).box L) (r:=cs.map (SV.c L)) (c:=c.c L) (c':=.i (hd1 (sh.cells x))) (obs:=ob) (ks:=ks) (hf':=(cs.set j (.d sh x)).all SV.isD) hbx rfl rfl
         (by rw [QQ,hc];rfl) q2 q3 (A00 q4) hn (λhall i q l d hi hd=>by
          cases i with
          | zero =>
           have hi:some ((cs.map (SV.c L)).set j (.i (hd1 (sh.cells x))))=some q:=hi;obtain rfl:=QA hi;rw [<- ex,<- List.map_set,QQ] at hd;obtain ⟨y,hy,rfl⟩:=QI.1 hd;have:=QK.1 hall y (ZN hy)
           cases y with
           | d t z=>exact ⟨_,rfl⟩
           | _=>cases this
          | succ i=>simp [B3.box] at hi)
        refine hw.trans (B33 rfl (λt z hz=>.inr ?_) λk=>?_)
        . have hz:A1 t (Am (SV.s (A5 (B2 h nb (C9 s.boxes ks)))) s.slots)=some z:=hz
          have hL:A5 (B2 h nb (C9 s.boxes ks))=L:=by
           funext k;unfold A5;by_cases e1:k=h
           . subst e1;rw [At];show (1:Nat)=A5 s.boxes k;simp [A5,hl,B3.len]
           . rw [As _ _ e1];show A5 (C9 s.boxes ks) k=L k;rw [E6]
          rw [hL] at hz;exact hz
        . have hL : A5 (B2 h nb (C9 s.boxes ks)) = L := by
           funext k;unfold A5;by_cases e1:k=h
           . subst e1;rw [At];show (1:Nat)=A5 s.boxes k;simp [A5,hl,B3.len]
           . rw [As _ _ e1];show A5 (C9 s.boxes ks) k=L k;rw [E6]
          show A1 k (Am (B3.box (A5 (B2 h nb (C9 s.boxes ks)))) (B2 h nb (C9 s.boxes ks)))=A1 k (B2 h _ (Bk (Am (B3.box L) s.boxes) ks));rw [hL,Iq];by_cases e1:k=h
          . subst e1;rw [Au,At,At];simp only [QV,nb,B3.box,List.map_set,Qbk];rfl
          . rw [Au,As _ _ e1,As _ _ e1,Au]
     . cases hh
   . cases hh
 . cases hh
def Bfd:Shut->St3->Option (Bool × St3)
 | .hole _,_=>none
 | .stl h j sh,s=>Bat h j sh s
theorem Baw {k:Shut} {s s':St3} {g:Bool} {nt:Nat} (h:Bfd k s=some (g,s')) (hg:g=true):Km (s.st nt) (s'.st nt):=by
 cases k with
 | hole kk=>cases h
 | stl h0 j sh=>exact Bgo h hg
end Go.Ev

/- DERIVED. Code over shapes: all paths, in one expression. -/
namespace Go.Ev
open Go
variable {P:Program} {T:Ty}
structure OA where
 ent:Option Ent:=none
 sh:Option Sh:=none
 fz:List (Nat × Sh):=[]
 entB:Option Ent3:=none
 hb:Nat:=0
 tr:Option Sh:=none
 alt:List Ent3:=[]
 bor:Option Nat:=none
 shut:Option Shut:=none
def OA.two (a:OA):Bool:=(a.ent.isSome&&a.entB.isSome) || !a.alt.isEmpty || (a.bor.isSome || a.shut.isSome)
theorem OA.two_false {a:OA} (h:a.two=false):(a.ent.isSome&&a.entB.isSome)=false/\a.alt=[]/\a.bor=none/\a.shut=none:=by
 unfold OA.two at h;simp only [Qbl,Bool.not_eq_false'] at h
 exact ⟨h.1.1,YU.1 h.1.2,by simpa using h.2.1,by simpa using h.2.2⟩
structure RA where
 m:Nat:=0
 fz:List (Nat × Sh):=[]
 ops:List (Nat × OA):=[]
@[reducible] def KS (α:Type):List (Exit × Tm)->Type
 | []=>Unit
 | (_,X)::r=>(X.den->Option α) × KS α r
def Ru {α:Type} (k:Exit->St3->Option α):(l:List (Exit × Tm))->KS α l
 | []=>()
 | (x,X)::r=>(λw=>k x (X.enc w),Ru k r)
def Exit.eqb:Exit->Exit->Bool
 | .normal,.normal=>true
 | .ret,.ret=>true
 | .exit i,.exit j=>Nat.beq i j
 | _,_=>false
theorem Exit.eqb_eq {a b:Exit} (h:Exit.eqb a b=true):a=b:=by
 unfold Exit.eqb at h;split at h
 . rfl
 . rfl
 . rw [QD h]
 . cases h
def Q2 {α:Type}:(l:List (Exit × Tm))->KS α l->Exit->St3->Option α
 | [],_,_,_=>none
 | (x,X)::r,ks,y,s=>bif Exit.eqb x y then (match X.dec s with
  | some w=>ks.1 w
  | none=>none) else Q2 r ks.2 y s
structure LO (α:Type) where
 H:Tm
 outs:List (Exit × Tm)
 run:H.den->KS α outs->Option α
structure D3 (α:Type) where
 reg:List (Nat × RA):=[]
 join:List (Nat × Tm):=[]
 loop:List (Nat × LO α):=[]
 any:List (Nat × Tm):=[]
def D2:Code->Nat
 | .region id _ _=>id
 | .seq c d=>match D2 c with
  | 0=>D2 d
  | n+1=>n+1
 | .cond _ c d=>match D2 c with
  | 0=>D2 d
  | n+1=>n+1
 | .block _ c=>D2 c
 | .loop c=>D2 c
 | .rangeFunc _ _ a b=>match D2 a with
  | 0=>D2 b
  | n+1=>n+1
 | _=>0
def upd {α:Type} (k:Nat) (x:α):List (Nat × α)->List (Nat × α)
 | []=>[]
 | (j,y)::r=>bif Nat.beq j k then (j,x)::r else (j,y)::upd k x r
def Kb {α:Type}:List (Nat × Sh)->St3->(St3->Option α)->Option α
 | [],s,k=>k s
 | (t,sh)::r,s,k=>match Ql s t sh with
  | some (g,s1)=>bif g then Kb r s1 k else none
  | none=>none
def ob {α β:Type} (x:Option β) (k:β->Option α):Option α:=match x with
 | some r=>k r
 | none=>none
def gd {α:Type} (g:Bool) (x:Option α):Option α:=bif g then x else none
abbrev W (x:Int):Int:=IntKind.i64.wrap x
def A6i (T:Ty) (K:Aj) (A:OA) (o:Oper) (s:St3):Option (Bool × St3) :=
 match O5 T A.sh o s with
 | some r=>match s.eff3 K o.dst r.eff with
  | some s1=>match s1.put3 K o.dst r.val with
   | some s'=>match A.tr with
    | none=>some (r.g,s')
    | some sh=>match o.dst with
     | some d=>(Amy sh d s').map λs2=>(r.g,s2)
     | none=>none
   | none=>none
  | none=>none
 | none=>match Aby T o s with
  | some q=>some q
  | none=>Amz T K o s
def At3:List Ent3->Oper->St3->Option Ent3
 | [],_,_=>none
 | E::r,o,s=>match M8 E.f E.ts o s with
  | some _=>some E
  | none=>At3 r o s
theorem At2:∀ {l:List Ent3} {o:Oper} {s:St3} {E:Ent3},At3 l o s=some E->E ∈ l
 | [],_,_,_,h=>by cases h
 | F::r,o,s,E,h=>by
  simp only [At3] at h;split at h
  . cases h;exact YA
  . exact ZI _ (At2 h)
def Vc {α:Type} (T:Ty) (K:Aj) (A:OA) (o:Oper) (s:St3) (k:St3->Option α):Option α :=
 match At3 A.alt o s with
 | some E=>Vb K E A.hb o s k
 | none=>match A.ent with
 | some E=>match Ur E o s with
  | some (g,x)=>bif g then ob (E.m x) (λr=>match s.put3 K o.dst (Nu E.rs r) with
    | some s'=>k s'
    | none=>none) else none
  | none=>match A.entB with
   | some F=>Vb K F A.hb o s k
   | none=>none
 | none=>match A.entB with
 | some E=>Vb K E A.hb o s k
 | none=>match A6i T K A o s with
  | some (g,s')=>bif g then k s' else none
  | none=>none
def Xk {α:Type} (T:Ty) (K:Aj) (A:OA) (o:Oper) (s:St3) (k:St3->Option α):Option α :=
 match A.bor with
 | some kk=>Bq5 T K kk o s k
 | none=>match A.shut with
  | none=>Vc T K A o s k
  | some kk=>Vc T K A o s λs1=>match Bfd kk s1 with
   | some (g,s2)=>bif g then k s2 else none
   | none=>none
def Alv {α:Type} (K:Aj) (o:Oper) (s:St3) (k:St3->Option α):Option α :=
 match s.put3 K o.dst (.tup []) with
 | some s'=>k s'
 | none=>none
def A2a {α:Type} (ops:List Oper) (o:Oper) (s:St3) (f g:St3->Option α):Option α :=
 match o.guard with
 | none=>f s
 | some (j,want)=>match ops[j]? with
  | some p=>match p.dst with
   | some t=>match A1 t s.slots with
    | some (.d .bool b)=>bif b then
      (bif want then f { s with slots:=upd t (.d .bool true) s.slots } else g { s with slots:=upd t (.d .bool true) s.slots }) else
      (bif want then g { s with slots:=upd t (.d .bool false) s.slots } else f { s with slots:=upd t (.d .bool false) s.slots })
    | some (.tup [])=>g s
    | _=>none
   | none=>none
  | none=>none
def Kc {α:Type} (T:Ty) (K:Aj) (ops:List Oper) (A:List (Nat × OA)):List (Nat × Oper)->St3->(St3->Option α)->Option α
 | [],s,k=>k s
 | (i,o)::r,s,k=>Kb ((A1 i A).getD {}).fz s λs0=>A2a ops o s0 (λs1=>Xk T K ((A1 i A).getD {}) o s1 λs2=>Kc T K ops A r s2 k) (λs1=>Alv K o s1 λs2=>Kc T K ops A r s2 k)
def OA.quiet (T:Ty) (A:OA) (o:Oper) (s:St3):Bool :=
 A.fz.isEmpty&&A.tr.isNone&&A.alt.isEmpty&&(A.bor.isNone&&A.shut.isNone)&&(match A.entB with | some _=>false | none=>true)&&(match o.dst with | some _=>true | none=>false)&&(match A.ent with
 | some _=>true
 | none=>match O5 T A.sh o s with
  | some r=>match r.eff with
   | .none=>true
   | _=>false
  | none=>false)
def Ans {α:Type} (T:Ty) (K:Aj) (ops:List Oper) (A:List (Nat × OA)):List (Nat × Oper)->St3->(St3->Option α)->Option α
 | [],s,k=>k s
 | (i,o)::r,s,k=>A2a ops o s
   (λs1=>bif OA.quiet T ((A1 i A).getD {}) o s1 then Xk T K ((A1 i A).getD {}) o s1 (λs2=>Ans T K ops A r s2 k) else none)
   (λs1=>bif o.dst.isSome then Alv K o s1 (λs2=>Ans T K ops A r s2 k) else none)
def Bb1 {α:Type} (P:Program) (T:Ty) (K:Aj) (A:RA) (ops:Array Oper) (draw:Bool) (s:St3) (k:St3->Option α):Option α :=
 bif draw then
  bif Fm ops A.m then Kb A.fz s λs0=>Ans T K ops.toList A.ops ((Ad ops.toList).take A.m) s0 λs1=>Kc T K ops.toList A.ops ((Ad ops.toList).drop A.m) s1 k else none
 else Kc T K ops.toList A.ops (Ad ops.toList) s k
def A9:Code->List (Nat × Code)
 | .seq c d=>A9 c++A9 d
 | .cond _ c d=>A9 c++A9 d
 | .block _ c=>A9 c
 | .loop c=>[(D2 c,.loop c)]
 | .rangeFunc f ps a b=>[(match D2 a with | 0=>D2 b | n+1=>n+1,.rangeFunc f ps a b)]
 | _=>[]
def Ax:Code->List (Nat × Array Oper)
 | .seq c d=>Ax c++Ax d
 | .cond _ c d=>Ax c++Ax d
 | .block _ c=>Ax c
 | .loop c=>Ax c
 | .region id ops true=>[(id,ops)]
 | _=>[]
def A07 (id:Nat):List (Nat × Tm)->List Tm
 | []=>[]
 | (i,X)::r=>bif Nat.beq i id then X::A07 id r else A07 id r
def Aly {α:Type} (s:St3) (f:(X:Tm)->X.den->Option α):List Tm->Option α
 | []=>none
 | X::r=>match X.dec s with
  | some w=>f X w
  | none=>Aly s f r
def C5 {α:Type} (P:Program) (T:Ty) (K:Aj) (D:D3 α):Code->St3->(Exit->St3->Option α)->Option α
 | .skip,s,k=>k .normal s
 | .region id ops draw,s,k=>match A07 id D.any with
  | []=>Bb1 P T K ((A1 id D.reg).getD {}) ops draw s (k .normal)
  | X::r=>bif draw then Aly s (λX w=>Kc T K ops.toList ((A1 id D.reg).getD {}).ops (Ad ops.toList) (X.enc w) (k .normal)) (X::r) else none
 | .seq c d,s,k=>match A1 (D2 d) D.join with
  | none=>C5 P T K D c s λx s1=>match x with
   | .normal=>C5 P T K D d s1 k
   | x=>k x s1
  | some X=>(λ(J:X.den->Option α)=>C5 P T K D c s λx s1=>match x with
   | .normal=>match X.dec s1 with
    | some w=>J w
    | none=>none
   | x=>k x s1) λw=>C5 P T K D d (X.enc w) k
 | .cond (.tmp t) c d,s,k=>match A1 t s.slots with
  | some (.d .bool b)=>bif b then C5 P T K D c { s with slots:=upd t (.d .bool true) s.slots } k else C5 P T K D d { s with slots:=upd t (.d .bool false) s.slots } k
  | _=>none
 | .block id c,s,k=>C5 P T K D c s λx s1=>match x with
  | .exit j=>bif Nat.beq j id then k .normal s1 else k (.exit j) s1
  | x=>k x s1
 | .loop c,s,k=>match A1 (D2 c) D.loop with
  | some L=>match L.H.dec s with
   | some v=>L.run v (Ru k L.outs)
   | none=>bif (A9 c).isEmpty then C5 P T K D c s λx s1=>match x with
    | .normal=>match L.H.dec s1 with
     | some v=>L.run v (Ru k L.outs)
     | none=>none
    | x=>k x s1 else none
  | none=>none
 | .rangeFunc _ _ a b,s,k=>match A1 (match D2 a with | 0=>D2 b | n+1=>n+1) D.loop with
  | some L=>match L.H.dec s with
   | some v=>L.run v (Ru k L.outs)
   | none=>none
  | none=>none
 | .exit id,s,k=>k (.exit id) s
 | .ret,s,k=>k .ret s
 | _,_,_=>none
def A4 {α:Type} {V Ks:Type} (B:V->(V->Option α)->Ks->Option α):Nat->V->Ks->Option α
 | 0,_,_=>none
 | n+1,v,ks=>B v (λv'=>A4 B n v' ks) ks
def Aet {α:Type} (H:Tm) (outs:List (Exit × Tm)) (f:H.den->Option α) (ks:KS α outs) (x:Exit) (s:St3):Option α :=
 match x with
 | .normal=>match H.dec s with
  | some v=>f v
  | none=>none
 | x=>Q2 outs ks x s
def Afj (T:Ty) (s:St3):ResultVar->Option SV
 | .tmp t=>A1 t s.slots
 | .cell a t=>match s.val (.tmp a) with
  | .hp h row col=>match A1 h s.boxes with
   | some (.var _ _ _ _)=>match A4w T t (.hp h row col) s.boxes with
    | some r=>some r.val
    | none=>none
   | _=>none
  | _=>none
def A1u (T:Ty) (s:St3) (rv:ResultVar) (t:Sh):Option (Bool × t.den × List Nat) :=
 match Afj T s rv with
 | some v=>A41 s.boxes t v
 | none=>none
def Le (T:Ty) (s:St3):(ts:List Sh)->List ResultVar->Option (Bool × HL ts)
 | [],[]=>some (true,())
 | [t],[rv]=>match A1u T s rv t with
  | some (g,x,_)=>some (g,x)
  | none=>none
 | t::u::r,rv::rvs=>match A1u T s rv t,Le T s (u::r) rvs with
  | some (g,x,_),some (g',xs)=>some (g&&g',(x,xs))
  | _,_=>none
 | _,_=>none
def Bc0 (T:Ty) (rs:List Sh) (rvs:List ResultVar) (x:Exit) (s:St3):Option (HL rs) :=
 match x with
 | .exit _=>none
 | .normal=>match Le T s rs rvs with
  | some (g,y)=>bif g then some y else none
  | none=>none
 | .ret=>match Le T s rs rvs with
  | some (g,y)=>bif g then some y else none
  | none=>none
 | _=>none
def Gp (i:Nat):List SV->List (Nat × SV)
 | []=>[]
 | x::r=>(i,x)::Gp (i+1) r
def A3y (ts:List Sh) (x:HL ts):St3:=⟨Gp 0 (G9 ts x),[]⟩
end Go.Ev

/- DERIVED. Code over shapes is what the code does. -/
namespace Go.Ev
open Go
variable {P:Program} {T:Ty} {α:Type}
theorem B38 {f:SV->S} {t:Nat} {x y:SV} (hxy:f x=f y):∀ {l:List (Nat × SV)},A1 t l=some y->Am f (upd t x l)=Am f l
 | [],h=>by cases h
 | (j,z)::r,h=>by
  simp only [A1] at h;simp only [upd]
  cases hb:Nat.beq j t with
  | true =>
   rw [hb] at h;simp only [cond,QF] at h;subst h;simp [Am,hxy]
  | false =>
   rw [hb] at h;have:=B38 hxy h;simp only [Am] at this;simp [Am,this]
theorem Uz {nt:Nat}:∀ {l:List (Nat × Sh)} {s:St3} {k:St3->Option α} {r:α},Kb l s k=some r->∃ s' fz ob,Gb fz (s.st nt)=some (s'.st nt,ob)/\(∀ p ∈ ob,p)/\k s'=some r/\(l=[]->fz=[]/\s'=s)
 | [],s,k,r,h=>⟨s,[],[],rfl,by simp,h,λ_=>⟨rfl,rfl⟩⟩
 | (t,sh)::l,s,k,r,h=>by
  simp only [Kb] at h;split at h
  . rename_i g s1 hs
    cases g with
    | false=>cases h
    | true =>
     obtain ⟨x',ob,h1,h2⟩:=Xm (nt:=nt) hs rfl;obtain ⟨s2,fz,ob2,h3,h4,h5,_⟩:=Uz (nt:=nt) (l:=l) h
     refine ⟨s2,(t,x')::fz,ob++ob2,by simp only [Gb,h1,h3],λp hp=>?_,h5,λe=>by cases e⟩
     rcases QG.1 hp with hp | hp
     . exact h2 p hp
     . exact h4 p hp
  . cases h
theorem Az4 {o:Oper} {s:St3} {nt:Nat} {A:Option Sh} {r:R3} (h:O5 T A o s=some r) (hg:r.g=true) (he:r.eff = .none) :
  ∃ D obs,(∀ p ∈ obs,p)/\quiet P T o D (s.st nt)=some (r.val.s (A5 s.boxes),obs):=by
 obtain ⟨hnt,q,h1,h2,h3⟩:=Asm (nt:=nt) h hg;unfold L7 at h3;rw [he] at h3
 refine ⟨{ cells:=hnt },q.ob++[],by simpa using h2,?_⟩
 unfold quiet;simp only [h1,h3.1,Option.getD_none,h3.2]
theorem Bav {K:Aj} {o:Oper} {D:Hh} {s:St} (fz:List (Nat × V)):Fg P T K o { D with fz:=fz } s=Fg P T K o D s:=rfl
def OA.S (P:Program) (a:OA):Prop:=(∀ E,a.ent=some E->E.Sound P)/\(∀ E,a.entB=some E->E.Sound P) /\ ∀ E,E ∈ a.alt->E.Sound P
theorem Asv (hT:B8 P T) {K:Aj} {A:OA} {o:Oper} {s s':St3} {nt:Nat} {g:Bool} (h:A6i T K A o s=some (g,s')) (hg:g=true) :
  ∃ D obs,Fg P T K o D (s.st nt)=some (s'.st nt,obs) /\ ∀ p ∈ obs,p:=by
 unfold A6i at h;split at h
 . rename_i q hq;split at h
   . rename_i s1 he;split at h
     . rename_i s2 hp
       have key:q.g=true->∃ D obs,Fg P T K o D (s.st nt)=some (s2.st nt,obs) /\ ∀ p ∈ obs,p:=λhg=>by
        obtain ⟨hnt,r1,h1,h2,h3⟩:=Asm (nt:=nt) hq hg;obtain ⟨h4,h5⟩:=Bkw (nt:=nt) he h3;have h6:=Vh (nt:=nt) hp;rw [<- h5] at h6
        refine ⟨{ cells:=hnt },r1.ob++[]++[],?_,by simpa using h2⟩
        unfold Fg;simp only [h1,h4,Option.getD_none,h6,QV]
       split at h
       . simp only [QF,QL] at h;obtain ⟨rfl,rfl⟩:=h;exact key hg
       . split at h
         . simp only [QI,QL] at h;obtain ⟨s3,h3,rfl,rfl⟩:=h;obtain ⟨D,obs,k1,k2⟩:=key hg
           exact ⟨{ own:=some (s3.st nt) },_,rfl,λp hp=>by
            rw [QU.1 hp]
            exact (Hj hT k1 k2).weak (Atg h3)⟩
         . cases h
     . cases h
   . cases h
 . split at h
   . rename_i q hq;obtain rfl:=QA h
     exact ⟨{ own:=some (s'.st nt) },_,rfl,λp hp=>by rw [QU.1 hp];exact Akw hT hq hg⟩
   . exact ⟨{ own:=some (s'.st nt) },_,rfl,λp hp=>by rw [QU.1 hp];exact Ath hT h hg⟩
theorem Aia (hT:B8 P T) {K:Aj} {A:OA} {o:Oper} {s:St3} {nt:Nat} {k:St3->Option α} {r:α} (h:Vc T K A o s k=some r) (hE:A.S P) :
  ∃ s' D obs,Fg P T K o D (s.st nt)=some (s'.st nt,obs)/\(∀ p ∈ obs,p)/\k s'=some r:=by
 unfold Vc at h;split at h
 . rename_i E hal;exact A1d h (hE.2.2 E (At2 hal))
 split at h
 . rename_i E hent;split at h
   . rename_i g x hc
     cases g with
     | false=>cases h
     | true =>
      simp only [cond,ob] at h;split at h
      . rename_i y hm;split at h
        . rename_i s' hp;obtain ⟨obs,h1,h2⟩:=Abc (T:=T) (nt:=nt) hc hm (hE.1 E hent);have:=Vh (nt:=nt) hp;rw [Afh] at this;obtain ⟨D',obs',h3,h4⟩:=Xq h2 this;exact ⟨s',D',obs',h3,h4 h1,h⟩
        . cases h
      . cases h
   . split at h
     . rename_i F hF;exact A1d h (hE.2.1 F hF)
     . cases h
 split at h
 . rename_i E hent;exact A1d h (hE.2.1 E hent)
 . split at h
   . rename_i g s' hq
     cases g with
     | false=>cases h
     | true =>
      obtain ⟨D,obs,h1,h2⟩:=Asv (nt:=nt) hT hq rfl;exact ⟨s',D,obs,h1,h2,h⟩
   . cases h
theorem Bau (hT:B8 P T) {K:Aj} {A:OA} {o:Oper} {s:St3} {nt:Nat} {k:St3->Option α} {r:α} (h:Xk T K A o s k=some r) (hE:A.S P) :
  ∃ s' D obs,Fg P T K o D (s.st nt)=some (s'.st nt,obs)/\(∀ p ∈ obs,p)/\k s'=some r:=by
 unfold Xk at h;split at h
 . obtain ⟨s',h1,h2⟩:=Bl0 (nt:=nt) hT h
   exact ⟨s',{ own:=some (s'.st nt) },_,rfl,λp hp=>by rw [QU.1 hp];exact h1,h2⟩
 . split at h
   . exact Aia hT h hE
   . obtain ⟨s1,D,obs,h1,h2,h3⟩:=Aia (nt:=nt) hT h hE;split at h3
     . rename_i g s2 hs
       cases g with
       | false=>cases h3
       | true=>exact ⟨s2,{ own:=some (s2.st nt) },_,rfl,λp hp=>by rw [QU.1 hp];exact (Hj hT h1 h2).weak (Baw hs rfl),h3⟩
     . cases h3
theorem B3w {K:Aj} {A:OA} {o:Oper} {s:St3} {nt:Nat} {k:St3->Option α} {r:α} (h:Xk T K A o s k=some r) (hq:A.quiet T o s=true) (hE:A.S P) :
  ∃ t s' D x obs,o.dst=some t/\Nat.blt t K.N=true/\quiet P T o D (s.st nt)=some (x,obs)/\(∀ p ∈ obs,p)/\k s'=some r/\s'.st nt={ s.st nt with slots:=B2 t x (s.st nt).slots }:=by
 unfold OA.quiet at hq;simp only [QH] at hq;obtain ⟨⟨⟨⟨⟨⟨_,hqt⟩,hqa⟩,hqb,hqc⟩,hq0⟩,hq1⟩,hq2⟩:=hq
 have putI:∀ {s s':St3} {y:SV},s.put3 K o.dst y=some s'->∃ t,o.dst=some t/\Nat.blt t K.N=true/\s'.st nt={ s.st nt with slots:=B2 t (y.s (A5 s.boxes)) (s.st nt).slots }:=by
  intro s s' y hp;unfold St3.put3 at hp
  cases hd:o.dst with
  | none=>rw [hd] at hq1;cases hq1
  | some t =>
   rw [hd] at hp;simp only at hp
   cases hb:Nat.blt t K.N with
   | false=>rw [hb] at hp;cases hp
   | true =>
    rw [hb] at hp;obtain rfl:=QA hp
    exact ⟨t,rfl,hb,by simp only [St3.st,Gs]⟩
 unfold Xk at h
 rw [show A.bor=none by simpa using hqb,show A.shut=none by simpa using hqc] at h
 simp only at h;unfold Vc at h;split at h
 . rename_i E hal;rw [YU.1 hqa] at hal;cases hal
 split at h
 . rename_i E hent;split at h
   . rename_i g x hc
     cases g with
     | false=>cases h
     | true =>
      simp only [cond,ob] at h;split at h
      . rename_i y hm;split at h
        . rename_i s' hp;obtain ⟨obs,h1,h2⟩:=Abc (T:=T) (nt:=nt) hc hm (hE.1 E hent);obtain ⟨t,p1,p2,p3⟩:=putI hp;rw [Afh] at p3;exact ⟨t,s',_,_,obs,p1,p2,h2,h1,h,p3⟩
        . cases h
      . cases h
   . split at h
     . rename_i F hF;rw [hF] at hq0;cases hq0
     . cases h
 split at h
 . rename_i E hB;rw [hB] at hq0;cases hq0
 . rename_i hent _ _;rw [hent] at hq2;simp only at hq2
   cases hcq:O5 T A.sh o s with
   | none=>rw [hcq] at hq2;cases hq2
   | some q =>
    rw [hcq] at hq2;simp only at hq2
    have he:q.eff = .none:=by
     cases e:q.eff <;> first | rfl | (rw [e] at hq2;cases hq2)
    have htr:A.tr=none:=by
     cases e:A.tr with
     | none=>rfl
     | some _=>rw [e] at hqt;cases hqt
    unfold A6i at h;rw [hcq] at h;simp only [he,St3.eff3,htr] at h;split at h
    . rename_i g s' hb;split at hb
      . rename_i s2 hp;simp only [QF,QL] at hb;obtain ⟨hg,rfl⟩:=hb
        cases g with
        | false=>cases h
        | true =>
         simp only [cond] at h;obtain ⟨D,obs,h1,h2⟩:=Az4 (P:=P) (nt:=nt) hcq hg he;obtain ⟨t,p1,p2,p3⟩:=putI hp;exact ⟨t,_,D,_,obs,p1,p2,h2,h1,h,p3⟩
      . cases hb
    . cases h
theorem Aid {s:St3} {nt t:Nat} {b:Bool} (h:A1 t s.slots=some (.d .bool b)):A1 t (s.st nt).slots=some (.v (.one (.i (.lit (.bool b))))):=by
 simp only [St3.st,Au,h];rfl
theorem Mm {s:St3} {nt t:Nat} {b:Bool} (h:A1 t s.slots=some (.d .bool b)):(({ s with slots:=upd t (.d .bool b) s.slots }:St3).st nt)=s.st nt:=by
 simp only [St3.st];rw [B38 rfl h]
theorem Air {ops:List Oper} {o:Oper} {s:St3} {nt:Nat} {f g:St3->Option α} {r:α} (h:A2a ops o s f g=some r) :
  ∃ s0,s0.st nt=s.st nt/\((Jp (s.st nt) ops o=some true/\f s0=some r) \/ (Jp (s.st nt) ops o=some false/\g s0=some r)):=by
 unfold A2a at h;unfold Jp;split at h
 . rename_i hg;rw [hg]
   exact ⟨s,rfl,.inl ⟨by first | rfl | trivial,h⟩⟩
 . rename_i j want hg;rw [hg];simp only;split at h
   . rename_i p hp;simp only [hp];split at h
     . rename_i t ht;simp only [ht];split at h
       . rename_i b hl;simp only [Aid (nt:=nt) hl]
         cases b <;> cases want <;> simp only [cond] at h
         . exact ⟨_,Mm hl,.inl ⟨by first | rfl | trivial,h⟩⟩
         . exact ⟨_,Mm hl,.inr ⟨by first | rfl | trivial,h⟩⟩
         . exact ⟨_,Mm hl,.inr ⟨by first | rfl | trivial,h⟩⟩
         . exact ⟨_,Mm hl,.inl ⟨by first | rfl | trivial,h⟩⟩
       . rename_i hl
         have:A1 t (s.st nt).slots=some (.tup []):=by
          simp only [St3.st,Au,hl];rfl
         simp only [this]
         exact ⟨s,rfl,.inr ⟨by first | rfl | trivial,h⟩⟩
       . cases h
     . cases h
   . cases h
theorem Ane {K:Aj} {o:Oper} {s:St3} {nt:Nat} {k:St3->Option α} {r:α} (h:Alv K o s k=some r):∃ s',(s.st nt).putD K o.dst (.tup [])=some (s'.st nt)/\k s'=some r:=by
 unfold Alv at h;split at h
 . rename_i s' hp;exact ⟨s',Vh (nt:=nt) hp,h⟩
 . cases h
theorem Ld {K:Aj} {ops:List Oper} {Ds Ds':List (Nat × Hh)}:∀ (l:List (Nat × Oper)) (s:St),(∀ p ∈ l,A1 p.1 Ds=A1 p.1 Ds')->Ei P T K ops Ds l s=Ei P T K ops Ds' l s
 | [],_,_=>rfl
 | (i,o)::r,s,h=>by
  have h0:=h (i,o) (by simp)
  have ih:=λs=>Ld (K:=K) (ops:=ops) r s λp hp=>h p (by simp [hp])
  simp only [Ei];rw [show A1 i Ds=A1 i Ds' from h0];simp only [ih]
theorem Lc {K:Aj} {ops:List Oper} {Ds Ds':List (Nat × Hh)}:∀ (l:List (Nat × Oper)) (xs:List (Nat × Nat × S)) (s:St),(∀ p ∈ l,A1 p.1 Ds=A1 p.1 Ds')->I5 P T K ops Ds l xs s=I5 P T K ops Ds' l xs s
 | [],_,_,_=>rfl
 | (i,o)::r,xs,s,h=>by
  have h0:=h (i,o) (by simp)
  have ih:=λxs s=>Lc (K:=K) (ops:=ops) r xs s λp hp=>h p (by simp [hp])
  simp only [I5];rw [show A1 i Ds=A1 i Ds' from h0];simp only [ih]
theorem Bm {β:Type} {i j:Nat} {x:β} {l:List (Nat × β)} (h:i ≠ j):A1 j ((i,x)::l)=A1 j l:=by
 simp only [A1]
 have:Nat.beq i j=false:=by cases e:Nat.beq i j with | false=>rfl | true=>exact absurd (QD e) h
 rw [this];rfl
theorem C7 {β:Type} {i:Nat} {x:β} {l:List (Nat × β)}:A1 i ((i,x)::l)=some x:=by
 simp only [A1,YC];rfl
theorem A4t (hT:B8 P T) {K:Aj} {ops:List Oper} {A:List (Nat × OA)} {nt:Nat} (hE:∀ i a,A1 i A=some a->a.S P):∀ (l:List (Nat × Oper)) (s:St3) (k:St3->Option α) (r:α),(l.map (·.1)).Nodup->Kc T K ops A l s k=some r ->
  ∃ s' Ds obs,k s'=some r/\Ei P T K ops Ds l (s.st nt)=some (s'.st nt,obs) /\ ∀ p ∈ obs,p
 | [],s,k,r,_,h=>⟨s,[],[],h,rfl,by simp⟩
 | (i,o)::l,s,k,r,hn,h=>by
  simp only [QT,JB] at hn;simp only [Kc] at h;obtain ⟨s0,fz,ob0,h1,h2,h3,_⟩:=Uz (nt:=nt) h;obtain ⟨s00,e1,hg⟩:=Air (nt:=nt) h3
  have hEi:((A1 i A).getD {}).S P:=by
   cases hl:A1 i A with
   | none=>exact ⟨(λE h=>by cases h),(λE h=>by cases h),(λE h=>by cases h)⟩
   | some a=>exact hE i a hl
  rcases hg with ⟨g1,g2⟩ | ⟨g1,g2⟩
  . obtain ⟨s1,D,ob1,h4,h5,h6⟩:=Bau (P:=P) (nt:=nt) hT g2 hEi;obtain ⟨s',Ds,ob2,h7,h8,h9⟩:=A4t hT hE l s1 k r hn.2 h6;refine ⟨s',(i,{ D with fz:=fz })::Ds,ob0++(ob1++ob2),h7,?_,λp hp=>?_⟩
    . simp only [Ei,C7,YN,h1];rw [e1] at h4;simp only [A4o,g1,Bav,h4]
      rw [Ld (Ds':=Ds) l _ λp hp=>Bm λe=>hn.1 (by rw [e];exact ZK.2 ⟨p,hp,rfl⟩),h8]
    . rcases QG.1 hp with hp | hp
      . exact h2 p hp
      . rcases QG.1 hp with hp | hp
        . exact h5 p hp
        . exact h9 p hp
  . obtain ⟨s1,h4,h6⟩:=Ane (nt:=nt) g2;obtain ⟨s',Ds,ob2,h7,h8,h9⟩:=A4t hT hE l s1 k r hn.2 h6;refine ⟨s',(i,{ fz:=fz })::Ds,ob0++([]++ob2),h7,?_,λp hp=>?_⟩
    . simp only [Ei,C7,YN,h1];rw [e1] at h4;simp only [A4o,g1,h4,QV]
      rw [Ld (Ds':=Ds) l _ λp hp=>Bm λe=>hn.1 (by rw [e];exact ZK.2 ⟨p,hp,rfl⟩),h8]
    . rcases QG.1 hp with hp | hp
      . exact h2 p hp
      . exact h9 p (by simpa using hp)
theorem Aig {β:Type} {i:Nat} {d:β} {Ds:List (Nat × β)} {ks:List Nat} (h:∀ j,(A1 j Ds).isSome=true ↔ j ∈ ks):∀ j,(A1 j ((i,d)::Ds)).isSome=true ↔ j ∈ i::ks:=by
 intro j;by_cases e:i=j
 . subst e;rw [C7];simp
 . rw [Bm e,h j];simp [Ne.symm e]
theorem A0h {β:Type} {j:Nat}:∀ {a b:List (Nat × β)},(A1 j a).isSome=true->A1 j (a++b)=A1 j a
 | [],_,h=>by cases h
 | (i,x)::r,b,h=>by
  by_cases e:i=j
  . subst e;rw [YD,C7,C7]
  . rw [Bm e] at h;rw [YD,Bm e,Bm e,A0h h]
theorem A0i {β:Type} {j:Nat}:∀ {a b:List (Nat × β)},A1 j a=none->A1 j (a++b)=A1 j b
 | [],_,_=>rfl
 | (i,x)::r,b,h=>by
  by_cases e:i=j
  . subst e;rw [C7] at h
    cases h
  . rw [Bm e] at h;rw [YD,Bm e,A0i h]
theorem Afl {K:Aj} {ops:List Oper} {A:List (Nat × OA)} {nt:Nat} (hE:∀ i a,A1 i A=some a->a.S P):∀ (l:List (Nat × Oper)) (s:St3) (k:St3->Option α) (r:α),(l.map (·.1)).Nodup->Ans T K ops A l s k=some r ->
  ∃ s' Ds obs,k s'=some r/\(∀ xs,∃ ys,I5 P T K ops Ds l xs (s.st nt)=some (ys,s'.st nt,obs))/\(∀ p ∈ obs,p) /\ ∀ j,(A1 j Ds).isSome=true ↔ j ∈ l.map (·.1)
 | [],s,k,r,_,h=>⟨s,[],[],h,λxs=>⟨xs,rfl⟩,by simp,λj=>by simp [A1]⟩
 | (i,o)::l,s,k,r,hn,h=>by
  simp only [QT,JB] at hn;simp only [Ans] at h
  have hEi:((A1 i A).getD {}).S P:=by
   cases hl:A1 i A with
   | none=>exact ⟨(λE h=>by cases h),(λE h=>by cases h),(λE h=>by cases h)⟩
   | some a=>exact hE i a hl
  obtain ⟨s00,e1,hg⟩:=Air (nt:=nt) h;rcases hg with ⟨g1,g2⟩ | ⟨g1,g2⟩
  . cases hq:OA.quiet T ((A1 i A).getD {}) o s00 with
    | false=>rw [hq] at g2;cases g2
    | true =>
     rw [hq] at g2;simp only [cond] at g2;obtain ⟨t,s1,D,x,ob1,d1,d2,d3,d4,d5,d6⟩:=B3w (P:=P) (nt:=nt) g2 hq hEi;obtain ⟨s',Ds,ob2,h7,h8,h9,h10⟩:=Afl hE l s1 k r hn.2 d5;refine ⟨s',(i,D)::Ds,ob1++ob2,h7,λxs=>?_,λp hp=>?_,Aig h10⟩
     . obtain ⟨ys,h8⟩:=h8 ((i,t,x)::xs);refine ⟨ys,?_⟩;rw [e1] at d3 d6;simp only [I5,d1,C7,YN,Xr,g1,d3,d2,cond]
       rw [<- d6,Lc (Ds':=Ds) l _ _ λp hp=>Bm λe=>hn.1 (by rw [e];exact ZK.2 ⟨p,hp,rfl⟩),h8]
     . rcases QG.1 hp with hp | hp
       . exact d4 p hp
       . exact h9 p hp
  . cases hd:o.dst with
    | none=>rw [hd] at g2;cases g2
    | some t =>
     rw [hd] at g2;simp only [Option.isSome_some,cond] at g2;obtain ⟨s1,h4,h6⟩:=Ane (nt:=nt) g2;rw [hd] at h4;simp only [St.putD] at h4
     cases hb:Nat.blt t K.N with
     | false=>rw [hb] at h4;cases h4
     | true =>
      rw [hb] at h4;simp only [cond,QF] at h4;obtain ⟨s',Ds,ob2,h7,h8,h9,h10⟩:=Afl hE l s1 k r hn.2 h6
      refine ⟨s',(i,{})::Ds,[]++ob2,h7,λxs=>?_,λp hp=>h9 p (by simpa using hp),Aig h10⟩
      obtain ⟨ys,h8⟩:=h8 ((i,t,.tup [])::xs);refine ⟨ys,?_⟩;rw [e1] at h4;simp only [I5,hd,C7,YN,Xr,g1,hb,cond]
      rw [h4,Lc (Ds':=Ds) l _ _ λp hp=>Bm λe=>hn.1 (by rw [e];exact ZK.2 ⟨p,hp,rfl⟩),h8]
theorem H8 (l:List Oper):((Ad l).map (·.1)).Nodup:=by
 have:(Ad l).map (·.1)=List.range l.length:=by
  apply JY;intro j;simp only [Ad,XC,QQ,YY];by_cases hj:j<l.length
  . simp [hj]
  . simp [hj]
 rw [this];exact Qbf
theorem Bgw (hT:B8 P T) (hfol:P.follows .mixedOrders=true) {K:Aj} {A:RA} {id:Nat} {ops:Array Oper} {draw:Bool} {s:St3} {nt:Nat} {k:St3->Option α} {r:α}
  (hE:∀ i a,A1 i A.ops=some a->a.S P) (h:Bb1 P T K A ops draw s k=some r) :
  ∃ s',Code.Den P K (.region id ops draw) (s.st nt) .normal (s'.st nt)/\k s'=some r:=by
 unfold Bb1 at h
 cases draw with
 | true =>
  simp only [cond] at h
  cases hok:Fm ops A.m with
  | false=>rw [hok] at h;cases h
  | true =>
   rw [hok] at h;obtain ⟨s0,fz,ob0,h1,h2,h3,_⟩:=Uz (nt:=nt) h;obtain ⟨s1,Ds1,ob1,h4,h5,h6,h6'⟩:=Afl (P:=P) (nt:=nt) hE _ s0 _ _ ((H8 ops.toList).sublist ((List.take_sublist _ _).map _)) h3;obtain ⟨s2,Ds2,ob2,h7,h8,h9⟩:=A4t (P:=P) (nt:=nt) hT hE _ s1 _ _ ((H8 ops.toList).sublist ((List.drop_sublist _ _).map _)) h4;refine ⟨s2,?_,h7⟩;have hnd:=H8 ops.toList
   have e1:∀ p ∈ (Ad ops.toList).take A.m,A1 p.1 (Ds1++Ds2)=A1 p.1 Ds1:=λp hp=>by
    have:=(h6' p.1).2 (ZK.2 ⟨p,hp,rfl⟩);exact A0h this
   have e2:∀ p ∈ (Ad ops.toList).drop A.m,A1 p.1 (Ds1++Ds2)=A1 p.1 Ds2:=λp hp=>by
    refine A0i ?_
    cases hl:A1 p.1 Ds1 with
    | none=>rfl
    | some d =>
     exfalso
     have hm:=(h6' p.1).1 (by rw [hl];rfl)
     have hd:p.1 ∈ ((Ad ops.toList).drop A.m).map (·.1):=ZK.2 ⟨p,hp,rfl⟩;rw [<- JE A.m (Ad ops.toList),YS,List.nodup_append] at hnd;exact hnd.2.2 _ hm _ hd rfl
   obtain ⟨ys,h5⟩:=h5 []
   have:A1m P T K ops A.m (Ds1++Ds2) fz (s.st nt)=some (s2.st nt,(P.follows .mixedOrders=true)::(ob0++(ob1++ob2))):=by
    unfold A1m;rw [hok];simp only [cond,h1];rw [Lc _ _ _ e1,h5];simp only;rw [Ld _ _ e2,h8]
   refine Ani hT this λp hp=>?_;rcases QX.1 hp with rfl | hp
   . exact hfol
   . rcases QG.1 hp with hp | hp
     . exact h2 p hp
     . rcases QG.1 hp with hp | hp
       . exact h6 p hp
       . exact h9 p hp
 | false =>
  simp only [cond] at h;obtain ⟨s2,Ds2,ob2,h7,h8,h9⟩:=A4t (P:=P) (nt:=nt) hT hE _ s _ _ (H8 ops.toList) h;refine ⟨s2,?_,h7⟩
  have:O9 P T K ops { ds:=Ds2,drop:=[] } (s.st nt)=some ((s2.st nt).forget [],ob2):=by
   unfold O9;simp only [h8]
  have:=Ano (id:=id) hT this h9
  have e:(s2.st nt).forget []=s2.st nt:=by
   have:Amf [] (s2.st nt).slots=(s2.st nt).slots:=Qak.2 λ_ _=>rfl;unfold St.forget;rw [this]
  rw [e] at this;exact this
end Go.Ev
