/- DERIVED. The evaluator over shapes of data: calls, trees, all paths. -/
import Derived.Test.YtdheaaapdlekdaaGreatEc

set_option linter.all false
set_option linter.unusedVariables false
set_option linter.unusedSimpArgs false

/- DERIVED. What is settled, and results, over shapes; templates of states. -/
namespace Go.Ev
open Go
variable {P:Program} {T:Ty}
theorem Adf {bs:List (Nat × B3)} {t:Sh} {v:SV} {g:Bool} {x:t.den} {ks:List Nat} (ht:t.one=true) (h:Fm bs t v=some (g,x,ks)) (hg:g=true) :
  v.cellB=true/\(∃ ob,Qr (A2 · (Ak (B3.box (A6 bs)) bs)) (v.c (A6 bs)) (.i (hd1 (t.cells x)))=some (ob,ks) /\ ∀ p ∈ ob,p) /\ ∀ k ∈ ks,k<1000/\(A2 k bs).isSome=true:=by
 unfold Fm at h;split at h
 . rename_i hh;split at h
   . rename_i t0;split at h
     . rename_i e sh fz xs hl
       cases hk:Nat.blt hh 1000 with
       | false=>rw [hk] at h;cases h
       | true =>
        rw [hk] at h;simp only [cond,QE,QI] at h;obtain ⟨y,hy,rfl,rfl,rfl⟩:=h;obtain ⟨rfl,rfl⟩:=Dp hy
        have hle:A6 bs hh=xs.length:=by simp [A6,hl,B3.len]
        refine ⟨rfl,⟨[0+A6 bs hh<=(xs.map λy=>(sh.cells y).map C.i).length,((xs.map λy=>(sh.cells y).map C.i).drop 0).take (A6 bs hh)=(xs.map sh.cells).map (·.map .i)],?_,?_⟩,?_⟩
        . simp only [Qr,SV.c,Bs,hl,QU,B3.box,Sh.cells,hd1,YB,ZW,XT,ZN,cond]
        . simp only [QV,YH,or_false,forall_eq_or_imp,forall_eq]
          refine ⟨by simp [hle],?_⟩
          rw [ZQ,hle,YK (by simp),ZY]
          rfl
        . intro k hk';simp only [QR] at hk';subst hk'
          exact ⟨by simpa [ZZ] using hk,by rw [hl];rfl⟩
     . cases h
   . cases h
 . rename_i hh off len;split at h
   . rename_i t0;split at h
     . rename_i e sh fz xs hl
       cases hk:Nat.blt hh 1000 with
       | false=>rw [hk] at h;cases h
       | true =>
        rw [hk] at h;simp only [cond,QE,QI] at h;obtain ⟨y,hy,rfl,rfl,rfl⟩:=h;obtain ⟨rfl,rfl⟩:=Dp hy;simp only [QO] at hg;refine ⟨rfl,⟨[off+len<=(xs.map λy=>(sh.cells y).map C.i).length,((xs.map λy=>(sh.cells y).map C.i).drop off).take len=(((xs.drop off).take len).map sh.cells).map (·.map .i)],?_,?_⟩,?_⟩
        . simp only [Qr,SV.c,Bs,hl,QU,B3.box,Sh.cells,hd1,YB,ZW,XT,ZN,cond]
        . simp only [QV,YH,or_false,forall_eq_or_imp,forall_eq]
          refine ⟨by simpa using hg,?_⟩
          rw [ZY,JI,KH];rfl
        . intro k hk';simp only [QR] at hk';subst hk'
          exact ⟨by simpa [ZZ] using hk,by rw [hl];rfl⟩
     . cases h
   . cases h
 . rename_i cs;split at h
   . rename_i t0
     cases hd:cs.all SV.isD with
     | false=>rw [hd] at h;cases h
     | true =>
      rw [hd] at h;simp only [cond,QE,QI] at h;obtain ⟨y,hy,rfl,rfl,rfl⟩:=h;obtain ⟨_,_,h3,_⟩:=Df hy
      refine ⟨hd,⟨[C.i (.ref 0 (cs.map SV.i0))=C.i (.ref 0 (t0.cells y))],rfl,by simp [h3 hd]⟩,by simp⟩
   . cases h
 . rename_i h1 h2 h3;rw [ht] at h;simp only [cond,QE,QI] at h;obtain ⟨y,hy,rfl,rfl,rfl⟩:=h;obtain ⟨q1,ob,q2,q3⟩:=Sk (L:=A6 bs) ht hy
   refine ⟨Q1 q1,⟨ob,?_,q3⟩,by simp⟩
   have hI:Ch (v.c (A6 bs))=true:=Nb (A9f q1);unfold Qr;split
   . rename_i he _;rw [he] at hI;cases hI
   . rw [q2];rfl
def Ps (bs:List (Nat × B3)) (cs:List SV) (ds:List I) (ks:List Nat):Prop :=
 (∃ ob,Ez (A2 · (Ak (B3.box (A6 bs)) bs)) (cs.map (SV.c (A6 bs))) (ds.map .i)=some (ob,ks) /\ ∀ p ∈ ob,p) /\ ∀ k ∈ ks,k<1000/\(A2 k bs).isSome=true
theorem Ps.app {bs:List (Nat × B3)}:∀ {cs cs':List SV} {ds ds':List I} {ks ks':List Nat},Ps bs cs ds ks->Ps bs cs' ds' ks'->Ps bs (cs++cs') (ds++ds') (ks++ks')
 | [],cs',[],ds',ks,ks',h,h'=>by
  obtain ⟨⟨ob,h,_⟩,_⟩:=h;simp only [XP,Ez,QC,QI] at h;obtain ⟨_,rfl⟩:=h;exact h'
 | [],cs',d::ds,ds',_,_,h,_=>by obtain ⟨⟨ob,h,_⟩,_⟩:=h;simp [Ez] at h
 | c::cs,cs',[],ds',_,_,h,_=>by obtain ⟨⟨ob,h,_⟩,_⟩:=h;simp [Ez] at h
 | c::cs,cs',d::ds,ds',ks,ks',h,h'=>by
  obtain ⟨⟨ob,h,ho⟩,hk⟩:=h;simp only [QS,Ez] at h;split at h
  . rename_i p k q l h1 h2;simp only [QC,QI] at h;obtain ⟨rfl,rfl⟩:=h;obtain ⟨⟨ob2,h3,ho2⟩,hk2⟩:=Ps.app (cs:=cs) (ds:=ds) (ks:=l) ⟨⟨q,h2,λx hx=>ho x (QD.2 (.inr hx))⟩,λk hk'=>hk k (QD.2 (.inr hk'))⟩ h';refine ⟨⟨p++ob2,?_,λx hx=>?_⟩,λj hj=>?_⟩
    . simp only [YD,QS,Ez,h1,h3,ZP]
    . rcases QD.1 hx with hx | hx
      . exact ho x (QD.2 (.inl hx))
      . exact ho2 x hx
    . rw [ZP] at hj;rcases QD.1 hj with hj | hj
      . exact hk j (QD.2 (.inl hj))
      . exact hk2 j hj
  . cases h
theorem B5c {bs:List (Nat × B3)}:∀ (t:Sh) (cs:List SV) (g:Bool) (x:t.den) (ks:List Nat) (r:List SV),t.impB bs cs=some (g,x,ks,r)->g=true->∃ pre,cs=pre++r/\Ps bs pre (t.cells x) ks/\pre.all SV.cellB=true:=by
 have cell:∀ (t:Sh) (c:SV) (r q:List SV) (g:Bool) (x:t.den) (ks:List Nat),t.one=true->(Fm bs t c).map (λp=>(p.1,p.2.1,p.2.2,r))=some (g,x,ks,q)->g=true->∃ pre,c::r=pre++q/\Ps bs pre (t.cells x) ks/\pre.all SV.cellB=true:=by
  intro t c r q g x ks ht h hg;simp only [QE,QI] at h;obtain ⟨⟨g',x',k'⟩,h1,rfl,rfl,rfl,rfl⟩:=h;obtain ⟨hc,⟨ob,h2,h3⟩,h4⟩:=Adf ht h1 hg
  refine ⟨[c],rfl,⟨⟨ob++[],?_,by simpa using h3⟩,h4⟩,by simp [hc]⟩
  rw [Sg t x' ht];simp only [QS,XP,Ez,h2,XN]
 intro t
 induction t with
 | pair a b iha ihb =>
  intro cs g x ks r h hg;simp only [Sh.impB] at h;split at h
  . rename_i g1 y k1 q h1;split at h
    . rename_i g2 z k2 q' h2;simp only [QC,QI] at h;obtain ⟨rfl,rfl,rfl,rfl⟩:=h;simp only [QF] at hg;obtain ⟨p1,e1,c1,i1⟩:=iha _ _ _ _ _ h1 hg.1;obtain ⟨p2,e2,c2,i2⟩:=ihb _ _ _ _ _ h2 hg.2
      exact ⟨p1++p2,by rw [e1,e2,ZP],c1.app c2,by simp [i1,i2]⟩
    . cases h
  . cases h
 | st t ih=>intro cs g x ks r h hg;exact ih _ _ _ _ _ h hg
 | unit =>
  intro cs g x ks r h _;simp only [Sh.impB,QC,QI] at h;obtain ⟨_,_,rfl,rfl⟩:=h
  exact ⟨[],rfl,⟨⟨[],rfl,by simp⟩,by simp⟩,rfl⟩
 | int k=>intro cs g x ks r h hg;cases cs with | nil=>simp [Sh.impB] at h | cons c cs=>exact cell _ _ _ _ _ _ _ rfl h hg
 | bool=>intro cs g x ks r h hg;cases cs with | nil=>simp [Sh.impB] at h | cons c cs=>exact cell _ _ _ _ _ _ _ rfl h hg
 | str=>intro cs g x ks r h hg;cases cs with | nil=>simp [Sh.impB] at h | cons c cs=>exact cell _ _ _ _ _ _ _ rfl h hg
 | nil=>intro cs g x ks r h hg;cases cs with | nil=>simp [Sh.impB] at h | cons c cs=>exact cell _ _ _ _ _ _ _ rfl h hg
 | fn f=>intro cs g x ks r h hg;cases cs with | nil=>simp [Sh.impB] at h | cons c cs=>exact cell _ _ _ _ _ _ _ rfl h hg
 | sl t _=>intro cs g x ks r h hg;cases cs with | nil=>simp [Sh.impB] at h | cons c cs=>exact cell _ _ _ _ _ _ _ rfl h hg
 | ref t _=>intro cs g x ks r h hg;cases cs with | nil=>simp [Sh.impB] at h | cons c cs=>exact cell _ _ _ _ _ _ _ rfl h hg
 | clo f c _=>intro cs g x ks r h hg;cases cs with | nil=>simp [Sh.impB] at h | cons v cs=>exact cell _ _ _ _ _ _ _ rfl h hg
theorem Fv {L:Nat->Nat} {v:SV} (h:v.cellB=true):v.s L = .v (.one (v.c L))/\v.v L = .one (v.c L):=by cases v <;> first | exact ⟨rfl,rfl⟩ | cases h
theorem Qq {bs:List (Nat × B3)} {t:Sh} {v:SV} {g:Bool} {x:t.den} {ks:List Nat} (h:Z7 bs t v=some (g,x,ks)) (hg:g=true) :
  v.s (A6 bs) = .v (v.v (A6 bs))/\(∃ ob,Jd (A2 · (Ak (B3.box (A6 bs)) bs)) (v.v (A6 bs)) (t.v x)=some (ob,ks) /\ ∀ p ∈ ob,p) /\ ∀ k ∈ ks,k<1000/\(A2 k bs).isSome=true:=by
 unfold Z7 at h
 cases ht:t.one with
 | true =>
  rw [ht] at h;obtain ⟨hc,⟨ob,h1,h2⟩,h3⟩:=Adf ht h hg;obtain ⟨e1,e2⟩:=Fv (L:=A6 bs) hc
  refine ⟨by rw [e1,e2],⟨ob,?_,h2⟩,h3⟩
  simp only [e2,Sh.v,ht,cond,Jd,h1]
 | false =>
  rw [ht] at h;simp only [cond] at h;split at h
  . rename_i cs;split at h
    . rename_i g1 y k1 hi;simp only [QC,QI] at h;obtain ⟨rfl,rfl,rfl⟩:=h;obtain ⟨pre,e,⟨⟨ob,h1,h2⟩,h3⟩,_⟩:=B5c _ _ _ _ _ _ hi hg;rw [XN] at e;subst e;refine ⟨rfl,⟨ob,?_,h2⟩,h3⟩;simp only [SV.v,Sh.v,ht,cond,Jd,h1]
    . cases h
  . cases h
theorem A5s {bs:List (Nat × B3)} {L:Nat->Nat} {ks:List Nat} (h:∀ k ∈ ks,k<1000/\(A2 k bs).isSome=true):Hv (Ak (B3.box L) bs) ks=true:=by
 unfold Hv;refine QH.2 λk hk=>?_;obtain ⟨h1,h2⟩:=h k hk;rw [Aq,KA,h2];simpa [ZZ] using h1
theorem Sw {s s':St3} {nt:Nat} {t:Nat} {sh:Sh} {g:Bool} (h:N8 s t sh=some (g,s')) (hg:g=true) :
  ∃ (x':V) (ob:List Prop),Wi (s.st nt) t x'=some (s'.st nt,ob) /\ ∀ p ∈ ob,p:=by
 unfold N8 at h;split at h
 . rename_i v hv;split at h
   . rename_i g1 x ks hc;simp only [QC,QI] at h;obtain ⟨rfl,rfl⟩:=h;obtain ⟨h1,⟨ob,h2,h3⟩,h4⟩:=Qq hc hg;refine ⟨sh.v x,ob,?_,h3⟩
     have hl:A2 t (s.st nt).slots=some (.v (v.v (A6 s.boxes))):=by
      simp only [St3.st,Aq,hv,QU,h1]
     have h2':Jd (A2 · (s.st nt).boxes) (v.v (A6 s.boxes)) (sh.v x)=some (ob,ks):=h2;have hz:Hv (s.st nt).boxes ks=true:=A5s h4;simp only [Wi,hl,h2',hz,cond,QC,QI,and_true];simp only [St3.st];congr 1
     . rw [Ew,<- (Ir (L:=A6 s.boxes) sh x).2,F5]
     . rw [Ew];exact J1 _ _ _
   . cases h
 . cases h
inductive TS where
 | d (t:Sh)
 | ag (t:Sh)
 | k (v:SV)
 | hs (h:Nat)
@[reducible] def TS.den:TS->Type
 | .d t=>t.den
 | .ag t=>t.den
 | .k _=>Unit
 | .hs _=>Nat × Nat
def TS.enc:(t:TS)->t.den->SV
 | .d t,x=>.d t x
 | .ag t,x=>.agg (t.exp x)
 | .k v,_=>v
 | .hs h,x=>.hs h x.1 x.2
def SV.same:SV->SV->Bool
 | .hw h,.hw h'=>Nat.beq h h'
 | .hp h r c,.hp h' r' c'=>Nat.beq h h'&&Nat.beq r r'&&Nat.beq c c'
 | .dead,_=>true
 | .d t _,.d t' _=>(match t with
  | .nil=>true
  | .fn _=>true
  | _=>false)&&t.eqb t'
 | _,_=>false
def TS.dec:(t:TS)->SV->Option t.den
 | .d t,v=>match v with
  | .rf cs=>match t with
   | .ref t0=>bif cs.all SV.isD then t0.all false cs else none
   | _=>none
  | v=>bif t.one then v.as true t else none
 | .ag t,v=>match v with
  | .agg cs=>t.all true cs
  | _=>none
 | .k c,v=>bif c.same v then some () else none
 | .hs h,v=>match v with
  | .hs h' o l=>bif Nat.beq h h' then some (o,l) else none
  | _=>none
inductive TB where
 | arr (e:TypeId) (t:Sh) (fz:Bool)
 | var (e:TypeId) (hf fz:Bool) (cs:List TS)
 | tree (e:TypeId) (t:Sh) (fz:Bool)
@[reducible] def DL:List TS->Type
 | []=>Unit
 | t::r=>t.den × DL r
def Ja:(l:List TS)->DL l->List SV
 | [],_=>[]
 | t::r,x=>t.enc x.1::Ja r x.2
def Aaz:(l:List TS)->List SV->Option (DL l)
 | [],[]=>some ()
 | t::r,v::vs=>match t.dec v,Aaz r vs with
  | some x,some xs=>some (x,xs)
  | _,_=>none
 | _,_=>none
@[reducible] def TB.den:TB->Type
 | .arr _ t _=>List t.den
 | .var _ _ _ cs=>DL cs
 | .tree _ t _=>List t.den
def TB.enc:(b:TB)->b.den->B3
 | .arr e t fz,xs=>.arr e t fz xs
 | .var e hf fz cs,xs=>.var e hf fz (Ja cs xs)
 | .tree e t fz,xs=>.tree e t fz xs
def TB.dec:(b:TB)->B3->Option b.den
 | .arr e t fz,b=>match b with
  | .arr e' t' fz' xs=>bif Nat.beq e e'&&(fz==fz') then (Sh.sl t').to (.sl t) xs else none
  | .rep e' fz' n cs=>bif Nat.beq e e'&&(fz==fz') then (t.all true cs).map λx=>List.replicate n x else none
  | _=>none
 | .var e hf fz cs,b=>match b with
  | .var e' hf' fz' vs=>bif Nat.beq e e'&&(hf==hf')&&(fz==fz')&&vs.all SV.cellB then (match Aaz cs vs with
   | some x=>bif (Ja cs x).all SV.cellB&&(!hf || (Ja cs x).all SV.imm) then some x else none
   | none=>none) else none
  | _=>none
 | .tree e t fz,b=>match b with
  | .tree e' t' fz' xs=>bif Nat.beq e e'&&(fz==fz') then (Sh.sl t').to (.sl t) xs else none
  | _=>none
@[reducible] def DK (β:Type) (den:β->Type):List (Nat × β)->Type
 | []=>Unit
 | (_,t)::r=>den t × DK β den r
def Ajc:(l:List (Nat × TS))->DK TS TS.den l->List (Nat × SV)
 | [],_=>[]
 | (k,t)::r,x=>(k,t.enc x.1)::Ajc r x.2
def Aay:(l:List (Nat × TS))->List (Nat × SV)->Option (DK TS TS.den l)
 | [],[]=>some ()
 | (k,t)::r,(j,v)::vs=>bif Nat.beq k j then (match t.dec v,Aay r vs with
  | some x,some xs=>some (x,xs)
  | _,_=>none) else none
 | _,_=>none
def Ux:(l:List (Nat × TB))->DK TB TB.den l->List (Nat × B3)
 | [],_=>[]
 | (k,t)::r,x=>(k,t.enc x.1)::Ux r x.2
def Ab0:(l:List (Nat × TB))->List (Nat × B3)->Option (DK TB TB.den l)
 | [],[]=>some ()
 | (k,t)::r,(j,v)::vs=>bif Nat.beq k j then (match t.dec v,Ab0 r vs with
  | some x,some xs=>some (x,xs)
  | _,_=>none) else none
 | _,_=>none
structure Tm where
 slots:List (Nat × TS)
 boxes:List (Nat × TB):=[]
 drop:List Nat:=[]
 fz:List (Nat × Sh):=[]
@[reducible] def Tm.den (X:Tm):Type:=DK TS TS.den X.slots × DK TB TB.den X.boxes
def Tm.enc (X:Tm) (x:X.den):St3:=⟨Ajc X.slots x.1,Ux X.boxes x.2⟩
def T7:List (Nat × TS)->List (Nat × SV)->List (Nat × SV)
 | X,sl=>sl.filter λp=>X.any λq=>Nat.beq q.1 p.1
def Aek:List Nat->St3->Option St3
 | [],s=>some s
 | h::r,s=>bif Nat.blt h 1000&&s.clean h then Aek r { s with boxes:=Jb h s.boxes } else none
def Jv:List (Nat × Sh)->St3->Option St3
 | [],s=>some s
 | (t,sh)::r,s=>match A2 t s.slots with
  | some (.d _ _)=>Jv r s
  | _=>match N8 s t sh with
   | some (g,s1)=>bif g then Jv r s1 else none
   | none=>none
def Tm.dec1 (X:Tm) (s:St3):Option X.den :=
 match Aek X.drop { s with slots:=T7 X.slots s.slots } with
 | some s2=>match Aay X.slots s2.slots,Ab0 X.boxes s2.boxes with
  | some x,some y=>some (x,y)
  | _,_=>none
 | none=>none
def Tm.dec (X:Tm) (s:St3):Option X.den :=
 match Jv X.fz s with
 | some s1=>X.dec1 s1
 | none=>none
end Go.Ev

/- DERIVED. Calls that are handed boxes or hand out boxes, over shapes. -/
namespace Go.Ev
open Go
variable {P:Program} {T:Ty}
inductive CK where
 | im (t:Sh)
 | own (e:TypeId) (t:Sh)
 | ptr (e:TypeId) (t:Sh)
 | back (k:Nat)
 | win (e:TypeId) (t:Sh)
 | tree (e:TypeId) (t:Sh)
 | emp (t:Sh)
 | vst (e:TypeId) (fs:List (Sh ⊕ Nat))
@[reducible] def DF:List (Sh ⊕ Nat)->Type
 | []=>Unit
 | .inl t::r=>t.den × DF r
 | .inr _::r=>DF r
def We:(fs:List (Sh ⊕ Nat))->DF fs->List SV
 | [],_=>[]
 | .inl t::r,x=>.d t x.1::We r x.2
 | .inr j::r,x=>.hw j::We r x
@[reducible] def CK.den:CK->Type
 | .im t=>t.den
 | .own _ t=>List t.den
 | .ptr _ t=>t.den
 | .back _=>Unit
 | .win _ t=>List t.den × Nat × Nat
 | .tree _ t=>List t.den
 | .emp _=>Unit
 | .vst _ fs=>DF fs
@[reducible] def DC:List CK->Type
 | []=>Unit
 | [c]=>c.den
 | c::d::r=>c.den × DC (d::r)
inductive PK where
 | im (t:Sh)
 | one (c:CK)
 | mix (cs:List CK)
 | pst (e:TypeId) (gs:List CK)
@[reducible] def PK.den:PK->Type
 | .im t=>t.den
 | .one c=>c.den
 | .mix cs=>DC cs
 | .pst _ gs=>DC gs
@[reducible] def HP:List PK->Type
 | []=>Unit
 | [p]=>p.den
 | p::q::r=>p.den × HP (q::r)
def CK.sv (k:Nat):(c:CK)->c.den->SV
 | .im t,x=>.d t x
 | .own _ _,_=>.hw k
 | .ptr _ _,_=>.hp k 0 0
 | .back j,_=>.hw j
 | .win _ _,x=>.hs k x.2.1 x.2.2
 | .tree _ _,_=>.hw k
 | .emp t,_=>.d (.sl t) []
 | .vst _ _,_=>.hp k 0 0
def CK.bx (k:Nat):(c:CK)->c.den->List (Nat × B3)
 | .own e t,xs=>[(k,.arr e t false xs)]
 | .ptr e t,x=>[(k,.var e true false (t.exp x))]
 | .win e t,x=>[(k,.arr e t false x.1)]
 | .tree e t,xs=>[(k,.tree e t false xs)]
 | .vst e fs,x=>[(k,.var e false false (We fs x))]
 | _,_=>[]
def G5 (k:Nat):(cs:List CK)->DC cs->List SV
 | [],_=>[]
 | [c],x=>[c.sv k x]
 | c::d::r,x=>c.sv k x.1::G5 (k+1) (d::r) x.2
def H5 (k:Nat):(cs:List CK)->DC cs->List (Nat × B3)
 | [],_=>[]
 | [c],x=>c.bx k x
 | c::d::r,x=>c.bx k x.1++H5 (k+1) (d::r) x.2
def PK.n:PK->Nat
 | .mix cs=>cs.length
 | .pst _ gs=>gs.length+1
 | _=>1
def PK.isIm:PK->Bool
 | .im _=>true
 | _=>false
def PK.sv (k:Nat):(p:PK)->p.den->SV
 | .im t,x=>t.sv x
 | .one c,x=>c.sv k x
 | .mix cs,x=>.agg (G5 k cs x)
 | .pst _ _,_=>.hp k 0 0
def PK.bx (k:Nat):(p:PK)->p.den->List (Nat × B3)
 | .im _,_=>[]
 | .one c,x=>c.bx k x
 | .mix cs,x=>H5 k cs x
 | .pst e gs,x=>(k,.var e false false (G5 (k+1) gs x))::H5 (k+1) gs x
def C0 (k:Nat):(ps:List PK)->HP ps->List SV
 | [],_=>[]
 | [p],x=>[p.sv k x]
 | p::q::r,x=>p.sv k x.1::C0 (k+p.n) (q::r) x.2
def Cv (k:Nat):(ps:List PK)->HP ps->List (Nat × B3)
 | [],_=>[]
 | [p],x=>p.bx k x
 | p::q::r,x=>p.bx k x.1++Cv (k+p.n) (q::r) x.2
def CK.owns (k:Nat):CK->List (Nat × CK)
 | .own e t=>[(k,.own e t)]
 | .ptr e t=>[(k,.ptr e t)]
 | .win e t=>[(k,.own e t)]
 | .tree e t=>[(k,.tree e t)]
 | .vst e fs=>[(k,.vst e fs)]
 | _=>[]
def Ae7 (k:Nat):List CK->List (Nat × CK)
 | []=>[]
 | c::r=>c.owns k++Ae7 (k+1) r
def B15 (k:Nat):List CK->List (Sh ⊕ Nat)
 | []=>[]
 | .im t::r=>.inl t::B15 (k+1) r
 | _::r=>.inr k::B15 (k+1) r
def PK.owns (k:Nat):PK->List (Nat × CK)
 | .im _=>[]
 | .one c=>c.owns k
 | .mix cs=>Ae7 k cs
 | .pst e gs=>(k,.vst e (B15 (k+1) gs))::Ae7 (k+1) gs
def Am (k:Nat):List PK->List (Nat × CK)
 | []=>[]
 | p::r=>p.owns k++Am (k+p.n) r
@[reducible] def DO:List (Nat × CK)->Type
 | []=>Unit
 | [p]=>p.2.den
 | p::q::r=>p.2.den × DO (q::r)
def bxO:(os:List (Nat × CK))->DO os->List (Nat × B3)
 | [],_=>[]
 | [p],x=>p.2.bx p.1 x
 | p::q::r,x=>p.2.bx p.1 x.1++bxO (q::r) x.2
@[reducible] def HR (rs:List PK):List (Nat × CK)->Type
 | []=>HP rs
 | p::r=>HP rs × DO (p::r)
def Ml {rs:List PK}:{os:List (Nat × CK)}->HR rs os->HP rs
 | [],y=>y
 | _::_,y=>y.1
def B3o {rs:List PK}:{os:List (Nat × CK)}->HR rs os->DO os
 | [],_=>()
 | _::_,y=>y.2
structure H8 where
 f:Nat
 ts:List PK
 rs:List PK
 mv:List Nat
def Fx (E:H8) (x:HP E.ts):List (Nat × B3):=Cv 1000 E.ts x
def B1 (E:H8) (y:HR E.rs (Am 1000 E.ts)):List (Nat × B3):=Cv 0 E.rs (Ml y)++bxO (Am 1000 E.ts) (B3o y)
def Bo (bs:List (Nat × B3)):List (Nat × Box):=Ak (B3.box (A6 bs)) bs
def H8.Den (P:Program) (E:H8) (nt:Nat) (x:HP E.ts) (y:HR E.rs (Am 1000 E.ts)):Prop :=
 Jo P E.f nt E.mv (Bo (Fx E x)) ((C0 1000 E.ts x).map (SV.v (A6 (Fx E x)))) ((Hf (C0 0 E.rs (Ml y))).s (A6 (B1 E y))) nt (Bo (B1 E y))
@[reducible] def HF (os:List (Nat × CK)):List (List PK)->Type
 | []=>Unit
 | [rs]=>HR rs os
 | rs::r::q=>HR rs os ⊕ HF os (r::q)
def Bfe {A B α:Type} (z:A ⊕ B) (f:A->Option α) (g:B->Option α):Option α:=match z with
 | .inl a=>f a
 | .inr b=>g b
def Jh {α:Type} (os:List (Nat × CK)):(fs:List (List PK))->HF os fs->((rs:List PK)->HR rs os->Option α)->Option α
 | [],_,_=>none
 | [rs],y,k=>k rs y
 | rs::r::q,z,k=>Bfe z (λy=>k rs y) (λz=>Jh os (r::q) z k)
def Abb (os:List (Nat × CK)):(fs:List (List PK))->HF os fs->((rs:List PK)->HR rs os->Prop)->Prop
 | [],_,_=>True
 | [rs],y,k=>k rs y
 | rs::_::_,.inl y,k=>k rs y
 | _::r::q,.inr z,k=>Abb os (r::q) z k
theorem N2 {α:Type} {os:List (Nat × CK)} {p:(rs:List PK)->HR rs os->Prop}:∀ {fs:List (List PK)} {z:HF os fs} {k:(rs:List PK)->HR rs os->Option α} {r:α},Jh os fs z k=some r->Abb os fs z p->∃ rs y,k rs y=some r/\p rs y
 | [],_,_,_,h,_=>by cases h
 | [rs],y,k,r,h,hp=>⟨rs,y,h,hp⟩
 | rs::_::_,.inl y,k,r,h,hp=>⟨rs,y,h,hp⟩
 | _::r::q,.inr z,k,_,h,hp=>N2 (fs:=r::q) h hp
structure Ent3 where
 f:Nat
 ts:List PK
 forms:List (List PK)
 m:HP ts->Option (HF (Am 1000 ts) forms)
 mv:List Nat
def Ent3.Sound (P:Program) (E:Ent3):Prop:=∀ (nt:Nat) (x:HP E.ts) (z:HF (Am 1000 E.ts) E.forms),E.m x=some z->Abb (Am 1000 E.ts) E.forms z λrs y=>H8.Den P ⟨E.f,E.ts,rs,E.mv⟩ nt x y
def De (rn:List (Nat × Nat)) (k:Nat):Nat:=match A2 k rn with
 | some h=>h
 | none=>0
def Jj:List (Nat × Nat)->Nat->Option Nat
 | [],_=>none
 | (k,h')::r,h=>bif Nat.beq h' h then some k else Jj r h
def Eu:List (Nat × Nat)->Bool
 | []=>true
 | (k,h)::r=>r.all (λp=>!Nat.beq p.1 k && !Nat.beq p.2 h)&&Eu r
def Bk {β:Type}:List (Nat × β)->List (Nat × Nat)->Bool
 | [],[]=>true
 | (k,_)::B,(k',_)::R=>Nat.beq k k'&&Bk B R
 | _,_=>false
def Xf:List (Nat × B3)->List (Nat × Nat)->List (Nat × B3)->List (Nat × B3)
 | (_,b)::B,(_,h)::R,bs=>Az h b (Xf B R bs)
 | _,_,bs=>bs
theorem Ajv {a b:Nat} (h:Nat.beq a b=false):a ≠ b:=λe=>by subst e;simp at h
theorem A6f {a b:Nat} (h:a ≠ b):Nat.beq a b=false:=by cases hb:Nat.beq a b with | false=>rfl | true=>exact absurd (QB hb) h
theorem Kw {k h:Nat} {r:List (Nat × Nat)} (hg:Eu ((k,h)::r)=true):(∀ p ∈ r,p.1 ≠ k/\p.2 ≠ h)/\Eu r=true:=by
 simp only [Eu,QF,QH,XF] at hg;exact ⟨λp hp=>⟨Ajv (hg.1 p hp).1,Ajv (hg.1 p hp).2⟩,hg.2⟩
theorem Cs {β:Type}:∀ {rn:List (Nat × β)} {k:Nat} {h:β},A2 k rn=some h->(k,h) ∈ rn
 | [],_,_,e=>by cases e
 | (k',h')::r,k,h,e=>by
  simp only [A2] at e
  cases hb:Nat.beq k' k with
  | true=>rw [hb] at e;obtain rfl:=QA e;rw [QB hb];exact XZ
  | false=>rw [hb] at e;exact ZE _ (Cs e)
theorem A10:∀ {rn:List (Nat × Nat)} {k h:Nat},Jj rn h=some k->(k,h) ∈ rn
 | [],_,_,e=>by cases e
 | (k',h')::r,k,h,e=>by
  simp only [Jj] at e
  cases hb:Nat.beq h' h with
  | true=>rw [hb] at e;obtain rfl:=QA e;rw [QB hb];exact XZ
  | false=>rw [hb] at e;exact ZE _ (A10 e)
theorem F3:∀ {rn:List (Nat × Nat)} {k h:Nat},Eu rn=true->(k,h) ∈ rn->A2 k rn=some h/\Jj rn h=some k
 | [],_,_,_,e=>by cases e
 | (k',h')::r,k,h,hg,e=>by
  obtain ⟨h1,h2⟩:=Kw hg;simp only [A2,Jj];rcases QV.1 e with e | e
  . obtain ⟨rfl,rfl⟩:=KD e;simp only [YB,cond];exact ⟨trivial,trivial⟩
  . obtain ⟨e1,e2⟩:=F3 h2 e;rw [A6f (h1 _ e).1.symm,A6f (h1 _ e).2.symm];exact ⟨e1,e2⟩
theorem Cp {β:Type}:∀ {B:List (Nat × β)} {R:List (Nat × Nat)},Bk B R=true->∀ k,(A2 k B).isSome=(A2 k R).isSome
 | [],[],_,_=>rfl
 | (k1,b)::B,(k2,h)::R,e,k=>by
  simp only [Bk,QF] at e;obtain rfl:=QB e.1;simp only [A2]
  cases Nat.beq k1 k with
  | true=>rfl
  | false=>exact Cp e.2 k
 | [],_::_,e,_=>by simp [Bk] at e
 | _::_,[],e,_=>by simp [Bk] at e
theorem X5 {β:Type}:∀ {B:List (Nat × β)} {R:List (Nat × Nat)} {k:Nat} {b:β},Bk B R=true->Eu R=true->(k,b) ∈ B->A2 k B=some b
 | [],_,_,_,_,_,e=>by cases e
 | (k1,b1)::B,(k2,h)::R,k,b,hs,hg,e=>by
  simp only [Bk,QF] at hs;obtain rfl:=QB hs.1;obtain ⟨h1,h2⟩:=Kw hg;simp only [A2];rcases QV.1 e with e | e
  . obtain ⟨rfl,rfl⟩:=KD e;simp only [YB,cond]
  . have:=X5 hs.2 h2 e
    have hk:(A2 k R).isSome=true:=by rw [<- Cp hs.2 k,this];rfl
    obtain ⟨h',hh⟩:=QX.1 hk;rw [A6f (h1 _ (Cs hh)).1.symm];exact this
 | _::_,[],_,_,hs,_,_=>by simp [Bk] at hs
theorem A1u:∀ {B:List (Nat × B3)} {R:List (Nat × Nat)} {bs:List (Nat × B3)},Bk B R=true->Eu R=true->∀ h,A2 h (Xf B R bs)=match Jj R h with | some k=>A2 k B | none=>A2 h bs
 | [],[],_,_,_,h=>rfl
 | (k1,b)::B,(k2,h2)::R,bs,hs,hg,h=>by
  simp only [Bk,QF] at hs;obtain rfl:=QB hs.1;obtain ⟨g1,g2⟩:=Kw hg;simp only [Xf,Jj]
  cases hb:Nat.beq h2 h with
  | true =>
   obtain rfl:=QB hb;simp only [cond,Ax,A2,YB]
  | false =>
   simp only [cond];rw [Aw _ _ (Ajv hb).symm,A1u hs.2 g2 h]
   cases hw:Jj R h with
   | none=>rfl
   | some k =>
    simp only [A2];rw [A6f (g1 _ (A10 hw)).1.symm];rfl
 | [],_::_,_,e,_,_=>by simp [Bk] at e
 | _::_,[],_,e,_,_=>by simp [Bk] at e
def Sj (bs:List (Nat × B3)) (k:Nat):(c:CK)->SV->Option (c.den × List (Nat × Nat))
 | .im t,v=>bif t.one then (v.as true t).map λx=>(x,[]) else none
 | .own e t,.hw h=>match A2 h bs with
  | some (.arr e' sh false xs)=>bif Nat.beq e e' then ((Sh.sl sh).to (.sl t) xs).map λx=>(x,[(k,h)]) else none
  | _=>none
 | .ptr e t,.hp h 0 0=>match A2 h bs with
  | some (.var e' true false cs)=>bif Nat.beq e e'&&cs.all SV.isD then (t.all false cs).map λx=>(x,[(k,h)]) else none
  | _=>none
 | .tree e t,.hw h=>match A2 h bs with
  | some (.tree e' sh false xs)=>bif Nat.beq e e' then ((Sh.sl sh).to (.sl t) xs).map λx=>(x,[(k,h)]) else none
  | _=>none
 | .win e t,.hs h off len=>match A2 h bs with
  | some (.arr e' sh false xs)=>bif Nat.beq e e' then ((Sh.sl sh).to (.sl t) xs).map λx=>((x,off,len),[(k,h)]) else none
  | _=>none
 | _,_=>none
def Gf (bs:List (Nat × B3)) (k:Nat):(cs:List CK)->List SV->Option (DC cs × List (Nat × Nat))
 | [],[]=>some ((),[])
 | [c],[v]=>Sj bs k c v
 | c::d::r,v::vs=>match Sj bs k c v,Gf bs (k+1) (d::r) vs with
  | some (x,q),some (y,q')=>some ((x,y),q++q')
  | _,_=>none
 | _,_=>none
def A6w (bs:List (Nat × B3)) (k:Nat):(c:CK)->SV->Option (c.den × List (Nat × Nat))
 | .im t,v=>bif t.one then (v.as false t).map λx=>(x,[]) else none
 | .own e t,.hw h=>match A2 h bs with
  | some (.arr e' sh false xs)=>bif Nat.beq e e' then ((Sh.sl sh).to (.sl t) xs).map λx=>(x,[(k,h)]) else none
  | _=>none
 | _,_=>none
def Gr (bs:List (Nat × B3)) (k:Nat):(cs:List CK)->List SV->Option (DC cs × List (Nat × Nat))
 | [],[]=>some ((),[])
 | [c],[v]=>A6w bs k c v
 | c::d::r,v::vs=>match A6w bs k c v,Gr bs (k+1) (d::r) vs with
  | some (x,q),some (y,q')=>some ((x,y),q++q')
  | _,_=>none
 | _,_=>none
def Ath (bs:List (Nat × B3)) (k:Nat) (e:TypeId) (gs:List CK) (v:SV):Option (DC gs × List (Nat × Nat)):=match v with
 | .hp h 0 0=>match A2 h bs with
  | some (.var e' false false cs)=>bif Nat.beq e e' then (Gr bs (k+1) gs cs).map λq=>(q.1,(k,h)::q.2) else none
  | _=>none
 | _=>none
def A5v (bs:List (Nat × B3)) (k:Nat):(p:PK)->SV->Option (Bool × p.den × List Nat × List (Nat × Nat))
 | .im t,v=>(A5x bs t v).map λq=>(q.1,q.2.1,q.2.2,[])
 | .one c,v=>(Sj bs k c v).map λq=>(true,q.1,[],q.2)
 | .mix cs,.agg vs=>(Gf bs k cs vs).map λq=>(true,q.1,[],q.2)
 | .pst e gs,v=>(Ath bs k e gs v).map λq=>(true,q.1,[],q.2)
 | _,_=>none
def N4 (bs:List (Nat × B3)) (k:Nat):(ps:List PK)->List SV->Option (Bool × HP ps × List Nat × List (Nat × Nat))
 | [],[]=>some (true,(),[],[])
 | [p],[v]=>A5v bs k p v
 | p::q::r,v::vs=>match A5v bs k p v,N4 bs (k+p.n) (q::r) vs with
  | some (g,x,l,n),some (g',y,l',n')=>some (g&&g',(x,y),l++l',n++n')
  | _,_=>none
 | _,_=>none
def B3.plain:B3->Bool
 | .arr _ _ _ _=>true
 | .var _ hf _ cs=>hf&&cs.all SV.isD
 | .tree _ _ _ _=>true
 | _=>false
theorem A6c (σ:Nat->Nat) (p:Nat->Bool) {L:Nat->Nat} {b:B3} (h:b.plain=true):(b.box L).ren σ=b.box L/\(b.box L).okH p=true:=by
 cases b with
 | arr e t fz xs=>exact ⟨by simp [B3.box,Box.ren,ZY,JU,C.ren],by simp [B3.box,Box.okH,C.okH]⟩
 | tree e t fz xs=>exact ⟨by simp [B3.box,Box.ren,ZY,JU,C.ren],by simp [B3.box,Box.okH,C.okH]⟩
 | rep=>cases h
 | hole=>cases h
 | var e hf fz cs =>
  simp only [B3.plain,QF] at h;have hc:∀ x ∈ cs,x.c L = .i x.i0:=λx hx=>Apr (QH.1 h.2 x hx);refine ⟨?_,?_⟩
  . simp only [B3.box,Box.ren,QS,XP,ZY];congr 2
    exact ZD λx hx=>by simp only [Function.comp,hc x hx,C.ren]
  . simp only [B3.box,Box.okH,XL,KT,XT,YA,QH,Function.comp]
    exact λx hx=>by rw [hc x hx];rfl
theorem Wt {σ:Nat->Nat} {L:Nat->Nat} {b:B3} (h:b.plain=true):(b.box L).ren σ=b.box L:=(A6c σ (λ_=>true) h).1
theorem Wu {p:Nat->Bool} {L:Nat->Nat} {b:B3} (h:b.plain=true):(b.box L).okH p=true:=(A6c id p h).2
def C4 (bs B:List (Nat × B3)) (q:List (Nat × Nat)):Prop :=
 ∀ k b,(k,b) ∈ B->∃ h b',(k,h) ∈ q/\A2 h bs=some b'/\b'.len=b.len/\(∀ (L L' σ:Nat->Nat),(∀ p ∈ q,σ p.1=p.2/\L p.2=L' p.1)->b'.box L=(b.box L').ren σ) /\ ∀ L,(b.box L).fz=false/\(b.box L).okH (λk=>q.any λp=>Nat.beq p.1 k)=true
theorem C4.plain {bs:List (Nat × B3)} {k h:Nat} {b b':B3} {q:List (Nat × Nat)} (hq:(k,h) ∈ q) (hl:A2 h bs=some b') (hn:b'.len=b.len) (hp:b.plain=true) (hb:∀ L L',b'.box L=b.box L') (hf:∀ L,(b.box L).fz=false):C4 bs [(k,b)] q:=by
 intro k1 b1 hm;obtain ⟨rfl,rfl⟩:=KD (QR.1 hm);exact ⟨h,b',hq,hl,hn,λL L' σ _=>(hb L L').trans (Wt hp).symm,λL=>⟨hf L,Wu hp⟩⟩
theorem B4y {q q':List (Nat × Nat)} (h:∀ p ∈ q,p ∈ q') {b:Box} (hb:b.okH (λk=>q.any λp=>Nat.beq p.1 k)=true):b.okH (λk=>q'.any λp=>Nat.beq p.1 k)=true:=by
 refine QH.2 λr hr=>QH.2 λc hc=>C.okH_mono (λk hk=>?_) (QH.1 (QH.1 hb r hr) c hc);obtain ⟨p,hp,hp2⟩:=ZI.1 hk;exact ZI.2 ⟨p,h p hp,hp2⟩
theorem C4.mono {bs B:List (Nat × B3)} {q q':List (Nat × Nat)} (h:C4 bs B q) (hq:∀ p ∈ q,p ∈ q'):C4 bs B q':=by
 intro k b hb;obtain ⟨x,y,h1,h2,h3,h4,h5⟩:=h k b hb;exact ⟨x,y,hq _ h1,h2,h3,λL L' σ hh=>h4 L L' σ λp hp=>hh p (hq p hp),λL=>⟨(h5 L).1,B4y hq (h5 L).2⟩⟩
theorem C4.app {bs B B':List (Nat × B3)} {q q':List (Nat × Nat)} (h:C4 bs B q) (h':C4 bs B' q'):C4 bs (B++B') (q++q'):=by
 intro k b hb;rcases QD.1 hb with hb | hb
 . exact h.mono (λp hp=>QD.2 (.inl hp)) k b hb
 . exact h'.mono (λp hp=>QD.2 (.inr hp)) k b hb
theorem Abw {bs:List (Nat × B3)} {k:Nat} {c:CK} {v:SV} {x:c.den} {q:List (Nat × Nat)} (h:A6w bs k c v=some (x,q)) :
  C4 bs (c.bx k x) q/\(∀ (L L' σ:Nat->Nat),(∀ p ∈ q,σ p.1=p.2/\L p.2=L' p.1)->v.c L=((c.sv k x).c L').ren σ) /\ ∀ L',((c.sv k x).c L').okH (λk=>q.any λp=>Nat.beq p.1 k)=true:=by
 unfold A6w at h;split at h
 . rename_i t
   cases ht:t.one with
   | false=>rw [ht] at h;cases h
   | true =>
    rw [ht] at h;simp only [cond,QE,QI] at h;obtain ⟨y,hy,rfl,rfl⟩:=h;obtain rfl:=Po hy
    exact ⟨(λk b hb=>by cases hb),λ_ _ _ _=>rfl,λ_=>rfl⟩
 . rename_i e t hh;split at h
   . rename_i e' sh xs hl
     cases he:Nat.beq e e' with
     | false=>rw [he] at h;cases h
     | true =>
      rw [he] at h;simp only [cond,QE,QI] at h;obtain ⟨y,hy,rfl,rfl⟩:=h;obtain ⟨rfl,rfl⟩:=Dp hy;obtain rfl:=QB he
      refine ⟨C4.plain (h:=hh) (by simp) hl rfl rfl (λ_ _=>rfl) (λ_=>rfl),λL L' σ hp=>?_,λL'=>?_⟩
      . obtain ⟨h1,h2⟩:=hp (k,hh) (by simp)
        simp only [CK.sv,SV.c,C.ren];simp only at h1 h2;rw [h1,h2]
      . simp [CK.sv,SV.c,C.okH]
   . cases h
 . cases h
theorem A6v {bs:List (Nat × B3)}:∀ {cs:List CK} {k:Nat} {vs:List SV} {x:DC cs} {q:List (Nat × Nat)},Gr bs k cs vs=some (x,q) ->
  C4 bs (H5 k cs x) q/\(∀ (L L' σ:Nat->Nat),(∀ p ∈ q,σ p.1=p.2/\L p.2=L' p.1)->vs.map (SV.c L)=((G5 k cs x).map (SV.c L')).map (C.ren σ)) /\ ∀ L',((G5 k cs x).map (SV.c L')).all (C.okH λk=>q.any λp=>Nat.beq p.1 k)=true
 | [],k,[],x,q,h=>by
  simp only [Gr,QC,QI] at h;obtain ⟨_,rfl⟩:=h
  exact ⟨(λk b hb=>by cases hb),λ_ _ _ _=>rfl,λ_=>rfl⟩
 | [],k,_::_,_,_,h=>by simp [Gr] at h
 | [c],k,[],_,_,h=>by simp [Gr] at h
 | [c],k,[v],x,q,h=>by
  obtain ⟨h1,h2,h3⟩:=Abw (x:=x) h;refine ⟨h1,λL L' σ hp=>?_,λL'=>?_⟩
  . simp only [G5,QS,XP,h2 L L' σ hp]
  . simp only [G5,QS,XP,XL,KT,h3 L',ZN]
 | [c],k,v::w::r,_,_,h=>by simp [Gr] at h
 | c::d::r,k,[],_,_,h=>by simp [Gr] at h
 | c::d::r,k,v::vs,x,q,h=>by
  simp only [Gr] at h;split at h
  . rename_i x1 q1 y1 q2 h1 h2;simp only [QC,QI] at h;obtain ⟨rfl,rfl⟩:=h;obtain ⟨a1,a2,a3⟩:=Abw h1;obtain ⟨b1,b2,b3⟩:=A6v h2;refine ⟨a1.app b1,λL L' σ hp=>?_,λL'=>?_⟩
    . simp only [G5,QS,a2 L L' σ (λp h=>hp p (QD.2 (.inl h))),b2 L L' σ (λp h=>hp p (QD.2 (.inr h)))]
    . simp only [G5,QS,XL,QF]
      have mono:∀ (q0:List (Nat × Nat)),(∀ p ∈ q0,p ∈ q1++q2)->∀ k,(q0.any λp=>Nat.beq p.1 k)=true->((q1++q2).any λp=>Nat.beq p.1 k)=true:=λq0 h0 k hk=>by
       obtain ⟨p,hp,hp2⟩:=ZI.1 hk;exact ZI.2 ⟨p,h0 p hp,hp2⟩
      exact ⟨C.okH_mono (mono q1 λp h=>QD.2 (.inl h)) (a3 L'),QH.2 λc hc=>C.okH_mono (mono q2 λp h=>QD.2 (.inr h)) (QH.1 (b3 L') c hc)⟩
  . cases h
theorem V6 {bs:List (Nat × B3)} {hd:Nat->Nat->Bool} {L:Nat->Nat} {k:Nat} {c:CK} {v:SV} {x:c.den} {q:List (Nat × Nat)} (h:Sj bs k c v=some (x,q))
  (hq:∀ p ∈ q,hd p.1 p.2=true) (hL:∀ k' b,(k',b) ∈ c.bx k x->L k'=b.len) :
  v.cellB=true/\(∃ ob,Pp hd (A2 · (Ak (B3.box (A6 bs)) bs)) (v.c (A6 bs)) ((c.sv k x).c L)=some (ob,[]) /\ ∀ p ∈ ob,p)/\(c.sv k x).cellB=true/\C4 bs (c.bx k x) q:=by
 unfold Sj at h;split at h
 . rename_i t
   cases ht:t.one with
   | false=>rw [ht] at h;cases h
   | true =>
    rw [ht] at h;simp only [cond,QE,QI] at h;obtain ⟨y,hy,rfl,rfl⟩:=h;obtain ⟨q1,ob,q2,q3⟩:=Sk (L:=A6 bs) ht hy
    refine ⟨Q1 q1,⟨ob,?_,q3⟩,ht,λk b hb=>by cases hb⟩
    have hc:=Apr (L:=A6 bs) q1;rw [hc] at q2 ⊢;simp only [CK.sv,SV.c,Pp,H6,V.noH,Ch,ZN,cond,A2e,q2,QU]
 . rename_i e t hh;split at h
   . rename_i e' sh xs hl
     cases he:Nat.beq e e' with
     | false=>rw [he] at h;cases h
     | true =>
      rw [he] at h;simp only [cond,QE,QI] at h;obtain ⟨y,hy,rfl,rfl⟩:=h;obtain ⟨rfl,rfl⟩:=Dp hy;obtain rfl:=QB he
      have hle:A6 bs hh=xs.length:=by simp [A6,hl,B3.len]
      have hk:L k=xs.length:=hL k (.arr e sh false xs) (by simp [CK.bx])
      refine ⟨rfl,⟨[0=0,A6 bs hh=L k],?_,by simp [hle,hk]⟩,rfl,λk' b hb=>?_⟩
      . simp only [CK.sv,SV.c,Pp,hq (k,hh) (by simp),cond]
      . exact C4.plain (k:=k) (h:=hh) (q:=[(k,hh)]) (by simp) hl rfl rfl (λ_ _=>rfl) (λ_=>rfl) k' b hb
   . cases h
 . rename_i e t hh;split at h
   . rename_i e' cs hl
     cases he:(Nat.beq e e'&&cs.all SV.isD) with
     | false=>rw [he] at h;cases h
     | true =>
      rw [he] at h;simp only [cond,QE,QI] at h;obtain ⟨y,hy,rfl,rfl⟩:=h;simp only [QF] at he;obtain rfl:=QB he.1;obtain ⟨a1,_,_,a4⟩:=Df hy
      refine ⟨rfl,⟨[0=0,0=0],?_,by simp⟩,rfl,λk' b hb=>?_⟩
      . simp only [CK.sv,SV.c,Pp,hq (k,hh) (by simp),cond]
      . refine C4.plain (k:=k) (h:=hh) (q:=[(k,hh)]) (b:=.var e true false (t.exp y)) (by simp) hl rfl (by simp only [B3.plain,ZX];exact (Il t y).2) (λL1 L2=>?_) (λ_=>rfl) k' b hb
        simp only [B3.box,a1,Mz,Aav,a4]
   . cases h
 . rename_i e t hh;split at h
   . rename_i e' sh xs hl
     cases he:Nat.beq e e' with
     | false=>rw [he] at h;cases h
     | true =>
      rw [he] at h;simp only [cond,QE,QI] at h;obtain ⟨y,hy,rfl,rfl⟩:=h;obtain ⟨rfl,rfl⟩:=Dp hy;obtain rfl:=QB he
      have hle:A6 bs hh=xs.length:=by simp [A6,hl,B3.len]
      have hk:L k=xs.length:=hL k (.tree e sh false xs) (by simp [CK.bx])
      refine ⟨rfl,⟨[0=0,A6 bs hh=L k],?_,by simp [hle,hk]⟩,rfl,λk' b hb=>?_⟩
      . simp only [CK.sv,SV.c,Pp,hq (k,hh) (by simp),cond]
      . exact C4.plain (k:=k) (h:=hh) (q:=[(k,hh)]) (by simp) hl rfl rfl (λ_ _=>rfl) (λ_=>rfl) k' b hb
   . cases h
 . rename_i e t hh off len;split at h
   . rename_i e' sh xs hl
     cases he:Nat.beq e e' with
     | false=>rw [he] at h;cases h
     | true =>
      rw [he] at h;simp only [cond,QE,QI] at h;obtain ⟨y,hy,rfl,rfl⟩:=h;obtain ⟨rfl,rfl⟩:=Dp hy;obtain rfl:=QB he
      refine ⟨rfl,⟨[off=off,len=len],?_,by simp⟩,rfl,λk' b hb=>?_⟩
      . simp only [CK.sv,SV.c,Pp,hq (k,hh) (by simp),cond]
      . exact C4.plain (k:=k) (h:=hh) (q:=[(k,hh)]) (by simp) hl rfl rfl (λ_ _=>rfl) (λ_=>rfl) k' b hb
   . cases h
 . cases h
theorem A23 {bs:List (Nat × B3)} {hd:Nat->Nat->Bool} {L:Nat->Nat}:∀ {cs:List CK} {k:Nat} {vs:List SV} {x:DC cs} {q:List (Nat × Nat)},Gf bs k cs vs=some (x,q) ->
  (∀ p ∈ q,hd p.1 p.2=true)->(∀ k' b,(k',b) ∈ H5 k cs x->L k'=b.len) ->
  (∃ ob,N5 hd (A2 · (Ak (B3.box (A6 bs)) bs)) (vs.map (SV.c (A6 bs))) ((G5 k cs x).map (SV.c L))=some (ob,[]) /\ ∀ p ∈ ob,p)/\C4 bs (H5 k cs x) q
 | [],k,[],x,q,h,_,_=>⟨⟨[],rfl,by simp⟩,λk b hb=>by cases hb⟩
 | [],k,_::_,_,_,h,_,_=>by simp [Gf] at h
 | [c],k,[],_,_,h,_,_=>by simp [Gf] at h
 | [c],k,[v],x,q,h,hq,hL=>by
  obtain ⟨_,⟨ob,h1,h2⟩,_,h3⟩:=V6 (hd:=hd) (L:=L) (x:=x) h hq hL
  refine ⟨⟨ob++[],?_,by simpa using h2⟩,h3⟩
  simp only [G5,QS,XP,N5,h1,XN]
 | [c],k,v::w::r,_,_,h,_,_=>by simp [Gf] at h
 | c::d::r,k,[],_,_,h,_,_=>by simp [Gf] at h
 | c::d::r,k,v::vs,x,q,h,hq,hL=>by
  simp only [Gf] at h;split at h
  . rename_i x1 q1 y1 q2 h1 h2;simp only [QC,QI] at h;obtain ⟨rfl,rfl⟩:=h
    obtain ⟨_,⟨ob,a1,a2⟩,_,a3⟩:=V6 (hd:=hd) (L:=L) h1 (λp hp=>hq p (QD.2 (.inl hp))) (λk' b hb=>hL k' b (by simp only [H5];exact QD.2 (.inl hb)))
    obtain ⟨⟨ob',b1,b2⟩,b3⟩:=A23 (hd:=hd) (L:=L) h2 (λp hp=>hq p (QD.2 (.inr hp))) (λk' b hb=>hL k' b (by simp only [H5];exact QD.2 (.inr hb)))
    refine ⟨⟨ob++ob',?_,λp hp=>(QD.1 hp).elim (a2 p) (b2 p)⟩,a3.app b3⟩;simp only [G5,QS,N5,a1,b1,XN]
  . cases h
theorem Aou {bs:List (Nat × B3)} {hd:Nat->Nat->Bool} {L:Nat->Nat} {k:Nat} {p:PK} {v:SV} {g:Bool} {x:p.den} {bor:List Nat} {q:List (Nat × Nat)} (h:A5v bs k p v=some (g,x,bor,q)) (hg:g=true)
  (hq:∀ p ∈ q,hd p.1 p.2=true) (hL:∀ k' b,(k',b) ∈ p.bx k x->L k'=b.len) :
  (∃ ob,Zc hd (A2 · (Ak (B3.box (A6 bs)) bs)) p.isIm (v.s (A6 bs)) ((p.sv k x).v L)=some (ob,bor) /\ ∀ p ∈ ob,p)/\(∀ k ∈ bor,∃ b,A2 k (Ak (B3.box (A6 bs)) bs)=some b/\b.fz=false)/\C4 bs (p.bx k x) q/\v.alive=true:=by
 cases p with
 | im t =>
  simp only [A5v,QE,QI] at h;obtain ⟨⟨g',y,b⟩,h1,rfl,rfl,rfl,rfl⟩:=h;obtain ⟨ob,a1,a2,a3⟩:=Ab4 h1 hg
  refine ⟨⟨ob,?_,a2⟩,a3,(λk b hb=>by cases hb),Vd h1⟩
  simp only [Zc,PK.isIm,cond,PK.sv,(Ir t y).1];exact a1
 | one c =>
  simp only [A5v,QE,QI] at h;obtain ⟨⟨y,b⟩,h1,rfl,rfl,rfl,rfl⟩:=h;obtain ⟨c1,⟨ob,a1,a2⟩,c2,a3⟩:=V6 (hd:=hd) (L:=L) h1 hq hL
  refine ⟨⟨ob,?_,a2⟩,by simp,a3,Bc λe=>by subst e;cases c1⟩
  simp only [Zc,PK.isIm,cond,PK.sv,(Fv c1).1,(Fv c2).2];exact a1
 | mix cs =>
  cases v with
  | agg vs =>
   simp only [A5v] at h;simp only [QE,QI] at h;obtain ⟨⟨y,b⟩,h1,rfl,rfl,rfl,rfl⟩:=h;obtain ⟨⟨ob,a1,a2⟩,a3⟩:=A23 (hd:=hd) (L:=L) h1 hq hL
   refine ⟨⟨ob,?_,a2⟩,by simp,a3,rfl⟩
   simp only [Zc,PK.isIm,cond,PK.sv,SV.s,SV.v];exact a1
  | _=>cases h
 | pst e gs =>
  simp only [A5v,QE,QI] at h;obtain ⟨⟨y,b⟩,h1,rfl,rfl,rfl,rfl⟩:=h;unfold Ath at h1;split at h1
  . rename_i h0;split at h1
    . rename_i e' cs hl
      cases he:Nat.beq e e' with
      | false=>rw [he] at h1;cases h1
      | true =>
       rw [he] at h1;simp only [cond,QE,QI] at h1;obtain ⟨⟨z,qq⟩,h1,rfl,rfl⟩:=h1;obtain rfl:=QB he;obtain ⟨b1,b2,b3⟩:=A6v h1
       refine ⟨⟨[0=0,0=0],?_,by simp⟩,by simp,?_,rfl⟩
       . simp only [Zc,PK.isIm,cond,PK.sv,SV.s,SV.v,SV.c,Pp,hq (k,h0) (by simp)]
       . intro k' b hb;rcases QV.1 (show (k',b) ∈ (k,B3.var e false false (G5 (k+1) gs z))::H5 (k+1) gs z from hb) with hb | hb
         . obtain ⟨rfl,rfl⟩:=KD hb
           refine ⟨h0,_,by simp,hl,rfl,λL L' σ hp=>?_,λL=>⟨rfl,?_⟩⟩
           . have e1:=b2 L L' σ λp hp'=>hp p (ZE _ hp');have e2:=XC List.length e1;simp only [ZG] at e2;simp only [B3.box,Box.ren,QS,XP,e1,e2]
           . simp only [B3.box,Box.okH,XL,KT,XT];refine QH.2 λc hc=>C.okH_mono (λj hj=>?_) (QH.1 (b3 L) c hc);obtain ⟨p,hp,hp2⟩:=ZI.1 hj;exact ZI.2 ⟨p,ZE _ hp,hp2⟩
         . exact b1.mono (λp hp=>ZE _ hp) k' b hb
    . cases h1
  . cases h1
theorem Ajy {bs:List (Nat × B3)} {hd:Nat->Nat->Bool} {L:Nat->Nat}:∀ {ps:List PK} {k:Nat} {vs:List SV} {g:Bool} {x:HP ps} {bor:List Nat} {q:List (Nat × Nat)},N4 bs k ps vs=some (g,x,bor,q)->g=true ->
  (∀ p ∈ q,hd p.1 p.2=true)->(∀ k' b,(k',b) ∈ Cv k ps x->L k'=b.len) ->
  (∃ ob,Hx hd (A2 · (Ak (B3.box (A6 bs)) bs)) (ps.map PK.isIm) (vs.map (SV.s (A6 bs))) ((C0 k ps x).map (SV.v L))=some (ob,bor) /\ ∀ p ∈ ob,p)/\(∀ k ∈ bor,∃ b,A2 k (Ak (B3.box (A6 bs)) bs)=some b/\b.fz=false)/\C4 bs (Cv k ps x) q /\ ∀ v ∈ vs,v.alive=true
 | [],k,[],g,x,bor,q,h,_,_,_=>by
  simp only [N4,QC,QI] at h;obtain ⟨_,_,rfl,rfl⟩:=h
  exact ⟨⟨[],rfl,by simp⟩,by simp,(λk b hb=>by cases hb),by simp⟩
 | [],k,_::_,_,_,_,_,h,_,_,_=>by simp [N4] at h
 | [p],k,[],_,_,_,_,h,_,_,_=>by simp [N4] at h
 | [p],k,[v],g,x,bor,q,h,hg,hq,hL=>by
  obtain ⟨⟨ob,h1,h2⟩,h3,h4,h5⟩:=Aou (hd:=hd) (L:=L) (x:=x) h hg hq hL
  refine ⟨⟨ob++[],?_,by simpa using h2⟩,h3,h4,by simpa using h5⟩
  simp only [C0,QS,XP,Hx,h1,XN]
 | [p],k,v::w::r,_,_,_,_,h,_,_,_=>by simp [N4] at h
 | p::p2::r,k,[],_,_,_,_,h,_,_,_=>by simp [N4] at h
 | p::p2::r,k,v::vs,g,x,bor,q,h,hg,hq,hL=>by
  simp only [N4] at h;split at h
  . rename_i g1 x1 l1 q1 g2 y1 l2 q2 h1 h2;simp only [QC,QI] at h;obtain ⟨rfl,rfl,rfl,rfl⟩:=h;simp only [QF] at hg
    obtain ⟨⟨ob,a1,a2⟩,a3,a4,a5⟩:=Aou (hd:=hd) (L:=L) h1 hg.1 (λp hp=>hq p (QD.2 (.inl hp))) (λk' b hb=>hL k' b (by simp only [Cv];exact QD.2 (.inl hb)))
    obtain ⟨⟨ob',b1,b2⟩,b3,b4,b5⟩:=Ajy (hd:=hd) (L:=L) h2 hg.2 (λp hp=>hq p (QD.2 (.inr hp))) (λk' b hb=>hL k' b (by simp only [Cv];exact QD.2 (.inr hb)))
    refine ⟨⟨ob++ob',?_,λp hp=>(QD.1 hp).elim (a2 p) (b2 p)⟩,λj hj=>(QD.1 hj).elim (a3 j) (b3 j),a4.app b4,by simpa using ⟨a5,b5⟩⟩
    simp only [QS] at b1;simp only [C0,QS,Hx,a1,b1]
  . cases h
end Go.Ev

/- DERIVED. A state that a template takes may be read as the template's. -/
namespace Go.Ev
open Go
variable {P:Program} {T:Ty}
def H7 (x x':S):Prop:=∀ (w:World) (E:Env) (v:Value),Rs w E v x->Rs w E v x'
def Fc (c c':C):Prop:=∀ (w:World) (E:Env) (v:Value),Rc w E v c->Rc w E v c'
structure Asq (b b':Box):Prop where
 e:b'.e=b.e
 sz:b'.sz=b.sz
 fz:b'.fz=b.fz
 tr:b'.tr=b.tr
 trr:b'.tr=true->b'.rows=b.rows
 len:b'.rows.length=b.rows.length
 rows:∀ (i:Nat) (r':List C),b'.rows[i]? = some r'->∃ r,b.rows[i]? = some r/\r'.length=r.length /\ ∀ (j:Nat) (c':C),r'[j]? = some c'->∃ c,r[j]? = some c/\Fc c c'
 hf:b'.hf=true->∀ (i:Nat) (r:List C) (j:Nat) (c:C),b'.rows[i]? = some r->r[j]? = some c->∃ x,c = .i x
theorem Bh.sub {w:World} {E:Env} {b b':Box} {g cap:Nat} (h:Bh w E b g cap) (hb:Asq b b'):Bh w E b' g cap:=by
 obtain ⟨arr,a1,a2,a3,a4,a5,a6,a7,a8,a9⟩:=h
 refine ⟨arr,by rw [hb.e];exact a1,by rw [hb.sz];exact a2,by rw [hb.len];exact a3,a4,λi r hi=>?_,λi r j c hi hj=>?_,λhf i r j c hi hj=>hb.hf hf i r j c hi hj,λhf=>a8 (by rw [<- hb.fz];exact hf),a9⟩
 . obtain ⟨r0,h1,h2,_⟩:=hb.rows i r hi;rw [h2,hb.sz];exact a5 i r0 h1
 . obtain ⟨r0,h1,_,h3⟩:=hb.rows i r hi;obtain ⟨c0,h4,h5⟩:=h3 j c hj;obtain ⟨v,h6,h7⟩:=a6 i r0 j c0 h1 h4
   exact ⟨v,by rw [hb.sz];exact h6,h5 _ _ _ h7⟩
theorem A7.sub {Γ:Ctx} {w:World} {E:Env} {s s':St} {tmps:Array Value} (hs:A7 Γ w E s tmps) (hnt:s'.nt=s.nt)
  (h1:∀ t x',A2 t s'.slots=some x'->∃ x,A2 t s.slots=some x/\H7 x x')
  (h2:∀ h b',A2 h s'.boxes=some b'->∃ b,A2 h s.boxes=some b/\Asq b b')
  (h3:∀ h b,A2 h s.boxes=some b->(A2 h s'.boxes).isSome=true):A7 Γ w E s' tmps where
 fr:=hs.fr
 held:=hs.held
 tow:=hs.tow
 wf:=by rw [hnt];exact hs.wf
 old:=hs.old
 nt:=by rw [hnt];exact hs.nt
 tag:=hs.tag
 new:=hs.new
 boxes:=λh b' hb'=>by
  obtain ⟨b,hb,hsub⟩:=h2 h b' hb';obtain ⟨g,cap,hβ,hat,hω,hS⟩:=hs.boxes h b hb
  refine ⟨g,cap,by rw [hsub.sz];exact hβ,by rw [hsub.tr];exact hat.sub hsub,hω,λe=>?_⟩
  have h5:=hS (by rw [<- hsub.tr];exact e)
  unfold Lw at h5 ⊢;rw [hsub.trr e,hsub.sz];exact h5
 inj:=λh h' b b' g g' z z' hb hb' hz hz' hne=>by
  obtain ⟨b0,hb0,_⟩:=h2 h b hb;obtain ⟨b1,hb1,_⟩:=h2 h' b' hb';exact hs.inj h h' b0 b1 g g' z z' hb0 hb1 hz hz' hne
 own:=λh b' g z hb' hz=>by
  obtain ⟨b,hb,hsub⟩:=h2 h b' hb';rw [hsub.fz];exact hs.own h b g z hb hz
 slots:=λt x' hx'=>by
  obtain ⟨x,hx,hsub⟩:=h1 t x' hx';exact hsub _ _ _ (hs.slots t x hx)
 tsize:=hs.tsize
 dom:=λh x hx=>by
  obtain ⟨b,hb⟩:=QX.1 (hs.dom h x hx);exact h3 h b hb
 stay:=hs.stay
 fzn:=λh b' g z hb' hz hf=>by
  obtain ⟨b,hb,hsub⟩:=h2 h b' hb'
  exact hs.fzn h b g z hb hz (by rw [<- hsub.fz];exact hf)
theorem Fc.refl (c:C):Fc c c:=λ_ _ _ h=>h
theorem H7.refl (x:S):H7 x x:=λ_ _ _ h=>h
theorem H7.dead (x:S):H7 x .dead:=λ_ _ _ _=>.dead
theorem Af0 {c c':C} (h:∃ ob,Sr c c'=some ob /\ ∀ p ∈ ob,p):Fc c c':=by
 obtain ⟨ob,h1,h2⟩:=h;exact λw E v hv=>Mi hv h1 h2
def Ak6 (cs cs':List C):Prop:=cs'.length=cs.length /\ ∀ (j:Nat) (c':C),cs'[j]? = some c'->∃ c,cs[j]? = some c/\Fc c c'
theorem Abe:∀ (cs cs':List C) (ob:List Prop),El cs cs'=some ob->(∀ p ∈ ob,p)->Ak6 cs cs'
 | [],[],_,_,_=>⟨rfl,λj c hj=>by simp at hj⟩
 | [],_::_,_,h,_=>by simp [El] at h
 | _::_,[],_,h,_=>by simp [El] at h
 | c::cs,c'::cs',ob,h,ho=>by
  simp only [El] at h;split at h
  . rename_i p q h1 h2;obtain rfl:=QA h;obtain ⟨i1,i2⟩:=Abe cs cs' q h2 (λx hx=>ho x (QD.2 (.inr hx)))
    refine ⟨by simp [i1],λj d hj=>?_⟩
    cases j with
    | zero =>
     simp at hj;subst hj;exact ⟨c,rfl,Af0 ⟨p,h1,λx hx=>ho x (QD.2 (.inl hx))⟩⟩
    | succ j=>exact i2 j d (by simpa using hj)
  . cases h
theorem G2.subL {L:Nat->Nat} {cs:List SV} {ds:List I} (h:G2 L cs ds):Ak6 (cs.map (SV.c L)) (ds.map .i):=by
 obtain ⟨ob,h1,h2⟩:=h;exact Abe _ _ _ h1 h2
theorem Ak6.agg {cs cs':List C} (h:Ak6 cs cs'):H7 (.v (.agg cs)) (.v (.agg cs')):=by
 intro w E v hv
 cases hv with
 | v hv =>
  cases hv with
  | agg hv =>
   refine .v (.agg ⟨by rw [h.1];exact hv.1,λj v c hv' hc=>?_⟩)
   obtain ⟨c0,h1,h2⟩:=h.2 j c hc;exact h2 _ _ _ (hv.2 j v c0 hv' h1)
theorem Fc.one {c c':C} (h:Fc c c'):H7 (.v (.one c)) (.v (.one c')):=by
 intro w E v hv
 cases hv with
 | v hv=>cases hv with | one hv=>exact .v (.one (h _ _ _ hv))
theorem Aoq {L:Nat->Nat} {t:TS} {v:SV} {x:t.den} (h:t.dec v=some x):H7 (v.s L) ((t.enc x).s L)/\(v.cellB=true->(t.enc x).cellB=true->Fc (v.c L) ((t.enc x).c L)):=by
 cases t with
 | d t =>
  simp only [TS.dec] at h;split at h
  . rename_i cs;split at h
    . rename_i t0
      cases hd:cs.all SV.isD with
      | false=>rw [hd] at h;cases h
      | true =>
       rw [hd] at h;simp only [cond] at h;obtain ⟨_,_,h3,_⟩:=Df h
       have e:(SV.rf cs).c L=(SV.d (.ref t0) x).c L:=by
        simp only [SV.c,h3 hd,Sh.cells,hd1]
       have hc:Fc ((SV.rf cs).c L) ((TS.enc (.d (.ref t0)) x).c L):=by
        show Fc _ ((SV.d (.ref t0) x).c L);rw [<- e];exact Fc.refl _
       exact ⟨hc.one,λ_ _=>hc⟩
    . cases h
  . rename_i hnr
    cases ht:t.one with
    | false=>rw [ht] at h;cases h
    | true =>
     rw [ht] at h;obtain ⟨q1,q2⟩:=Sk (L:=L) ht h;have hc:Fc (v.c L) ((TS.enc (.d t) x).c L):=Af0 q2
     have e:v.s L = .v (.one (v.c L)):=by cases v <;> first | rfl | cases q1
     refine ⟨?_,λ_ _=>hc⟩;rw [e];exact hc.one
 | ag t =>
  simp only [TS.dec] at h;split at h
  . rename_i cs;obtain ⟨h1,h2⟩:=A5z (L:=L) h
    refine ⟨?_,λhc=>by cases hc⟩
    show H7 (.v (.agg (cs.map (SV.c L)))) (.v (.agg ((t.exp x).map (SV.c L))));rw [Mz];exact h1.subL.agg
  . cases h
 | k c =>
  simp only [TS.dec] at h
  cases hs:c.same v with
  | false=>rw [hs] at h;cases h
  | true =>
   show H7 (v.s L) (c.s L)/\(v.cellB=true->c.cellB=true->Fc (v.c L) (c.c L));unfold SV.same at hs;split at hs
   . obtain rfl:=QB hs;exact ⟨H7.refl _,λ_ _=>Fc.refl _⟩
   . simp only [QF] at hs;obtain rfl:=QB hs.1.1;obtain rfl:=QB hs.1.2;obtain rfl:=QB hs.2;exact ⟨H7.refl _,λ_ _=>Fc.refl _⟩
   . exact ⟨H7.dead _,λ_ h=>by cases h⟩
   . rename_i t x' t' y;simp only [QF] at hs;obtain rfl:=Sh.eqb_eq hs.2
     have:SV.d t x'=SV.d t y:=by
      split at hs
      . rfl
      . rfl
      . exact absurd hs.1 (by simp)
     rw [this];exact ⟨H7.refl _,λ_ _=>Fc.refl _⟩
   . cases hs
 | hs h' =>
  simp only [TS.dec] at h;split at h
  . rename_i k o l
    cases hk:Nat.beq h' k with
    | false=>rw [hk] at h;cases h
    | true =>
     rw [hk] at h;obtain rfl:=QB hk;simp only [cond,QC] at h;subst h;exact ⟨H7.refl _,λ_ _=>Fc.refl _⟩
  . cases h
theorem Ajk:∀ {l:List (Nat × TS)} {sl:List (Nat × SV)} {x:DK TS TS.den l},Aay l sl=some x->∀ (L:Nat->Nat) (k:Nat) (y:S),A2 k (Ak (SV.s L) (Ajc l x))=some y->∃ z,A2 k (Ak (SV.s L) sl)=some z/\H7 z y
 | [],[],_,_,_,k,y,h=>by simp [Ajc,Ak,A2] at h
 | [],_::_,_,h,_,_,_,_=>by simp [Aay] at h
 | _::_,[],_,h,_,_,_,_=>by simp [Aay] at h
 | (k,t)::r,(j,v)::vs,x,h,L,i,y,hy=>by
  simp only [Aay] at h
  cases hk:Nat.beq k j with
  | false=>rw [hk] at h;cases h
  | true =>
   rw [hk] at h;obtain rfl:=QB hk;simp only [cond] at h;split at h
   . rename_i a as h1 h2;obtain rfl:=QA h;simp only [Ajc,Ak,QS,A2] at hy ⊢
     cases hb:Nat.beq k i with
     | true =>
      rw [hb] at hy;simp only [cond,QC] at hy;subst hy;exact ⟨_,rfl,(Aoq h1).1⟩
     | false =>
      rw [hb] at hy;exact Ajk h2 L i y hy
   . cases h
theorem Ajl {L:Nat->Nat}:∀ {l:List TS} {vs:List SV} {x:DL l},Aaz l vs=some x->vs.all SV.cellB=true->(Ja l x).all SV.cellB=true->Ak6 (vs.map (SV.c L)) ((Ja l x).map (SV.c L))
 | [],[],_,_,_,_=>⟨rfl,λj c h=>by simp [Ja] at h⟩
 | [],_::_,_,h,_,_=>by simp [Aaz] at h
 | _::_,[],_,h,_,_=>by simp [Aaz] at h
 | t::r,v::vs,x,h,hc,hc'=>by
  simp only [Aaz] at h;split at h
  . rename_i a as h1 h2;obtain rfl:=QA h;simp only [XL,QF,Ja] at hc hc';obtain ⟨i1,i2⟩:=Ajl (L:=L) h2 hc.2 hc'.2
    refine ⟨by simpa [Ja] using i1,λj c hj=>?_⟩
    cases j with
    | zero =>
     simp [Ja] at hj;subst hj;exact ⟨_,rfl,(Aoq h1).2 hc.1 hc'.1⟩
    | succ j=>exact i2 j c (by simpa [Ja] using hj)
  . cases h
theorem Asm {L:Nat->Nat} {t:TB} {b:B3} {x:t.den} (h:t.dec b=some x):Asq (b.box L) ((t.enc x).box L)/\(t.enc x).len=b.len:=by
 cases t with
 | tree e t fz =>
  simp only [TB.dec] at h;split at h
  . rename_i e' t' fz' xs
    cases hc:(Nat.beq e e'&&(fz==fz')) with
    | false=>rw [hc] at h;cases h
    | true =>
     rw [hc] at h;simp only [QF] at hc;obtain rfl:=QB hc.1;obtain rfl:=eq_of_beq hc.2;obtain ⟨rfl,rfl⟩:=Dp h;refine ⟨⟨rfl,rfl,rfl,rfl,λ_=>rfl,rfl,λi r hi=>⟨r,hi,rfl,λj c hj=>⟨c,hj,Fc.refl c⟩⟩,λ_ i r j c hi hj=>?_⟩,rfl⟩;simp only [TB.enc,B3.box,QN] at hi;obtain ⟨x,_,rfl⟩:=QE.1 hi;rw [QN] at hj;obtain ⟨y,_,rfl⟩:=QE.1 hj;exact ⟨y,rfl⟩
  . cases h
 | arr e t fz =>
  simp only [TB.dec] at h;split at h
  . rename_i e' t' fz' xs
    cases hc:(Nat.beq e e'&&(fz==fz')) with
    | false=>rw [hc] at h;cases h
    | true =>
     rw [hc] at h;simp only [QF] at hc;obtain rfl:=QB hc.1;obtain rfl:=eq_of_beq hc.2;obtain ⟨rfl,rfl⟩:=Dp h;refine ⟨⟨rfl,rfl,rfl,rfl,λ_=>rfl,rfl,λi r hi=>⟨r,hi,rfl,λj c hj=>⟨c,hj,Fc.refl c⟩⟩,λ_ i r j c hi hj=>?_⟩,rfl⟩;simp only [TB.enc,B3.box,QN] at hi;obtain ⟨y,_,rfl⟩:=QE.1 hi;rw [QN] at hj;obtain ⟨z,_,rfl⟩:=QE.1 hj;exact ⟨z,rfl⟩
  . rename_i e' fz' n cs
    cases hc:(Nat.beq e e'&&(fz==fz')) with
    | false=>rw [hc] at h;cases h
    | true =>
     rw [hc] at h;simp only [cond,QE] at h;obtain ⟨y,hy,rfl⟩:=h;simp only [QF] at hc;obtain rfl:=QB hc.1;obtain rfl:=eq_of_beq hc.2;obtain ⟨h1,h2⟩:=A5z (L:=L) hy;have hL:=h1.subL
     have hz:cs.length=t.size:=by have:=hL.1;simp [Sh.cells_len] at this;omega
     refine ⟨⟨rfl,by simp [TB.enc,B3.box,hz],rfl,rfl,λe=>(by cases e),by simp [TB.enc,B3.box],λi r hi=>?_,λ_ i r j c hi hj=>?_⟩,by simp [TB.enc,B3.len]⟩
     . simp only [TB.enc,B3.box,List.map_replicate,XK] at hi;split at hi
       . rename_i hlt;obtain rfl:=QA hi
         exact ⟨cs.map (SV.c L),by simp [B3.box,XK,hlt],hL.1,hL.2⟩
       . cases hi
     . simp only [TB.enc,B3.box,List.map_replicate,XK] at hi;split at hi
       . obtain rfl:=QA hi;rw [QN] at hj;obtain ⟨z,_,rfl⟩:=QE.1 hj;exact ⟨z,rfl⟩
       . cases hi
  . cases h
 | var e hf fz cs =>
  simp only [TB.dec] at h;split at h
  . rename_i e' hf' fz' vs
    cases hc:(Nat.beq e e'&&(hf==hf')&&(fz==fz')&&vs.all SV.cellB) with
    | false=>rw [hc] at h;cases h
    | true =>
     rw [hc] at h;simp only [cond] at h;simp only [QF] at hc;obtain rfl:=QB hc.1.1.1;obtain rfl:=eq_of_beq hc.1.1.2;obtain rfl:=eq_of_beq hc.1.2;split at h
     . rename_i y hy
       cases he:((Ja cs y).all SV.cellB&&(!hf || (Ja cs y).all SV.imm)) with
       | false=>rw [he] at h;cases h
       | true =>
        rw [he] at h;obtain rfl:=QA h;simp only [QF,XJ,XF] at he;have hL:=Ajl (L:=L) hy hc.2 he.1
        refine ⟨⟨rfl,by have:=hL.1;simpa [TB.enc,B3.box] using this,rfl,rfl,λe=>(by cases e),rfl,λi r hi=>?_,λhf' i r j c hi hj=>?_⟩,rfl⟩
        . cases i with
          | zero =>
           simp [TB.enc,B3.box] at hi;subst hi;exact ⟨vs.map (SV.c L),rfl,hL.1,hL.2⟩
          | succ i=>simp [TB.enc,B3.box] at hi
        . have hf'':hf=true:=hf'
          have hi':(Ja cs y).all SV.imm=true:=by
           rcases he.2 with h0 | h0
           . rw [hf''] at h0;cases h0
           . exact h0
          cases i with
          | zero =>
           simp [TB.enc,B3.box] at hi;subst hi;rw [QN] at hj;obtain ⟨z,hz,rfl⟩:=QE.1 hj;have:=Nb (L:=L) (QH.1 hi' z (ZO hz))
           cases hzc:z.c L with
           | i q=>exact ⟨q,rfl⟩
           | hs=>rw [hzc] at this;cases this
           | hp=>rw [hzc] at this;cases this
          | succ i=>simp [TB.enc,B3.box] at hi
     . cases h
  . cases h
theorem Ajm {L:Nat->Nat}:∀ {l:List (Nat × TB)} {bs:List (Nat × B3)} {x:DK TB TB.den l},Ab0 l bs=some x ->
  (∀ k b',A2 k (Ak (B3.box L) (Ux l x))=some b'->∃ b,A2 k (Ak (B3.box L) bs)=some b/\Asq b b')/\(∀ k b,A2 k (Ak (B3.box L) bs)=some b->(A2 k (Ak (B3.box L) (Ux l x))).isSome=true)/\A6 (Ux l x)=A6 bs
 | [],[],_,_=>⟨λk b h=>by simp [Ux,Ak,A2] at h,λk b h=>by simp [Ak,A2] at h,rfl⟩
 | [],_::_,_,h=>by simp [Ab0] at h
 | _::_,[],_,h=>by simp [Ab0] at h
 | (k,t)::r,(j,v)::vs,x,h=>by
  simp only [Ab0] at h
  cases hk:Nat.beq k j with
  | false=>rw [hk] at h;cases h
  | true =>
   rw [hk] at h;obtain rfl:=QB hk;simp only [cond] at h;split at h
   . rename_i a as h1 h2;obtain rfl:=QA h;obtain ⟨i1,i2,i3⟩:=Ajm (L:=L) h2;obtain ⟨b1,b2⟩:=Asm (L:=L) h1;refine ⟨λi b hb=>?_,λi b hb=>?_,?_⟩
     . simp only [Ux,Ak,QS,A2] at hb ⊢
       cases hc:Nat.beq k i with
       | true=>rw [hc] at hb;simp only [cond,QC] at hb;subst hb;exact ⟨_,rfl,b1⟩
       | false=>rw [hc] at hb;exact i1 i b hb
     . simp only [Ux,Ak,QS,A2] at hb ⊢
       cases hc:Nat.beq k i with
       | true=>rfl
       | false=>rw [hc] at hb;exact i2 i b hb
     . funext i;have e:=congrFun i3 i;simp only [A6,Ux,A2] at e ⊢
       cases hc:Nat.beq k i with
       | true=>exact b2
       | false=>exact e
   . cases h
theorem Xe {X:List (Nat × TS)}:∀ {sl:List (Nat × SV)} {k:Nat} {x:SV},A2 k (T7 X sl)=some x->A2 k sl=some x
 | [],k,x,h=>by cases h
 | (j,y)::r,k,x,h=>by
  simp only [T7,YR] at h
  have gone:(X.any λq=>Nat.beq q.1 j)=false->∀ q:List (Nat × SV),A2 j (q.filter λp=>X.any λz=>Nat.beq z.1 p.1)=none:=by
   intro hc q
   induction q with
   | nil=>rfl
   | cons p' r' ih' =>
    simp only [YR];split
    . rename_i hc';simp only [A2]
      cases hb':Nat.beq p'.1 j with
      | true=>have:=QB hb';rw [this,hc] at hc';cases hc'
      | false=>exact ih'
    . exact ih'
  simp only [A2]
  cases hb:Nat.beq j k with
  | true =>
   have:=QB hb;subst this
   cases hc:(X.any λq=>Nat.beq q.1 j) with
   | true =>
    rw [QJ hc] at h;simp only [A2,hb,cond] at h;exact h
   | false =>
    rw [QG (by rw [hc];exact Bool.false_ne_true),gone hc] at h
    cases h
  | false =>
   simp only [cond];split at h
   . simp only [A2,hb,cond] at h;exact Xe h
   . exact Xe h
theorem Ajj {α β:Type} (f:α->β) (h:Nat):∀ l:List (Nat × α),Jb h (Ak f l)=Ak f (Jb h l)
 | []=>rfl
 | (j,x)::r=>by
  have ih:=Ajj f h r
  show (bif Nat.beq j h then Jb h (Ak f r) else (j,f x)::Jb h (Ak f r))=Ak f (bif Nat.beq j h then Jb h r else (j,x)::Jb h r)
  cases Nat.beq j h with
  | true=>exact ih
  | false =>
   show (j,f x)::Jb h (Ak f r)=(j,f x)::Ak f (Jb h r);rw [ih]
theorem Aji {nt:Nat}:∀ (l:List Nat) {s s':St3},Aek l s=some s'->Ko l (s.st nt)=some (s'.st nt)
 | [],s,s',h=>by obtain rfl:=QA h;rfl
 | k::r,s,s',h=>by
  simp only [Aek] at h
  cases hc:(Nat.blt k 1000&&s.clean k) with
  | false=>rw [hc] at h;cases h
  | true =>
   rw [hc] at h;simp only [cond] at h;simp only [QF] at hc;have hcl:=hc.2;unfold St3.clean at hcl;simp only [QF,QH] at hcl;have ih:=Aji (nt:=nt) r h
   have hd:(s.st nt).delBox k=some (({ s with boxes:=Jb k s.boxes }:St3).st nt):=by
    unfold St.delBox
    have h1:(s.st nt).slots.all (λp=>!p.2.men k)=true:=by
     simp only [St3.st,Ak,YA,QH,Function.comp,Apl];exact hcl.1
    have h2:Pm k (s.st nt).boxes=true:=by
     simp only [Pm,St3.st,Ak,YA,QH,Function.comp,XJ,XF];intro p hp
     exact .inr (B8t (by simpa using hcl.2 p hp))
    rw [hc.1,h1,h2]
    have hL:∀ j,j ≠ k->A6 s.boxes j=A6 (Jb k s.boxes) j:=λj hj=>by
     unfold A6;rw [He hj]
    simp only [ZN,cond,QC,St3.st];congr 1
    . exact Mn λp hp=>A96 hL (by simpa using hcl.1 p hp)
    . rw [<- Ajj];congr 1
      exact Mn λp hp=>Z9 hL (by simpa using hcl.2 p hp)
   simp only [Ko,hd];exact ih
theorem Tm.dec1_ok {X:Tm} {s:St3} {x:X.den} (h:X.dec1 s=some x) {nt:Nat} {Γ:Ctx} {w:World} {E:Env} {tmps:Array Value} (hs:A7 Γ w E (s.st nt) tmps):∃ E',A7 Γ w E' ((X.enc x).st nt) tmps:=by
 unfold Tm.dec1 at h;split at h
 . rename_i s2 hd;split at h
   . rename_i a b h1 h2;obtain rfl:=QA h
     have hs1:A7 Γ w E (({ s with slots:=T7 X.slots s.slots }:St3).st nt) tmps:=hs.less λt y hy=>by
      simp only [St3.st,Aq] at hy ⊢;obtain ⟨z,hz,rfl⟩:=QE.1 hy;rw [Xe hz];rfl
     obtain ⟨E',hs2⟩:=Sf _ hs1 (Aji _ hd);obtain ⟨b1,b2,b3⟩:=Ajm (L:=A6 s2.boxes) h2;refine ⟨E',hs2.sub rfl (λt y hy=>?_) (λk b' hb=>?_) (λk b hb=>?_)⟩
     . simp only [Tm.enc,St3.st] at hy;rw [b3] at hy;exact Ajk h1 _ t y hy
     . simp only [Tm.enc,St3.st] at hb;rw [b3] at hb;exact b1 k b' hb
     . simp only [Tm.enc,St3.st];rw [b3];exact b2 k b hb
   . cases h
 . cases h
theorem Su {nt:Nat} {Γ:Ctx} {w:World} {tmps:Array Value}:∀ {l:List (Nat × Sh)} {s s':St3} {E:Env},Jv l s=some s'->A7 Γ w E (s.st nt) tmps->∃ E',A7 Γ w E' (s'.st nt) tmps
 | [],s,s',E,h,hs=>by
  simp only [Jv,QC] at h;subst h;exact ⟨E,hs⟩
 | (t,sh)::r,s,s',E,h,hs=>by
  have go:∀ {q},N8 s t sh=some q->(bif q.1 then Jv r q.2 else none)=some s'->∃ E',A7 Γ w E' (s'.st nt) tmps:=by
   rintro ⟨g,s1⟩ h1 h2
   cases g with
   | false=>cases h2
   | true =>
    obtain ⟨x',ob,q1,q2⟩:=Sw (nt:=nt) h1 rfl
    obtain ⟨E1,hs1⟩:=Dx [(t,x')] (s':=s1.st nt) (obs:=ob++[]) hs (by simp only [Es,q1]) (λp hp=>by simp only [XN] at hp;exact q2 p hp)
    exact Su (l:=r) h2 hs1
  simp only [Jv] at h;split at h
  . exact Su (l:=r) h hs
  . split at h
    . rename_i hq;exact go hq h
    . cases h
theorem Tm.dec_ok {X:Tm} {s:St3} {x:X.den} (h:X.dec s=some x) {nt:Nat} {Γ:Ctx} {w:World} {E:Env} {tmps:Array Value} (hs:A7 Γ w E (s.st nt) tmps):∃ E',A7 Γ w E' ((X.enc x).st nt) tmps:=by
 unfold Tm.dec at h;split at h
 . rename_i s1 h1;obtain ⟨E1,hs1⟩:=Su h1 hs;exact Tm.dec1_ok h hs1
 . cases h
end Go.Ev

/- DERIVED. A call that is handed boxes or hands out boxes, decided. -/
namespace Go.Ev
open Go
variable {P:Program} {T:Ty}
def SV.renC (σ:Nat->Nat):SV->SV
 | .hw h=>.hw (σ h)
 | .hs h o l=>.hs (σ h) o l
 | .hp h r c=>.hp (σ h) r c
 | x=>x
def SV.renV (σ:Nat->Nat):SV->SV
 | .agg cs=>.agg (cs.map (SV.renC σ))
 | x=>x.renC σ
def SV.ren3 (σ:Nat->Nat):SV->SV
 | .tup cs=>.tup (cs.map (SV.renV σ))
 | x=>x.renV σ
def SV.okC (p:Nat->Bool):SV->Bool
 | .hw h=>p h
 | .hs h _ _=>p h
 | .hp h _ _=>p h
 | _=>true
def SV.okV (p:Nat->Bool):SV->Bool
 | .agg cs=>cs.all (SV.okC p)
 | x=>x.okC p
def SV.ok3 (p:Nat->Bool):SV->Bool
 | .tup cs=>cs.all (SV.okV p)
 | x=>x.okV p
def SV.clC:SV->Bool
 | .d (.sl _) []=>true
 | .d t _=>t.closed
 | .rf _=>false
 | .dead=>false
 | _=>true
def SV.clV:SV->Bool
 | .agg cs=>cs.all SV.clC
 | x=>x.clC
def SV.cl3:SV->Bool
 | .tup cs=>cs.all SV.clV
 | x=>x.clV
def B3.cl:B3->Bool
 | .arr _ t _ _=>t.closed
 | .rep _ _ _ cs=>cs.all SV.clC
 | .var _ _ _ cs=>cs.all SV.clC
 | .tree _ t _ _=>t.flat
 | .hole _ _ _ _ _ _ _=>false
def B3.okB (p:Nat->Bool):B3->Bool
 | .arr _ _ _ _=>true
 | .var _ _ _ cs=>cs.all (SV.okC p)
 | .tree _ _ _ _=>true
 | _=>false
def B3.ren3 (σ:Nat->Nat):B3->B3
 | .var e hf fz cs=>.var e hf fz (cs.map (SV.renC σ))
 | b=>b
theorem B0c {σ:Nat->Nat} (b:B3):(b.ren3 σ).len=b.len:=by cases b <;> rfl
section
variable {L L':Nat->Nat} {σ:Nat->Nat} {p:Nat->Bool}
theorem Aff (hL:∀ k,p k=true->L (σ k)=L' k) {x:SV} (ho:x.okC p=true):(x.renC σ).c L=(x.c L').ren σ:=by
 cases x <;> first | rfl | skip;simp only [SV.renC,SV.c,C.ren];rw [hL _ ho]
theorem Afe (hL:∀ k,p k=true->L (σ k)=L' k) {x:SV} (ho:x.okV p=true):(x.renV σ).v L=(x.v L').ren σ:=by
 cases x with
 | agg cs =>
  simp only [SV.renV,SV.v,V.ren,ZY];congr 1;exact ZD λy hy=>Aff hL (QH.1 ho y hy)
 | hw h=>exact XC V.one (Aff (x:=.hw h) hL ho)
 | _=>rfl
theorem B9e (hL:∀ k,p k=true->L (σ k)=L' k) {x:SV} (ho:x.ok3 p=true):(x.ren3 σ).s L=(x.s L').ren σ:=by
 cases x with
 | tup cs =>
  simp only [SV.ren3,SV.s,S.ren,ZY];congr 1;exact ZD λy hy=>Afe hL (QH.1 ho y hy)
 | hw h=>exact XC S.v (Afe (x:=.hw h) hL ho)
 | agg cs=>exact XC S.v (Afe (x:=.agg cs) hL ho)
 | _=>rfl
theorem B3q {x:SV} (ho:x.okC p=true):(x.c L).okH p=true:=by cases x <;> first | rfl | exact ho
theorem B3p {x:SV} (ho:x.okV p=true):(x.v L).okH p=true:=by
 cases x with
 | agg cs =>
  simp only [SV.v,V.okH,YA,QH,Function.comp];exact λy hy=>B3q (QH.1 ho y hy)
 | hw h=>exact ho
 | hs h o l=>exact ho
 | hp h r c=>exact ho
 | _=>rfl
theorem Be6 {x:SV} (ho:x.ok3 p=true):(x.s L).okH p=true:=by
 cases x with
 | tup cs =>
  simp only [SV.s,S.okH,YA,QH,Function.comp];exact λy hy=>B3p (QH.1 ho y hy)
 | agg cs=>exact B3p (x:=.agg cs) ho
 | hw h=>exact ho
 | hs h o l=>exact ho
 | hp h r c=>exact ho
 | _=>rfl
theorem hd1_closed {l:List I} (h:∀ c ∈ l,IClosed c):IClosed (hd1 l):=by
 cases l with
 | nil=>exact .lit _
 | cons c r=>exact h c (by simp)
theorem L5 {x:SV} (h:x.clC=true):(x.c L).allI IClosed:=by
 cases x with
 | d t y =>
  cases t with
  | sl t =>
   cases y with
   | nil=>exact .nil _ _ _
   | cons a b=>exact hd1_closed (Pl (.sl t) (a::b) h)
  | _=>exact hd1_closed (Pl _ y h)
 | rf=>cases h
 | dead=>cases h
 | hw=>trivial
 | hs=>trivial
 | hp=>trivial
 | _=>exact .lit _
theorem V4 {x:SV} (h:x.clV=true):(x.v L).allI IClosed:=by
 cases x with
 | agg cs =>
  simp only [SV.v,V.allI,QN];intro j c hc;obtain ⟨y,hy,rfl⟩:=QE.1 hc;exact L5 (Dj h hy)
 | d t y=>exact L5 (L:=L) (x:=.d t y) h
 | rf cs=>exact L5 (L:=L) (x:=.rf cs) h
 | hw k=>exact L5 (L:=L) (x:=.hw k) h
 | hs k o l=>exact L5 (L:=L) (x:=.hs k o l) h
 | hp k o l=>exact L5 (L:=L) (x:=.hp k o l) h
 | tup cs=>exact L5 (L:=L) (x:=.tup cs) h
 | dead=>exact L5 (L:=L) (x:=.dead) h
theorem Bfd {x:SV} (h:x.cl3=true):(x.s L).allI IClosed:=by
 cases x with
 | tup cs =>
  simp only [SV.s,S.allI,QN];intro j c hc;obtain ⟨y,hy,rfl⟩:=QE.1 hc;exact V4 (Dj h hy)
 | dead=>trivial
 | d t y=>exact V4 (L:=L) (x:=.d t y) h
 | rf cs=>exact V4 (L:=L) (x:=.rf cs) h
 | hw k=>exact V4 (L:=L) (x:=.hw k) h
 | hs k o l=>exact V4 (L:=L) (x:=.hs k o l) h
 | hp k o l=>exact V4 (L:=L) (x:=.hp k o l) h
 | agg cs=>exact V4 (L:=L) (x:=.agg cs) h
theorem Bdl {b:B3} (h:b.cl=true):∀ (i:Nat) (q:List C) (j:Nat) (c:C),(b.box L).rows[i]? = some q->q[j]? = some c->c.allI λy=>IClosed y \/ ((b.box L).tr=true/\A15 y):=by
 intro i q j c hq hc
 cases b with
 | hole=>cases h
 | tree e t fz xs =>
  simp only [B3.box,QN] at hq;obtain ⟨y,hy,rfl⟩:=QE.1 hq;rw [QN] at hc;obtain ⟨z,hz,rfl⟩:=QE.1 hc;exact .inr ⟨rfl,Ba5 t y h z (ZO hz)⟩
 | arr e t fz xs =>
  simp only [B3.box,QN] at hq;obtain ⟨y,hy,rfl⟩:=QE.1 hq;rw [QN] at hc;obtain ⟨z,hz,rfl⟩:=QE.1 hc;exact .inl (Pl t y h z (ZO hz))
 | rep e fz n cs =>
  simp only [B3.box,XK] at hq;split at hq
  . obtain rfl:=QA hq;rw [QN] at hc;obtain ⟨z,hz,rfl⟩:=QE.1 hc;exact C.allI_mono (λ_ h=>.inl h) (L5 (Dj h hz))
  . cases hq
 | var e hf fz cs =>
  simp only [B3.box] at hq
  cases i with
  | zero =>
   obtain rfl:=QA hq;rw [QN] at hc;obtain ⟨z,hz,rfl⟩:=QE.1 hc;exact C.allI_mono (λ_ h=>.inl h) (L5 (Dj h hz))
  | succ i=>simp at hq
theorem Am5 {b:B3} (hL:∀ k,p k=true->L (σ k)=L' k) (h:b.okB p=true):(b.ren3 σ).box L=(b.box L').ren σ/\(b.box L').okH p=true:=by
 cases b with
 | hole=>cases h
 | rep=>cases h
 | tree e t fz xs=>exact ⟨(Wt (b:=.tree e t fz xs) (L:=L') rfl).symm,Wu (b:=.tree e t fz xs) rfl⟩
 | arr e t fz xs=>exact ⟨(Wt (b:=.arr e t fz xs) (L:=L') rfl).symm,Wu (b:=.arr e t fz xs) rfl⟩
 | var e hf fz cs =>
  have h:cs.all (SV.okC p)=true:=h;refine ⟨?_,?_⟩
  . simp only [B3.ren3,B3.box,Box.ren,ZG,QS,XP,ZY];congr 2;exact ZD λx hx=>Aff hL (QH.1 h x hx)
  . simp only [B3.box,Box.okH,XL,KT,XT,YA,QH,Function.comp];exact λx hx=>B3q (QH.1 h x hx)
theorem Wl {f:B3->B3}:∀ {B:List (Nat × B3)} {R:List (Nat × Nat)},Bk B R=true->Bk (Ak f B) R=true
 | [],[],_=>rfl
 | (k,_)::B,(k',_)::R,h=>by
  simp only [Bk,QF] at h;simp only [Ak,QS,Bk,QF];exact ⟨h.1,Wl h.2⟩
 | [],_::_,h=>by cases h
 | _::_,[],h=>by cases h
end
theorem V9 {L L':Nat->Nat} {x:SV} (hL:∀ k,x.menC k=true->L k=L' k):x.c L=x.c L':=by
 cases x <;> first | rfl | skip;rename_i k;simp only [SV.c]
 rw [hL k (by simp [SV.menC])]
theorem A2d {L L':Nat->Nat} {x:SV} (hL:∀ k,x.menV k=true->L k=L' k):x.v L=x.v L':=by
 cases x with
 | agg cs =>
  simp only [SV.v];congr 1;exact ZD λy hy=>V9 λk hk=>hL k (ZI.2 ⟨y,hy,hk⟩)
 | hw k=>exact XC V.one (V9 (x:=.hw k) hL)
 | _=>rfl
theorem B08 {L L':Nat->Nat} {x:SV} (hL:∀ k,x.men k=true->L k=L' k):x.s L=x.s L':=by
 cases x with
 | tup cs =>
  simp only [SV.s];congr 1;exact ZD λy hy=>A2d λk hk=>hL k (ZI.2 ⟨y,hy,hk⟩)
 | hw k=>exact XC S.v (A2d (x:=.hw k) hL)
 | agg cs=>exact XC S.v (A2d (x:=.agg cs) hL)
 | _=>rfl
theorem Asn {L L':Nat->Nat} {b:B3} (hL:∀ k,b.men k=true->L k=L' k):b.box L=b.box L':=by
 cases b with
 | hole e t fz xs row col k=>simp only [B3.box];rw [hL k (by simp [B3.men])]
 | tree=>rfl
 | arr=>rfl
 | rep e fz n cs =>
  simp only [B3.box];rw [ZD λy hy=>V9 λk hk=>hL k (ZI.2 ⟨y,hy,hk⟩)]
 | var e hf fz cs =>
  simp only [B3.box];rw [ZD λy hy=>V9 λk hk=>hL k (ZI.2 ⟨y,hy,hk⟩)]
def CK.backs:CK->List Nat
 | .back j=>[j]
 | _=>[]
def PK.backs:PK->List Nat
 | .im _=>[]
 | .one c=>c.backs
 | .mix cs=>cs.flatMap CK.backs
 | .pst _ _=>[]
def Ji (f0:Nat) (ts:List PK) (o:Oper) (s:St3):Option (Bool × HP ts × List Nat × List (Nat × Nat)) :=
 match o.op with
 | .call c=>match c.callee with
  | .value f=>match A0z (s.val f) with
   | some (fid,caps)=>bif Nat.beq fid f0 then N4 s.boxes 1000 ts (c.args.toList.map s.val++caps) else none
   | none=>none
  | _=>none
 | _=>none
def Zp (rs:List PK):List Nat:=(Am 0 rs).map (·.1)
def Ia (E:H8) (hb:Nat) (q:List (Nat × Nat)):List (Nat × Nat):=(Zp E.rs).map (λk=>(k,hb+k))++q
def Db (E:H8) (rn:List (Nat × Nat)):List Nat:=(E.rs.flatMap PK.backs).map (De rn)++E.mv.map (De rn)
def B3.hfB:B3->Bool
 | .arr _ _ _ _=>true
 | .rep _ _ _ _=>true
 | .var _ hf _ _=>hf
 | .tree _ _ _ _=>true
 | .hole _ _ _ _ _ _ _=>false
theorem hfB_box {L:Nat->Nat} {b:B3} (h:b.hfB=true):(b.box L).hf=true:=by cases b <;> first | rfl | exact h | cases h
def Aea (K:Ai) (E:H8) (hb:Nat) (q:List (Nat × Nat)) (s:St3):Bool :=
 E.mv.isEmpty || (s.boxes.all (λp=>p.2.hfB)&&q.all λp=>!E.mv.contains p.1 || (Nat.blt p.2 1000 || K.mv.contains p.2))
def Fz (B bs:List (Nat × B3)) (kill:List Nat):List (Nat × Nat)->Bool
 | []=>true
 | p::r=>bif kill.any (Nat.beq p.2) then Fz B bs kill r else Nat.beq (A6 B p.1) (A6 bs p.2)&&Fz B bs kill r
def Ab2 (E:H8) (hb:Nat) (s:St3) (x:HP E.ts) (bor:List Nat) (q:List (Nat × Nat)) (y:HR E.rs (Am 1000 E.ts)):Bool :=
 Eu (Ia E hb q)&&Bk (B1 E y) (Ia E hb q)&&Bk (Fx E x) q&&(Fx E x).all (λp=>Nat.ble 1000 p.1)&&(B1 E y).all (λp=>p.2.okB λk=>(A2 k (B1 E y)).isSome) &&
 (Zp E.rs).all (λk=>Nat.blt (hb+k) 1000&&(A2 (hb+k) s.boxes).isNone&&s.clean (hb+k))&&q.all (λp=>!bor.any (Nat.beq p.2)) &&
 (bor.isEmpty || ((Hf (C0 0 E.rs (Ml y))).cl3&&(B1 E y).all (λp=>p.2.cl)))&&(Hf (C0 0 E.rs (Ml y))).ok3 (λk=>(A2 k (B1 E y)).isSome) &&
 (Db E (Ia E hb q)).all (λh=>s.boxes.all (λp=>!p.2.men h))
def Jg (K:Ai) (E:H8) (hb:Nat) (s:St3) (x:HP E.ts) (bor:List Nat) (q:List (Nat × Nat)) (y:HR E.rs (Am 1000 E.ts)):Bool:=Ab2 E hb s x bor q y&&Aea K E hb q s
def Bb (E:H8) (hb:Nat) (s:St3) (q:List (Nat × Nat)) (y:HR E.rs (Am 1000 E.ts)):SV × St3 :=
 ((Hf (C0 0 E.rs (Ml y))).ren3 (De (Ia E hb q)),
  ⟨Ak (λx=>bif (Db E (Ia E hb q)).any (λh=>x.men h) then .dead else x) s.slots,Xf (Ak (B3.ren3 (De (Ia E hb q))) (B1 E y)) (Ia E hb q) s.boxes⟩)
theorem Xi:∀ {a b:List (Nat × Nat)},Eu (a++b)=true->Eu b=true
 | [],_,h=>h
 | (k,h')::r,b,h=>Xi (Kw h).2
theorem X9 {B bs:List (Nat × B3)} {kill:List Nat}:∀ {q:List (Nat × Nat)},Fz B bs kill q=true->∀ p ∈ q,kill.any (Nat.beq p.2)=true \/ A6 B p.1=A6 bs p.2
 | [],_,p,hp=>by cases hp
 | a::r,h,p,hp=>by
  simp only [Fz] at h
  cases hk:kill.any (Nat.beq a.2) with
  | true =>
   rw [hk] at h;rcases QV.1 hp with rfl | hp
   . exact .inl hk
   . exact X9 h p hp
  | false =>
   rw [hk] at h;simp only [cond,QF] at h;rcases QV.1 hp with rfl | hp
   . exact .inr (QB h.1)
   . exact X9 h.2 p hp
theorem C1 {β:Type} {k:Nat} {b:β} {l:List (Nat × β)} (h:A2 k l=some b):(k,b) ∈ l:=Cs h
theorem Adh {E:H8} {hb:Nat} {o:Oper} {s s':St3} {nt:Nat} {x:HP E.ts} {bor:List Nat} {q:List (Nat × Nat)} {y:HR E.rs (Am 1000 E.ts)} {K:Ai}
  (h:Ji E.f E.ts o s=some (true,x,bor,q)) (hc:Jg K E hb s x bor q y=true) (hg:Fz (B1 E y) s.boxes (Db E (Ia E hb q)) q=true) (hF:E.Den P nt x y)
  (hp:(Bb E hb s q y).2.put3 K o.dst (Bb E hb s q y).1=some s') :
  ∃ D obs,E6 P T K o D (s.st nt)=some (s'.st nt,obs) /\ ∀ p ∈ obs,p:=by
 obtain ⟨dst,op,type,pos,aft,guard⟩:=o;unfold Ji at h;simp only at h;split at h
 case h_2=>cases h
 rename_i c;split at h
 case h_2=>cases h
 rename_i f hf;split at h
 case h_2=>cases h
 rename_i fid caps hcal
 cases hcf:Nat.beq fid E.f with
 | false=>rw [hcf] at h;cases h
 | true =>
 rw [hcf] at h;simp only [cond] at h;obtain rfl:=QB hcf;generalize hrn:Ia E hb q=rn at *;unfold Jg at hc;rw [QF] at hc;obtain ⟨hc,cm⟩:=hc;unfold Ab2 at hc;rw [hrn] at hc;simp only [QF] at hc;obtain ⟨⟨⟨⟨⟨⟨⟨⟨⟨c1,c2⟩,c3⟩,c4⟩,c5⟩,c6⟩,c7⟩,c8⟩,c9⟩,c10⟩:=hc;have hrn':rn=(Zp E.rs).map (λk=>(k,hb+k))++q:=hrn.symm
 have c1q:Eu q=true:=Xi (by rw [<- hrn'];exact c1)
 have qrn:∀ p ∈ q,p ∈ rn:=λp hp=>by rw [hrn'];exact QD.2 (.inr hp)
 have fwdm:∀ k h,(k,h) ∈ rn->De rn k=h/\Jj rn h=some k/\A2 k rn=some h:=λk h hm=>by
  obtain ⟨e1,e2⟩:=F3 c1 hm
  exact ⟨by unfold De;rw [e1],e2,e1⟩
 have outS:∀ k,(A2 k (Bo (B1 E y))).isSome=(A2 k rn).isSome:=λk=>by
  unfold Bo;rw [Aq,KA,Cp c2 k]
 have inS:∀ k,(A2 k (Bo (Fx E x))).isSome=(A2 k q).isSome:=λk=>by
  unfold Bo;rw [Aq,KA,Cp c3 k]
 obtain ⟨⟨ob,a1,a2⟩,a3,a4,a5⟩:=Ajy (hd:=λk h=>q.any λp=>Nat.beq p.1 k&&Nat.beq p.2 h) (L:=A6 (Fx E x)) h rfl
  (λp hp=>ZI.2 ⟨p,hp,by simp⟩) (λk b hb=>by
   have:=X5 c3 c1q hb;simp only [A6]
   show (match A2 k (Fx E x) with | some b=>b.len | none=>0)=b.len
   rw [this])
 obtain ⟨cs,k1,k2⟩:=A8o (L:=A6 s.boxes) hcal
 have hfa:(s.val f).alive=true:=Bc λe=>by rw [e] at hcal;cases hcal
 have hfv:=Bt (nt:=nt) rfl hfa
 have hmap:c.args.toList.map (s.st nt).val++cs.map (λx=>S.v (V.one (C.i x)))=(c.args.toList.map s.val++caps).map (SV.s (A6 s.boxes)):=by
  rw [KM,k2,ZY];congr 1;exact ZD λz hz=>Bt rfl (a5 _ (QD.2 (.inl (ZK.2 ⟨z,hz,rfl⟩))))
 have blook:∀ h,A2 h (Bb E hb s q y).2.boxes=match Jj rn h with | some k=>(A2 k (B1 E y)).map (B3.ren3 (De rn)) | none=>A2 h s.boxes:=λh=>by
  have:=A1u (bs:=s.boxes) (Wl (f:=B3.ren3 (De rn)) c2) c1 h;simp only [Aq] at this;refine Eq.trans ?_ this;rw [<- hrn];rfl
 have lenk:∀ k h,(k,h) ∈ rn->A6 (Bb E hb s q y).2.boxes h=A6 (B1 E y) k:=λk h hm=>by
  unfold A6;rw [blook h,(fwdm k h hm).2.1]
  show (match (A2 k (B1 E y)).map (B3.ren3 (De rn)) with | some b=>b.len | none=>0)=(match A2 k (B1 E y) with | some b=>b.len | none=>0)
  cases A2 k (B1 E y) with
  | none=>rfl
  | some b=>exact B0c b
 have lenS:∀ h,s.clean h=true \/ (∀ k,Jj rn h=some k->(k,h) ∈ q/\(Db E rn).any (Nat.beq h)=false)->s.clean h=true \/ A6 (Bb E hb s q y).2.boxes h=A6 s.boxes h:=by
  intro h hh;rcases hh with hh | hh
  . exact .inl hh
  . cases hw:Jj rn h with
    | none =>
     right;unfold A6;rw [blook h,hw]
    | some k =>
     obtain ⟨h1,h2⟩:=hh k hw;right;rw [lenk k h (qrn _ h1)];rcases X9 hg _ h1 with h3 | h3
     . rw [h3] at h2;cases h2
     . exact h3
 have newC:∀ k h,(k,h) ∈ rn->(k,h) ∈ q \/ (h<1000/\A2 h s.boxes=none/\s.clean h=true):=λk h hm=>by
  rw [hrn'] at hm;rcases QD.1 hm with hm | hm
  . obtain ⟨k',hk',e⟩:=ZK.1 hm;obtain ⟨rfl,rfl⟩:=KD e;have:=QH.1 c6 k' hk';simp only [QF] at this
    exact .inr ⟨by simpa [ZZ] using this.1.1,by simpa using this.1.2,this.2⟩
  . exact .inl hm
 have lenM:∀ h,(Db E rn).any (Nat.beq h)=false->s.clean h=true \/ A6 (Bb E hb s q y).2.boxes h=A6 s.boxes h:=λh hk=>by
  cases hw:Jj rn h with
  | none=>exact lenS h (.inr λk e=>by rw [hw] at e;cases e)
  | some k =>
   rcases newC k h (A10 hw) with h1 | h1
   . exact lenS h (.inr λk' e=>by rw [hw] at e;obtain rfl:=QA e;exact ⟨h1,hk⟩)
   . exact .inl h1.2.2
 have cleanS:∀ {t:Nat} {z:SV} {h:Nat},A2 t s.slots=some z->s.clean h=true->z.men h=false:=λ{t z h} hz hcl=>by
  unfold St3.clean at hcl;simp only [QF,QH,XF] at hcl;exact hcl.1 _ (C1 hz)
 have Pm:∀ {t:Nat} {z:B3} {h:Nat},A2 t s.boxes=some z->s.clean h=true->z.men h=false:=λ{t z h} hz hcl=>by
  unfold St3.clean at hcl;simp only [QF,QH,XF] at hcl;exact hcl.2 _ (C1 hz)
 have renL:∀ k,(A2 k (B1 E y)).isSome=true->A6 (Bb E hb s q y).2.boxes (De rn k)=A6 (B1 E y) k:=λk hk=>by
  rw [Cp c2 k] at hk;obtain ⟨h',hh'⟩:=QX.1 hk;have hm':=Cs hh';rw [(fwdm k h' hm').1,lenk k h' hm']
 have inLen:∀ p ∈ q,A6 s.boxes p.2=A6 (Fx E x) p.1:=λp hp=>by
  have hS:(A2 p.1 (Fx E x)).isSome=true:=by rw [Cp c3 p.1,(F3 c1q (show (p.1,p.2) ∈ q from hp)).1];rfl
  obtain ⟨b,hb⟩:=QX.1 hS;obtain ⟨h',b',i1,i2,i3,_⟩:=a4 p.1 b (C1 hb);have e1:=(F3 c1q i1).1;rw [(F3 c1q (show (p.1,p.2) ∈ q from hp)).1] at e1;obtain rfl:=QA e1;unfold A6;rw [hb,i2];exact i3
 have hval:(Bb E hb s q y).1.s (A6 (Bb E hb s q y).2.boxes)=((Hf (C0 0 E.rs (Ml y))).s (A6 (B1 E y))).ren (De rn):=by
  have:(Bb E hb s q y).1=(Hf (C0 0 E.rs (Ml y))).ren3 (De rn):=by rw [<- hrn];rfl
  rw [this];refine B9e (p:=λk=>(A2 k (B1 E y)).isSome) (λk hk=>?_) c9;rw [Cp c2 k] at hk;obtain ⟨h',hh'⟩:=QX.1 hk;have hm':=Cs hh';rw [(fwdm k h' hm').1,lenk k h' hm']
 have hput:=Rd (nt:=nt) hp;rw [hval] at hput
 let cb:CallB:=⟨E.ts.map PK.isIm,(C0 1000 E.ts x).map (SV.v (A6 (Fx E x))),(Hf (C0 0 E.rs (Ml y))).s (A6 (B1 E y)),Bo (Fx E x),Bo (B1 E y),De rn,Jj rn,λk h=>q.any λp=>Nat.beq p.1 k&&Nat.beq p.2 h,(Bb E hb s q y).2.st nt,E.mv⟩
 have hok:cb.OK P K E.f (s.st nt) bor:=by
  refine ⟨hF,λk h hq=>?_,λk hk=>?_,λh k hk=>?_,λk b hb=>?_,λk b hb=>?_,?_,?_,a3,λh=>?_,λt z hz=>?_,λk hk hi=>?_,?_⟩
  . obtain ⟨p,hp1,hp2⟩:=ZI.1 hq;simp only [QF] at hp2;have e1:=QB hp2.1;have e2:=QB hp2.2
    have hm':(k,h) ∈ q:=by rw [<- e1,<- e2];exact hp1
    refine ⟨(fwdm k h (qrn _ hm')).1,?_⟩;show (A2 k (Bo (Fx E x))).isSome=true;rw [inS k,(F3 c1q hm').1];rfl
  . have hk:(A2 k (Bo (B1 E y))).isSome=true:=hk;rw [outS k] at hk;obtain ⟨h',hh'⟩:=QX.1 hk;obtain ⟨e1,e2,_⟩:=fwdm k h' (Cs hh');show Jj rn (De rn k)=some k;rw [e1,e2]
  . have hk:Jj rn h=some k:=hk;obtain ⟨e1,e2,e3⟩:=fwdm k h (A10 hk);refine ⟨e1,?_⟩;show (A2 k (Bo (B1 E y))).isSome=true;rw [outS k,e3];rfl
  . have hb:A2 k (Bo (Fx E x))=some b:=hb;unfold Bo at hb;rw [Aq] at hb;obtain ⟨b3,hb3,rfl⟩:=QE.1 hb;have hmem:=C1 hb3;obtain ⟨h',b',i1,i2,i3,i4,i5⟩:=a4 k b3 hmem;obtain ⟨e1,e2,e3⟩:=fwdm k h' (qrn _ i1);have hk:=QH.1 c4 _ hmem;have hnb:=QH.1 c7 _ i1
    refine ⟨by simpa using hk,?_,(i5 _).1,?_,?_,?_⟩
    . show A2 (De rn k) (Ak (B3.box (A6 s.boxes)) s.boxes)=_;rw [e1,Aq,i2];exact XC some (i4 _ _ _ λp hp=>⟨(fwdm p.1 p.2 (qrn _ hp)).1,inLen p hp⟩)
    . refine QH.2 λr hr=>QH.2 λc hc=>C.okH_mono (λk hk=>?_) (QH.1 (QH.1 (i5 (A6 (Fx E x))).2 r hr) c hc);show (A2 k (Bo (Fx E x))).isSome=true;rw [inS k];obtain ⟨p,hp,hp2⟩:=ZI.1 hk;obtain rfl:=QB hp2;rw [(F3 c1q (show (p.1,p.2) ∈ q from hp)).1];rfl
    . show De rn k ∉ bor;rw [e1];intro hmb
      have:(bor.any (Nat.beq h'))=true:=ZI.2 ⟨h',hmb,by simp⟩
      simp only [this,ZS] at hnb
      cases hnb
    . show (A2 k (Bo (B1 E y))).isSome=true;rw [outS k,e3];rfl
  . have hb:A2 k (Bo (B1 E y))=some b:=hb
    have hS:(A2 k (Bo (B1 E y))).isSome=true:=by rw [hb];rfl
    rw [outS k] at hS;obtain ⟨h',hh'⟩:=QX.1 hS;obtain ⟨e1,e2,e3⟩:=fwdm k h' (Cs hh');unfold Bo at hb;rw [Aq] at hb;obtain ⟨b3,hb3,rfl⟩:=QE.1 hb;have hok0:=(Am5 renL (QH.1 c5 _ (C1 hb3))).2;refine ⟨QH.2 λr hr=>QH.2 λc hc=>C.okH_mono (λk hk=>?_) (QH.1 (QH.1 hok0 r hr) c hc),λhn=>?_⟩
    . show (A2 k (Bo (B1 E y))).isSome=true;unfold Bo;rw [Aq,KA];exact hk
    have hn:A2 k (Bo (Fx E x))=none:=hn;rcases newC k h' (Cs hh') with h1 | ⟨h1,h2,_⟩
    . have:(A2 k (Bo (Fx E x))).isSome=true:=by rw [inS k,(F3 c1q h1).1];rfl
      rw [hn] at this;cases this
    . show A2 (De rn k) (Ak _ s.boxes)=none/\De rn k<1000;rw [e1,Aq,h2];exact ⟨rfl,h1⟩
  . simp only [XJ,YS,QF] at c8;rcases c8 with c8 | ⟨c8,c8'⟩
    . exact .inl c8
    . refine .inr ⟨Bfd c8,λk b hb=>?_⟩;have hb:A2 k (Bo (B1 E y))=some b:=hb;unfold Bo at hb;rw [Aq] at hb;obtain ⟨b3,hb3,rfl⟩:=QE.1 hb;exact Bdl (QH.1 c8' _ (C1 hb3))
  . have : (fun k => (A2 k (Bo (B1 E y))).isSome) = fun k => (A2 k (B1 E y)).isSome := by
     funext k;unfold Bo;rw [Aq,KA]
    show S.okH (λk=>(A2 k (Bo (B1 E y))).isSome) _=true;rw [this];exact Be6 c9
  . show A2 h (Ak (B3.box (A6 (Bb E hb s q y).2.boxes)) (Bb E hb s q y).2.boxes)=match Jj rn h with | some k=>(A2 k (Bo (B1 E y))).map (Box.ren (De rn)) | none=>A2 h (Ak (B3.box (A6 s.boxes)) s.boxes)
    rw [Aq,blook h]
    cases hw:Jj rn h with
    | some k =>
     simp only;unfold Bo;rw [Aq]
     cases hb:A2 k (B1 E y) with
     | none=>rfl
     | some b3=>exact XC some (Am5 renL (QH.1 c5 _ (C1 hb))).1
    | none =>
     simp only;rw [Aq]
     cases hb:A2 h s.boxes with
     | none=>rfl
     | some b3 =>
      refine XC some (Asn λk hk=>?_)
      cases hki:(Db E rn).any (Nat.beq k) with
      | true =>
       obtain ⟨k2,hk2,hk3⟩:=ZI.1 hki;obtain rfl:=QB hk3;have:=QH.1 (QH.1 c10 _ hk2) _ (C1 hb);simp only [hk,ZS] at this
       cases this
      | false =>
       rcases lenM k hki with h1 | h1
       . rw [Pm hb h1] at hk;cases hk
       . exact h1
  . have hz:A2 t (Ak (SV.s (A6 (Bb E hb s q y).2.boxes)) (Ak (λx=>bif (Db E (Ia E hb q)).any (λh=>x.men h) then .dead else x) s.slots))=some z:=hz
    rw [hrn,Aq,Aq,Option.map_map] at hz;obtain ⟨z0,hz0,rfl⟩:=QE.1 hz;simp only [Function.comp]
    cases hki:(Db E rn).any (λh=>z0.men h) with
    | true=>exact .inl rfl
    | false =>
     right;refine ⟨?_,λm hm=>?_⟩
     rotate_left
     . rw [Apl];obtain ⟨k,hk,rfl⟩:=ZK.1 hm;have:=YU.1 hki (De rn k) (QD.2 (.inr (ZK.2 ⟨k,hk,rfl⟩)));simpa using this
     show A2 t (Ak (SV.s (A6 s.boxes)) s.slots)=_;rw [Aq,hz0];refine XC some (B08 λk hk=>?_)
     cases hki':(Db E rn).any (Nat.beq k) with
     | true =>
      obtain ⟨k2,hk2,hk3⟩:=ZI.1 hki';obtain rfl:=QB hk3;have:=YU.1 hki _ hk2;rw [hk] at this;exact absurd rfl this
     | false =>
      rcases lenM k hki' with h1 | h1
      . rw [cleanS hz0 h1] at hk;cases hk
      . exact h1.symm
  . have hk:E.mv.contains k=true:=hk;have hi:(A2 k (Bo (Fx E x))).isSome=true:=hi;rw [inS k] at hi;obtain ⟨h',hh'⟩:=QX.1 hi;have hm':=Cs hh';unfold Aea at cm;rcases Qbn.1 cm with cm | cm
    . rw [YS.1 cm] at hk;cases hk
    . have:=QH.1 (Bool.and_eq_true_iff.1 cm).2 _ hm';simp only [hk,ZS,YP] at this;show De rn k<1000 \/ K.mv.contains (De rn k)=true;rw [(fwdm k h' (qrn _ hm')).1];rcases Qbn.1 this with h | h
      . exact .inl (by simpa [ZZ] using h)
      . exact .inr h
  . unfold Aea at cm;rcases Qbn.1 cm with cm | cm
    . exact .inl (YS.1 cm)
    . refine .inr λh b hb=>?_;have hb:A2 h (Ak (B3.box (A6 s.boxes)) s.boxes)=some b:=hb;rw [Aq] at hb;obtain ⟨b3,hb3,rfl⟩:=QE.1 hb;exact hfB_box (QH.1 (Bool.and_eq_true_iff.1 cm).1 _ (C1 hb3))
 refine ⟨{ callB:=some cb },cb.OK P K E.f (s.st nt) bor::ob,?_,λp hp=>?_⟩
 . have a1' : Hx cb.hd (s.st nt).box cb.ims (c.args.toList.map (s.st nt).val ++ cs.map fun x => S.v (V.one (C.i x))) cb.args = some (ob, bor) := by
    rw [hmap];exact a1
   simp only [E6,Ae1,hf,hfv,k1,a1'];have:cb.s'.putD K dst (cb.r.ren cb.σ)=some (s'.st nt):=hput;rw [this];rfl
 . rcases QV.1 hp with rfl | hp
   . exact hok
   . exact a2 p hp
def onB {α:Type} (K:Ai) (E:H8) (hb:Nat) (o:Oper) (s:St3) (x:HP E.ts) (bor:List Nat) (q:List (Nat × Nat)) (y:HR E.rs (Am 1000 E.ts)) (k:St3->Option α):Option α :=
 bif Jg K E hb s x bor q y then bif Fz (B1 E y) s.boxes (Db E (Ia E hb q)) q then (match (Bb E hb s q y).2.put3 K o.dst (Bb E hb s q y).1 with
  | some s'=>k s'
  | none=>none) else none else none
def R9 {α:Type} (K:Ai) (E:Ent3) (hb:Nat) (o:Oper) (s:St3) (k:St3->Option α):Option α :=
 match Ji E.f E.ts o s with
 | some (g,x,bor,q)=>bif g then (match E.m x with
  | some z=>Jh (Am 1000 E.ts) E.forms z λrs y=>onB K ⟨E.f,E.ts,rs,E.mv⟩ hb o s x bor q y k
  | none=>none) else none
 | none=>none
theorem Wg {α:Type} {K:Ai} {E:Ent3} {hb:Nat} {o:Oper} {s:St3} {nt:Nat} {k:St3->Option α} {r:α} (h:R9 K E hb o s k=some r) (hE:E.Sound P) :
  ∃ s' D obs,E6 P T K o D (s.st nt)=some (s'.st nt,obs)/\(∀ p ∈ obs,p)/\k s'=some r:=by
 unfold R9 at h;split at h
 . rename_i g x bor q hc
   cases g with
   | false=>cases h
   | true =>
    simp only [cond] at h;split at h
    . rename_i z hm;obtain ⟨rs,y,h1,h2⟩:=N2 h (hE nt x z hm);unfold onB at h1
      cases hck:Jg K ⟨E.f,E.ts,rs,E.mv⟩ hb s x bor q y with
      | false=>rw [hck] at h1;cases h1
      | true =>
       rw [hck] at h1;simp only [cond] at h1
       cases hl:Fz (B1 ⟨E.f,E.ts,rs,E.mv⟩ y) s.boxes (Db ⟨E.f,E.ts,rs,E.mv⟩ (Ia ⟨E.f,E.ts,rs,E.mv⟩ hb q)) q with
       | false=>rw [hl] at h1;cases h1
       | true =>
        rw [hl] at h1;simp only at h1;split at h1
        . rename_i s' hp;obtain ⟨D,obs,q1,q2⟩:=Adh (T:=T) (E:=⟨E.f,E.ts,rs,E.mv⟩) hc hck hl h2 hp;exact ⟨s',D,obs,q1,q2,h1⟩
        . cases h1
    . cases h
 . cases h
end Go.Ev

/- DERIVED. In place of EvTr EvTs EvTt EvTu EwTr EwTu, where no trees are wanted. -/
namespace Go.Ev
open Go
variable {P:Program} {T:Ty}
theorem Eh.weak {K:Ai} {o:Oper} {s s1 s2:St} (h:Eh P K o s s1) (hw:Ze s1 s2):Eh P K o s s2 :=
 λΓ w E a ro n X hK hX hx hs next Q hn=>h Γ w E a ro n X hK hX hx hs next Q λa' w' hx' ⟨E',hs'⟩=>hn a' w' hx' (hw Γ w' E' a'.tmps hs')
def A63 (_:Ty) (_:Oper) (_:St3):Option (Bool × St3):=none
theorem Adm (_:Ay P T) {K:Ai} {o:Oper} {s s':St3} {nt:Nat} {g:Bool} (h:A63 T o s=some (g,s')) (_:g=true):Eh P K o (s.st nt) (s'.st nt):=by cases h
def Aeu (_:Ty) (_:Ai) (_:Oper) (_:St3):Option (Bool × St3):=none
theorem Akj (_:Ay P T) {K:Ai} {o:Oper} {s s':St3} {nt:Nat} {g:Bool} (h:Aeu T K o s=some (g,s')) (_:g=true):Eh P K o (s.st nt) (s'.st nt):=by cases h
def Aet (_:Sh) (_:Nat) (_:St3):Option St3:=none
theorem Aki {sh:Sh} {k:Nat} {s s':St3} {nt:Nat} (h:Aet sh k s=some s'):Ze (s.st nt) (s'.st nt):=by cases h
def Bdn {α:Type} (_:Ty) (_:Ai) (_:Nat) (_:Oper) (_:St3) (_:St3->Option α):Option α:=none
theorem B8u (_:Ay P T) {α:Type} {K:Ai} {kk:Nat} {o:Oper} {s:St3} {nt:Nat} {k:St3->Option α} {r:α} (h:Bdn T K kk o s k=some r) :
  ∃ s':St3,Eh P K o (s.st nt) (s'.st nt)/\k s'=some r:=by cases h
inductive Shut where
 | hole (kk:Nat)
def B3j (_:Shut) (_:St3):Option (Bool × St3):=none
theorem B06 {kk:Shut} {s s':St3} {g:Bool} {nt:Nat} (h:B3j kk s=some (g,s')) (_:g=true):Ze (s.st nt) (s'.st nt):=by cases h
end Go.Ev

/- DERIVED. Code over shapes: all paths, in one expression. -/
namespace Go.Ev
open Go
variable {P:Program} {T:Ty}
structure OA where
 ent:Option Ent:=none
 sh:Option Sh:=none
 fz:List (Nat × Sh):=[]
 entB:Option Ent3:=none
 hb:Nat:=0
 tr:Option Sh:=none
 alt:List Ent3:=[]
 bor:Option Nat:=none
 shut:Option Shut:=none
def OA.two (a:OA):Bool:=(a.ent.isSome&&a.entB.isSome) || !a.alt.isEmpty || (a.bor.isSome || a.shut.isSome)
theorem OA.two_false {a:OA} (h:a.two=false):(a.ent.isSome&&a.entB.isSome)=false/\a.alt=[]/\a.bor=none/\a.shut=none:=by
 unfold OA.two at h;simp only [Bool.or_eq_false_iff,Bool.not_eq_false'] at h
 exact ⟨h.1.1,YS.1 h.1.2,by simpa using h.2.1,by simpa using h.2.2⟩
structure RA where
 m:Nat:=0
 fz:List (Nat × Sh):=[]
 ops:List (Nat × OA):=[]
@[reducible] def KS (α:Type):List (Exit × Tm)->Type
 | []=>Unit
 | (_,X)::r=>(X.den->Option α) × KS α r
def O8 {α:Type} (k:Exit->St3->Option α):(l:List (Exit × Tm))->KS α l
 | []=>()
 | (x,X)::r=>(λw=>k x (X.enc w),O8 k r)
def Exit.eqb:Exit->Exit->Bool
 | .normal,.normal=>true
 | .ret,.ret=>true
 | .exit i,.exit j=>Nat.beq i j
 | _,_=>false
theorem Exit.eqb_eq {a b:Exit} (h:Exit.eqb a b=true):a=b:=by
 unfold Exit.eqb at h;split at h
 . rfl
 . rfl
 . rw [QB h]
 . cases h
def Mm {α:Type}:(l:List (Exit × Tm))->KS α l->Exit->St3->Option α
 | [],_,_,_=>none
 | (x,X)::r,ks,y,s=>bif Exit.eqb x y then (match X.dec s with
  | some w=>ks.1 w
  | none=>none) else Mm r ks.2 y s
structure LO (α:Type) where
 H:Tm
 outs:List (Exit × Tm)
 run:H.den->KS α outs->Option α
structure D3 (α:Type) where
 reg:List (Nat × RA):=[]
 join:List (Nat × Tm):=[]
 loop:List (Nat × LO α):=[]
 any:List (Nat × Tm):=[]
def Ce:Code->Nat
 | .region id _ _=>id
 | .seq c d=>match Ce c with
  | 0=>Ce d
  | n+1=>n+1
 | .cond _ c d=>match Ce c with
  | 0=>Ce d
  | n+1=>n+1
 | .block _ c=>Ce c
 | .loop c=>Ce c
 | .rangeFunc _ _ a b=>match Ce a with
  | 0=>Ce b
  | n+1=>n+1
 | _=>0
def upd {α:Type} (k:Nat) (x:α):List (Nat × α)->List (Nat × α)
 | []=>[]
 | (j,y)::r=>bif Nat.beq j k then (j,x)::r else (j,y)::upd k x r
def Hz {α:Type}:List (Nat × Sh)->St3->(St3->Option α)->Option α
 | [],s,k=>k s
 | (t,sh)::r,s,k=>match N8 s t sh with
  | some (g,s1)=>bif g then Hz r s1 k else none
  | none=>none
def ob {α β:Type} (x:Option β) (k:β->Option α):Option α:=match x with
 | some r=>k r
 | none=>none
def gd {α:Type} (g:Bool) (x:Option α):Option α:=bif g then x else none
abbrev W (x:Int):Int:=IntKind.i64.wrap x
def A11 (T:Ty) (K:Ai) (A:OA) (o:Oper) (s:St3):Option (Bool × St3) :=
 match L3 T A.sh o s with
 | some r=>match s.eff3 K o.dst r.eff with
  | some s1=>match s1.put3 K o.dst r.val with
   | some s'=>match A.tr with
    | none=>some (r.g,s')
    | some sh=>match o.dst with
     | some d=>(Aet sh d s').map λs2=>(r.g,s2)
     | none=>none
   | none=>none
  | none=>none
 | none=>match A63 T o s with
  | some q=>some q
  | none=>Aeu T K o s
def Ak3:List Ent3->Oper->St3->Option Ent3
 | [],_,_=>none
 | E::r,o,s=>match Ji E.f E.ts o s with
  | some _=>some E
  | none=>Ak3 r o s
theorem Ak2:∀ {l:List Ent3} {o:Oper} {s:St3} {E:Ent3},Ak3 l o s=some E->E ∈ l
 | [],_,_,_,h=>by cases h
 | F::r,o,s,E,h=>by
  simp only [Ak3] at h;split at h
  . cases h;exact XZ
  . exact ZE _ (Ak2 h)
def Ra {α:Type} (T:Ty) (K:Ai) (A:OA) (o:Oper) (s:St3) (k:St3->Option α):Option α :=
 match Ak3 A.alt o s with
 | some E=>R9 K E A.hb o s k
 | none=>match A.ent with
 | some E=>match Qt E o s with
  | some (g,x)=>bif g then ob (E.m x) (λr=>match s.put3 K o.dst (Ae E.rs r) with
    | some s'=>k s'
    | none=>none) else none
  | none=>match A.entB with
   | some F=>R9 K F A.hb o s k
   | none=>none
 | none=>match A.entB with
 | some E=>R9 K E A.hb o s k
 | none=>match A11 T K A o s with
  | some (g,s')=>bif g then k s' else none
  | none=>none
def Ss {α:Type} (T:Ty) (K:Ai) (A:OA) (o:Oper) (s:St3) (k:St3->Option α):Option α :=
 match A.bor with
 | some kk=>Bdn T K kk o s k
 | none=>match A.shut with
  | none=>Ra T K A o s k
  | some kk=>Ra T K A o s λs1=>match B3j kk s1 with
   | some (g,s2)=>bif g then k s2 else none
   | none=>none
def Ae2 {α:Type} (K:Ai) (o:Oper) (s:St3) (k:St3->Option α):Option α :=
 match s.put3 K o.dst (.tup []) with
 | some s'=>k s'
 | none=>none
def Xh {α:Type} (ops:List Oper) (o:Oper) (s:St3) (f g:St3->Option α):Option α :=
 match o.guard with
 | none=>f s
 | some (j,want)=>match ops[j]? with
  | some p=>match p.dst with
   | some t=>match A2 t s.slots with
    | some (.d .bool b)=>bif b then
      (bif want then f { s with slots:=upd t (.d .bool true) s.slots } else g { s with slots:=upd t (.d .bool true) s.slots }) else
      (bif want then g { s with slots:=upd t (.d .bool false) s.slots } else f { s with slots:=upd t (.d .bool false) s.slots })
    | some (.tup [])=>g s
    | _=>none
   | none=>none
  | none=>none
def I0 {α:Type} (T:Ty) (K:Ai) (ops:List Oper) (A:List (Nat × OA)):List (Nat × Oper)->St3->(St3->Option α)->Option α
 | [],s,k=>k s
 | (i,o)::r,s,k=>Hz ((A2 i A).getD {}).fz s λs0=>Xh ops o s0 (λs1=>Ss T K ((A2 i A).getD {}) o s1 λs2=>I0 T K ops A r s2 k) (λs1=>Ae2 K o s1 λs2=>I0 T K ops A r s2 k)
def OA.quiet (T:Ty) (A:OA) (o:Oper) (s:St3):Bool :=
 A.fz.isEmpty&&A.tr.isNone&&A.alt.isEmpty&&(A.bor.isNone&&A.shut.isNone)&&(match A.entB with | some _=>false | none=>true)&&(match o.dst with | some _=>true | none=>false)&&(match A.ent with
 | some _=>true
 | none=>match L3 T A.sh o s with
  | some r=>match r.eff with
   | .none=>true
   | _=>false
  | none=>false)
def Afj {α:Type} (T:Ty) (K:Ai) (ops:List Oper) (A:List (Nat × OA)):List (Nat × Oper)->St3->(St3->Option α)->Option α
 | [],s,k=>k s
 | (i,o)::r,s,k=>Xh ops o s
   (λs1=>bif OA.quiet T ((A2 i A).getD {}) o s1 then Ss T K ((A2 i A).getD {}) o s1 (λs2=>Afj T K ops A r s2 k) else none)
   (λs1=>bif o.dst.isSome then Ae2 K o s1 (λs2=>Afj T K ops A r s2 k) else none)
def B0d {α:Type} (P:Program) (T:Ty) (K:Ai) (A:RA) (ops:Array Oper) (draw:Bool) (s:St3) (k:St3->Option α):Option α :=
 bif draw then
  bif Ea ops A.m then Hz A.fz s λs0=>Afj T K ops.toList A.ops ((A8 ops.toList).take A.m) s0 λs1=>I0 T K ops.toList A.ops ((A8 ops.toList).drop A.m) s1 k else none
 else I0 T K ops.toList A.ops (A8 ops.toList) s k
def Ab:Code->List (Nat × Code)
 | .seq c d=>Ab c++Ab d
 | .cond _ c d=>Ab c++Ab d
 | .block _ c=>Ab c
 | .loop c=>[(Ce c,.loop c)]
 | .rangeFunc f ps a b=>[(match Ce a with | 0=>Ce b | n+1=>n+1,.rangeFunc f ps a b)]
 | _=>[]
def Ar:Code->List (Nat × Array Oper)
 | .seq c d=>Ar c++Ar d
 | .cond _ c d=>Ar c++Ar d
 | .block _ c=>Ar c
 | .loop c=>Ar c
 | .region id ops true=>[(id,ops)]
 | _=>[]
def Vg (id:Nat):List (Nat × Tm)->List Tm
 | []=>[]
 | (i,X)::r=>bif Nat.beq i id then X::Vg id r else Vg id r
def Ae6 {α:Type} (s:St3) (f:(X:Tm)->X.den->Option α):List Tm->Option α
 | []=>none
 | X::r=>match X.dec s with
  | some w=>f X w
  | none=>Ae6 s f r
def Bj {α:Type} (P:Program) (T:Ty) (K:Ai) (D:D3 α):Code->St3->(Exit->St3->Option α)->Option α
 | .skip,s,k=>k .normal s
 | .region id ops draw,s,k=>match Vg id D.any with
  | []=>B0d P T K ((A2 id D.reg).getD {}) ops draw s (k .normal)
  | X::r=>bif draw then Ae6 s (λX w=>I0 T K ops.toList ((A2 id D.reg).getD {}).ops (A8 ops.toList) (X.enc w) (k .normal)) (X::r) else none
 | .seq c d,s,k=>match A2 (Ce d) D.join with
  | none=>Bj P T K D c s λx s1=>match x with
   | .normal=>Bj P T K D d s1 k
   | x=>k x s1
  | some X=>(λ(J:X.den->Option α)=>Bj P T K D c s λx s1=>match x with
   | .normal=>match X.dec s1 with
    | some w=>J w
    | none=>none
   | x=>k x s1) λw=>Bj P T K D d (X.enc w) k
 | .cond (.tmp t) c d,s,k=>match A2 t s.slots with
  | some (.d .bool b)=>bif b then Bj P T K D c { s with slots:=upd t (.d .bool true) s.slots } k else Bj P T K D d { s with slots:=upd t (.d .bool false) s.slots } k
  | _=>none
 | .block id c,s,k=>Bj P T K D c s λx s1=>match x with
  | .exit j=>bif Nat.beq j id then k .normal s1 else k (.exit j) s1
  | x=>k x s1
 | .loop c,s,k=>match A2 (Ce c) D.loop with
  | some L=>match L.H.dec s with
   | some v=>L.run v (O8 k L.outs)
   | none=>bif (Ab c).isEmpty then Bj P T K D c s λx s1=>match x with
    | .normal=>match L.H.dec s1 with
     | some v=>L.run v (O8 k L.outs)
     | none=>none
    | x=>k x s1 else none
  | none=>none
 | .rangeFunc _ _ a b,s,k=>match A2 (match Ce a with | 0=>Ce b | n+1=>n+1) D.loop with
  | some L=>match L.H.dec s with
   | some v=>L.run v (O8 k L.outs)
   | none=>none
  | none=>none
 | .exit id,s,k=>k (.exit id) s
 | .ret,s,k=>k .ret s
 | _,_,_=>none
def A5 {α:Type} {V Ks:Type} (B:V->(V->Option α)->Ks->Option α):Nat->V->Ks->Option α
 | 0,_,_=>none
 | n+1,v,ks=>B v (λv'=>A5 B n v' ks) ks
def A8r {α:Type} (H:Tm) (outs:List (Exit × Tm)) (f:H.den->Option α) (ks:KS α outs) (x:Exit) (s:St3):Option α :=
 match x with
 | .normal=>match H.dec s with
  | some v=>f v
  | none=>none
 | x=>Mm outs ks x s
def A9a (T:Ty) (s:St3):ResultVar->Option SV
 | .tmp t=>A2 t s.slots
 | .cell a t=>match s.val (.tmp a) with
  | .hp h row col=>match A2 h s.boxes with
   | some (.var _ _ _ _)=>match Zn T t (.hp h row col) s.boxes with
    | some r=>some r.val
    | none=>none
   | _=>none
  | _=>none
def Wy (T:Ty) (s:St3) (rv:ResultVar) (t:Sh):Option (Bool × t.den × List Nat) :=
 match A9a T s rv with
 | some v=>Z7 s.boxes t v
 | none=>none
def Iu (T:Ty) (s:St3):(ts:List Sh)->List ResultVar->Option (Bool × HL ts)
 | [],[]=>some (true,())
 | [t],[rv]=>match Wy T s rv t with
  | some (g,x,_)=>some (g,x)
  | none=>none
 | t::u::r,rv::rvs=>match Wy T s rv t,Iu T s (u::r) rvs with
  | some (g,x,_),some (g',xs)=>some (g&&g',(x,xs))
  | _,_=>none
 | _,_=>none
def B18 (T:Ty) (rs:List Sh) (rvs:List ResultVar) (x:Exit) (s:St3):Option (HL rs) :=
 match x with
 | .exit _=>none
 | .normal=>match Iu T s rs rvs with
  | some (g,y)=>bif g then some y else none
  | none=>none
 | .ret=>match Iu T s rs rvs with
  | some (g,y)=>bif g then some y else none
  | none=>none
 | _=>none
def F2 (i:Nat):List SV->List (Nat × SV)
 | []=>[]
 | x::r=>(i,x)::F2 (i+1) r
def Z5 (ts:List Sh) (x:HL ts):St3:=⟨F2 0 (Ep ts x),[]⟩
end Go.Ev

/- DERIVED. Code over shapes is what the code does. -/
namespace Go.Ev
open Go
variable {P:Program} {T:Ty} {α:Type}
theorem Asw {f:SV->S} {t:Nat} {x y:SV} (hxy:f x=f y):∀ {l:List (Nat × SV)},A2 t l=some y->Ak f (upd t x l)=Ak f l
 | [],h=>by cases h
 | (j,z)::r,h=>by
  simp only [A2] at h;simp only [upd]
  cases hb:Nat.beq j t with
  | true =>
   rw [hb] at h;simp only [cond,QC] at h;subst h;simp [Ak,hxy]
  | false =>
   rw [hb] at h;have:=Asw hxy h;simp only [Ak] at this;simp [Ak,this]
theorem Qx {nt:Nat}:∀ {l:List (Nat × Sh)} {s:St3} {k:St3->Option α} {r:α},Hz l s k=some r->∃ s' fz ob,Es fz (s.st nt)=some (s'.st nt,ob)/\(∀ p ∈ ob,p)/\k s'=some r/\(l=[]->fz=[]/\s'=s)
 | [],s,k,r,h=>⟨s,[],[],rfl,by simp,h,λ_=>⟨rfl,rfl⟩⟩
 | (t,sh)::l,s,k,r,h=>by
  simp only [Hz] at h;split at h
  . rename_i g s1 hs
    cases g with
    | false=>cases h
    | true =>
     obtain ⟨x',ob,h1,h2⟩:=Sw (nt:=nt) hs rfl;obtain ⟨s2,fz,ob2,h3,h4,h5,_⟩:=Qx (nt:=nt) (l:=l) h
     refine ⟨s2,(t,x')::fz,ob++ob2,by simp only [Es,h1,h3],λp hp=>?_,h5,λe=>by cases e⟩
     rcases QD.1 hp with hp | hp
     . exact h2 p hp
     . exact h4 p hp
  . cases h
theorem Apd {o:Oper} {s:St3} {nt:Nat} {A:Option Sh} {r:R3} (h:L3 T A o s=some r) (hg:r.g=true) (he:r.eff = .none) :
  ∃ D obs,(∀ p ∈ obs,p)/\quiet P T o D (s.st nt)=some (r.val.s (A6 s.boxes),obs):=by
 obtain ⟨hnt,q,h1,h2,h3⟩:=Ajn (nt:=nt) h hg;unfold Ip at h3;rw [he] at h3
 refine ⟨{ cells:=hnt },q.ob++[],by simpa using h2,?_⟩
 unfold quiet;simp only [h1,h3.1,Option.getD_none,h3.2]
theorem B05 {K:Ai} {o:Oper} {D:Fn} {s:St} (fz:List (Nat × V)):E6 P T K o { D with fz:=fz } s=E6 P T K o D s:=rfl
def OA.S (P:Program) (a:OA):Prop:=(∀ E,a.ent=some E->E.Sound P)/\(∀ E,a.entB=some E->E.Sound P) /\ ∀ E,E ∈ a.alt->E.Sound P
theorem Ajw (hT:Ay P T) {K:Ai} {A:OA} {o:Oper} {s s':St3} {nt:Nat} {g:Bool} (h:A11 T K A o s=some (g,s')) (hg:g=true) :
  ∃ D obs,E6 P T K o D (s.st nt)=some (s'.st nt,obs) /\ ∀ p ∈ obs,p:=by
 unfold A11 at h;split at h
 . rename_i q hq;split at h
   . rename_i s1 he;split at h
     . rename_i s2 hp
       have key:q.g=true->∃ D obs,E6 P T K o D (s.st nt)=some (s2.st nt,obs) /\ ∀ p ∈ obs,p:=λhg=>by
        obtain ⟨hnt,r1,h1,h2,h3⟩:=Ajn (nt:=nt) hq hg;obtain ⟨h4,h5⟩:=B8r (nt:=nt) he h3;have h6:=Rd (nt:=nt) hp;rw [<- h5] at h6
        refine ⟨{ cells:=hnt },r1.ob++[]++[],?_,by simpa using h2⟩
        unfold E6;simp only [h1,h4,Option.getD_none,h6,QU]
       split at h
       . simp only [QC,QI] at h;obtain ⟨rfl,rfl⟩:=h;exact key hg
       . split at h
         . simp only [QE,QI] at h;obtain ⟨s3,h3,rfl,rfl⟩:=h;obtain ⟨D,obs,k1,k2⟩:=key hg
           exact ⟨{ own:=some (s3.st nt) },_,rfl,λp hp=>by
            rw [QR.1 hp]
            exact (Fp hT k1 k2).weak (Aki h3)⟩
         . cases h
     . cases h
   . cases h
 . split at h
   . rename_i q hq;obtain rfl:=QA h
     exact ⟨{ own:=some (s'.st nt) },_,rfl,λp hp=>by rw [QR.1 hp];exact Adm hT hq hg⟩
   . exact ⟨{ own:=some (s'.st nt) },_,rfl,λp hp=>by rw [QR.1 hp];exact Akj hT h hg⟩
theorem Abh (hT:Ay P T) {K:Ai} {A:OA} {o:Oper} {s:St3} {nt:Nat} {k:St3->Option α} {r:α} (h:Ra T K A o s k=some r) (hE:A.S P) :
  ∃ s' D obs,E6 P T K o D (s.st nt)=some (s'.st nt,obs)/\(∀ p ∈ obs,p)/\k s'=some r:=by
 unfold Ra at h;split at h
 . rename_i E hal;exact Wg h (hE.2.2 E (Ak2 hal))
 split at h
 . rename_i E hent;split at h
   . rename_i g x hc
     cases g with
     | false=>cases h
     | true =>
      simp only [cond,ob] at h;split at h
      . rename_i y hm;split at h
        . rename_i s' hp;obtain ⟨obs,h1,h2⟩:=A5t (T:=T) (nt:=nt) hc hm (hE.1 E hent);have:=Rd (nt:=nt) hp;rw [A98] at this;obtain ⟨D',obs',h3,h4⟩:=T1 h2 this;exact ⟨s',D',obs',h3,h4 h1,h⟩
        . cases h
      . cases h
   . split at h
     . rename_i F hF;exact Wg h (hE.2.1 F hF)
     . cases h
 split at h
 . rename_i E hent;exact Wg h (hE.2.1 E hent)
 . split at h
   . rename_i g s' hq
     cases g with
     | false=>cases h
     | true =>
      obtain ⟨D,obs,h1,h2⟩:=Ajw (nt:=nt) hT hq rfl;exact ⟨s',D,obs,h1,h2,h⟩
   . cases h
theorem B04 (hT:Ay P T) {K:Ai} {A:OA} {o:Oper} {s:St3} {nt:Nat} {k:St3->Option α} {r:α} (h:Ss T K A o s k=some r) (hE:A.S P) :
  ∃ s' D obs,E6 P T K o D (s.st nt)=some (s'.st nt,obs)/\(∀ p ∈ obs,p)/\k s'=some r:=by
 unfold Ss at h;split at h
 . obtain ⟨s',h1,h2⟩:=B8u (nt:=nt) hT h
   exact ⟨s',{ own:=some (s'.st nt) },_,rfl,λp hp=>by rw [QR.1 hp];exact h1,h2⟩
 . split at h
   . exact Abh hT h hE
   . obtain ⟨s1,D,obs,h1,h2,h3⟩:=Abh (nt:=nt) hT h hE;split at h3
     . rename_i g s2 hs
       cases g with
       | false=>cases h3
       | true=>exact ⟨s2,{ own:=some (s2.st nt) },_,rfl,λp hp=>by rw [QR.1 hp];exact (Fp hT h1 h2).weak (B06 hs rfl),h3⟩
     . cases h3
theorem Ate {K:Ai} {A:OA} {o:Oper} {s:St3} {nt:Nat} {k:St3->Option α} {r:α} (h:Ss T K A o s k=some r) (hq:A.quiet T o s=true) (hE:A.S P) :
  ∃ t s' D x obs,o.dst=some t/\Nat.blt t K.N=true/\quiet P T o D (s.st nt)=some (x,obs)/\(∀ p ∈ obs,p)/\k s'=some r/\s'.st nt={ s.st nt with slots:=Az t x (s.st nt).slots }:=by
 unfold OA.quiet at hq;simp only [QF] at hq;obtain ⟨⟨⟨⟨⟨⟨_,hqt⟩,hqa⟩,hqb,hqc⟩,hq0⟩,hq1⟩,hq2⟩:=hq
 have putI:∀ {s s':St3} {y:SV},s.put3 K o.dst y=some s'->∃ t,o.dst=some t/\Nat.blt t K.N=true/\s'.st nt={ s.st nt with slots:=Az t (y.s (A6 s.boxes)) (s.st nt).slots }:=by
  intro s s' y hp;unfold St3.put3 at hp
  cases hd:o.dst with
  | none=>rw [hd] at hq1;cases hq1
  | some t =>
   rw [hd] at hp;simp only at hp
   cases hb:Nat.blt t K.N with
   | false=>rw [hb] at hp;cases hp
   | true =>
    rw [hb] at hp;obtain rfl:=QA hp
    exact ⟨t,rfl,hb,by simp only [St3.st,F5]⟩
 unfold Ss at h
 rw [show A.bor=none by simpa using hqb,show A.shut=none by simpa using hqc] at h
 simp only at h;unfold Ra at h;split at h
 . rename_i E hal;rw [YS.1 hqa] at hal;cases hal
 split at h
 . rename_i E hent;split at h
   . rename_i g x hc
     cases g with
     | false=>cases h
     | true =>
      simp only [cond,ob] at h;split at h
      . rename_i y hm;split at h
        . rename_i s' hp;obtain ⟨obs,h1,h2⟩:=A5t (T:=T) (nt:=nt) hc hm (hE.1 E hent);obtain ⟨t,p1,p2,p3⟩:=putI hp;rw [A98] at p3;exact ⟨t,s',_,_,obs,p1,p2,h2,h1,h,p3⟩
        . cases h
      . cases h
   . split at h
     . rename_i F hF;rw [hF] at hq0;cases hq0
     . cases h
 split at h
 . rename_i E hB;rw [hB] at hq0;cases hq0
 . rename_i hent _ _;rw [hent] at hq2;simp only at hq2
   cases hcq:L3 T A.sh o s with
   | none=>rw [hcq] at hq2;cases hq2
   | some q =>
    rw [hcq] at hq2;simp only at hq2
    have he:q.eff = .none:=by
     cases e:q.eff <;> first | rfl | (rw [e] at hq2;cases hq2)
    have htr:A.tr=none:=by
     cases e:A.tr with
     | none=>rfl
     | some _=>rw [e] at hqt;cases hqt
    unfold A11 at h;rw [hcq] at h;simp only [he,St3.eff3,htr] at h;split at h
    . rename_i g s' hb;split at hb
      . rename_i s2 hp;simp only [QC,QI] at hb;obtain ⟨hg,rfl⟩:=hb
        cases g with
        | false=>cases h
        | true =>
         simp only [cond] at h;obtain ⟨D,obs,h1,h2⟩:=Apd (P:=P) (nt:=nt) hcq hg he;obtain ⟨t,p1,p2,p3⟩:=putI hp;exact ⟨t,_,D,_,obs,p1,p2,h2,h1,h,p3⟩
      . cases hb
    . cases h
theorem Abk {s:St3} {nt t:Nat} {b:Bool} (h:A2 t s.slots=some (.d .bool b)):A2 t (s.st nt).slots=some (.v (.one (.i (.lit (.bool b))))):=by
 simp only [St3.st,Aq,h];rfl
theorem Ju {s:St3} {nt t:Nat} {b:Bool} (h:A2 t s.slots=some (.d .bool b)):(({ s with slots:=upd t (.d .bool b) s.slots }:St3).st nt)=s.st nt:=by
 simp only [St3.st];rw [Asw rfl h]
theorem Abv {ops:List Oper} {o:Oper} {s:St3} {nt:Nat} {f g:St3->Option α} {r:α} (h:Xh ops o s f g=some r) :
  ∃ s0,s0.st nt=s.st nt/\((Hg (s.st nt) ops o=some true/\f s0=some r) \/ (Hg (s.st nt) ops o=some false/\g s0=some r)):=by
 unfold Xh at h;unfold Hg;split at h
 . rename_i hg;rw [hg]
   exact ⟨s,rfl,.inl ⟨by first | rfl | trivial,h⟩⟩
 . rename_i j want hg;rw [hg];simp only;split at h
   . rename_i p hp;simp only [hp];split at h
     . rename_i t ht;simp only [ht];split at h
       . rename_i b hl;simp only [Abk (nt:=nt) hl]
         cases b <;> cases want <;> simp only [cond] at h
         . exact ⟨_,Ju hl,.inl ⟨by first | rfl | trivial,h⟩⟩
         . exact ⟨_,Ju hl,.inr ⟨by first | rfl | trivial,h⟩⟩
         . exact ⟨_,Ju hl,.inr ⟨by first | rfl | trivial,h⟩⟩
         . exact ⟨_,Ju hl,.inl ⟨by first | rfl | trivial,h⟩⟩
       . rename_i hl
         have:A2 t (s.st nt).slots=some (.tup []):=by
          simp only [St3.st,Aq,hl];rfl
         simp only [this]
         exact ⟨s,rfl,.inr ⟨by first | rfl | trivial,h⟩⟩
       . cases h
     . cases h
   . cases h
theorem Af5 {K:Ai} {o:Oper} {s:St3} {nt:Nat} {k:St3->Option α} {r:α} (h:Ae2 K o s k=some r):∃ s',(s.st nt).putD K o.dst (.tup [])=some (s'.st nt)/\k s'=some r:=by
 unfold Ae2 at h;split at h
 . rename_i s' hp;exact ⟨s',Rd (nt:=nt) hp,h⟩
 . cases h
theorem It {K:Ai} {ops:List Oper} {Ds Ds':List (Nat × Fn)}:∀ (l:List (Nat × Oper)) (s:St),(∀ p ∈ l,A2 p.1 Ds=A2 p.1 Ds')->D4 P T K ops Ds l s=D4 P T K ops Ds' l s
 | [],_,_=>rfl
 | (i,o)::r,s,h=>by
  have h0:=h (i,o) (by simp)
  have ih:=λs=>It (K:=K) (ops:=ops) r s λp hp=>h p (by simp [hp])
  simp only [D4];rw [show A2 i Ds=A2 i Ds' from h0];simp only [ih]
theorem Is {K:Ai} {ops:List Oper} {Ds Ds':List (Nat × Fn)}:∀ (l:List (Nat × Oper)) (xs:List (Nat × Nat × S)) (s:St),(∀ p ∈ l,A2 p.1 Ds=A2 p.1 Ds')->G6 P T K ops Ds l xs s=G6 P T K ops Ds' l xs s
 | [],_,_,_=>rfl
 | (i,o)::r,xs,s,h=>by
  have h0:=h (i,o) (by simp)
  have ih:=λxs s=>Is (K:=K) (ops:=ops) r xs s λp hp=>h p (by simp [hp])
  simp only [G6];rw [show A2 i Ds=A2 i Ds' from h0];simp only [ih]
theorem B7 {β:Type} {i j:Nat} {x:β} {l:List (Nat × β)} (h:i ≠ j):A2 j ((i,x)::l)=A2 j l:=by
 simp only [A2]
 have:Nat.beq i j=false:=by cases e:Nat.beq i j with | false=>rfl | true=>exact absurd (QB e) h
 rw [this];rfl
theorem Bl {β:Type} {i:Nat} {x:β} {l:List (Nat × β)}:A2 i ((i,x)::l)=some x:=by
 simp only [A2,YB];rfl
theorem Zk (hT:Ay P T) {K:Ai} {ops:List Oper} {A:List (Nat × OA)} {nt:Nat} (hE:∀ i a,A2 i A=some a->a.S P):∀ (l:List (Nat × Oper)) (s:St3) (k:St3->Option α) (r:α),(l.map (·.1)).Nodup->I0 T K ops A l s k=some r ->
  ∃ s' Ds obs,k s'=some r/\D4 P T K ops Ds l (s.st nt)=some (s'.st nt,obs) /\ ∀ p ∈ obs,p
 | [],s,k,r,_,h=>⟨s,[],[],h,rfl,by simp⟩
 | (i,o)::l,s,k,r,hn,h=>by
  simp only [QS,KU] at hn;simp only [I0] at h;obtain ⟨s0,fz,ob0,h1,h2,h3,_⟩:=Qx (nt:=nt) h;obtain ⟨s00,e1,hg⟩:=Abv (nt:=nt) h3
  have hEi:((A2 i A).getD {}).S P:=by
   cases hl:A2 i A with
   | none=>exact ⟨(λE h=>by cases h),(λE h=>by cases h),(λE h=>by cases h)⟩
   | some a=>exact hE i a hl
  rcases hg with ⟨g1,g2⟩ | ⟨g1,g2⟩
  . obtain ⟨s1,D,ob1,h4,h5,h6⟩:=B04 (P:=P) (nt:=nt) hT g2 hEi;obtain ⟨s',Ds,ob2,h7,h8,h9⟩:=Zk hT hE l s1 k r hn.2 h6;refine ⟨s',(i,{ D with fz:=fz })::Ds,ob0++(ob1++ob2),h7,?_,λp hp=>?_⟩
    . simp only [D4,Bl,YL,h1];rw [e1] at h4;simp only [Zi,g1,B05,h4]
      rw [It (Ds':=Ds) l _ λp hp=>B7 λe=>hn.1 (by rw [e];exact ZK.2 ⟨p,hp,rfl⟩),h8]
    . rcases QD.1 hp with hp | hp
      . exact h2 p hp
      . rcases QD.1 hp with hp | hp
        . exact h5 p hp
        . exact h9 p hp
  . obtain ⟨s1,h4,h6⟩:=Af5 (nt:=nt) g2;obtain ⟨s',Ds,ob2,h7,h8,h9⟩:=Zk hT hE l s1 k r hn.2 h6;refine ⟨s',(i,{ fz:=fz })::Ds,ob0++([]++ob2),h7,?_,λp hp=>?_⟩
    . simp only [D4,Bl,YL,h1];rw [e1] at h4;simp only [Zi,g1,h4,QU]
      rw [It (Ds':=Ds) l _ λp hp=>B7 λe=>hn.1 (by rw [e];exact ZK.2 ⟨p,hp,rfl⟩),h8]
    . rcases QD.1 hp with hp | hp
      . exact h2 p hp
      . exact h9 p (by simpa using hp)
theorem Abn {β:Type} {i:Nat} {d:β} {Ds:List (Nat × β)} {ks:List Nat} (h:∀ j,(A2 j Ds).isSome=true ↔ j ∈ ks):∀ j,(A2 j ((i,d)::Ds)).isSome=true ↔ j ∈ i::ks:=by
 intro j;by_cases e:i=j
 . subst e;rw [Bl];simp
 . rw [B7 e,h j];simp [Ne.symm e]
theorem Vp {β:Type} {j:Nat}:∀ {a b:List (Nat × β)},(A2 j a).isSome=true->A2 j (a++b)=A2 j a
 | [],_,h=>by cases h
 | (i,x)::r,b,h=>by
  by_cases e:i=j
  . subst e;rw [YD,Bl,Bl]
  . rw [B7 e] at h;rw [YD,B7 e,B7 e,Vp h]
theorem Vq {β:Type} {j:Nat}:∀ {a b:List (Nat × β)},A2 j a=none->A2 j (a++b)=A2 j b
 | [],_,_=>rfl
 | (i,x)::r,b,h=>by
  by_cases e:i=j
  . subst e;rw [Bl] at h
    cases h
  . rw [B7 e] at h;rw [YD,B7 e,Vq h]
theorem A9b {K:Ai} {ops:List Oper} {A:List (Nat × OA)} {nt:Nat} (hE:∀ i a,A2 i A=some a->a.S P):∀ (l:List (Nat × Oper)) (s:St3) (k:St3->Option α) (r:α),(l.map (·.1)).Nodup->Afj T K ops A l s k=some r ->
  ∃ s' Ds obs,k s'=some r/\(∀ xs,∃ ys,G6 P T K ops Ds l xs (s.st nt)=some (ys,s'.st nt,obs))/\(∀ p ∈ obs,p) /\ ∀ j,(A2 j Ds).isSome=true ↔ j ∈ l.map (·.1)
 | [],s,k,r,_,h=>⟨s,[],[],h,λxs=>⟨xs,rfl⟩,by simp,λj=>by simp [A2]⟩
 | (i,o)::l,s,k,r,hn,h=>by
  simp only [QS,KU] at hn;simp only [Afj] at h
  have hEi:((A2 i A).getD {}).S P:=by
   cases hl:A2 i A with
   | none=>exact ⟨(λE h=>by cases h),(λE h=>by cases h),(λE h=>by cases h)⟩
   | some a=>exact hE i a hl
  obtain ⟨s00,e1,hg⟩:=Abv (nt:=nt) h;rcases hg with ⟨g1,g2⟩ | ⟨g1,g2⟩
  . cases hq:OA.quiet T ((A2 i A).getD {}) o s00 with
    | false=>rw [hq] at g2;cases g2
    | true =>
     rw [hq] at g2;simp only [cond] at g2;obtain ⟨t,s1,D,x,ob1,d1,d2,d3,d4,d5,d6⟩:=Ate (P:=P) (nt:=nt) g2 hq hEi;obtain ⟨s',Ds,ob2,h7,h8,h9,h10⟩:=A9b hE l s1 k r hn.2 d5;refine ⟨s',(i,D)::Ds,ob1++ob2,h7,λxs=>?_,λp hp=>?_,Abn h10⟩
     . obtain ⟨ys,h8⟩:=h8 ((i,t,x)::xs);refine ⟨ys,?_⟩;rw [e1] at d3 d6;simp only [G6,d1,Bl,YL,T2,g1,d3,d2,cond]
       rw [<- d6,Is (Ds':=Ds) l _ _ λp hp=>B7 λe=>hn.1 (by rw [e];exact ZK.2 ⟨p,hp,rfl⟩),h8]
     . rcases QD.1 hp with hp | hp
       . exact d4 p hp
       . exact h9 p hp
  . cases hd:o.dst with
    | none=>rw [hd] at g2;cases g2
    | some t =>
     rw [hd] at g2;simp only [Option.isSome_some,cond] at g2;obtain ⟨s1,h4,h6⟩:=Af5 (nt:=nt) g2;rw [hd] at h4;simp only [St.putD] at h4
     cases hb:Nat.blt t K.N with
     | false=>rw [hb] at h4;cases h4
     | true =>
      rw [hb] at h4;simp only [cond,QC] at h4;obtain ⟨s',Ds,ob2,h7,h8,h9,h10⟩:=A9b hE l s1 k r hn.2 h6
      refine ⟨s',(i,{})::Ds,[]++ob2,h7,λxs=>?_,λp hp=>h9 p (by simpa using hp),Abn h10⟩
      obtain ⟨ys,h8⟩:=h8 ((i,t,.tup [])::xs);refine ⟨ys,?_⟩;rw [e1] at h4;simp only [G6,hd,Bl,YL,T2,g1,hb,cond]
      rw [h4,Is (Ds':=Ds) l _ _ λp hp=>B7 λe=>hn.1 (by rw [e];exact ZK.2 ⟨p,hp,rfl⟩),h8]
theorem Fg (l:List Oper):((A8 l).map (·.1)).Nodup:=by
 have:(A8 l).map (·.1)=List.range l.length:=by
  apply JS;intro j;simp only [A8,ZY,QN,YX];by_cases hj:j<l.length
  . simp [hj]
  . simp [hj]
 rw [this];exact Qay
theorem B4t (hT:Ay P T) (hfol:P.follows .mixedOrders=true) {K:Ai} {A:RA} {id:Nat} {ops:Array Oper} {draw:Bool} {s:St3} {nt:Nat} {k:St3->Option α} {r:α}
  (hE:∀ i a,A2 i A.ops=some a->a.S P) (h:B0d P T K A ops draw s k=some r) :
  ∃ s',Code.Den P K (.region id ops draw) (s.st nt) .normal (s'.st nt)/\k s'=some r:=by
 unfold B0d at h
 cases draw with
 | true =>
  simp only [cond] at h
  cases hok:Ea ops A.m with
  | false=>rw [hok] at h;cases h
  | true =>
   rw [hok] at h;obtain ⟨s0,fz,ob0,h1,h2,h3,_⟩:=Qx (nt:=nt) h;obtain ⟨s1,Ds1,ob1,h4,h5,h6,h6'⟩:=A9b (P:=P) (nt:=nt) hE _ s0 _ _ ((Fg ops.toList).sublist ((List.take_sublist _ _).map _)) h3;obtain ⟨s2,Ds2,ob2,h7,h8,h9⟩:=Zk (P:=P) (nt:=nt) hT hE _ s1 _ _ ((Fg ops.toList).sublist ((List.drop_sublist _ _).map _)) h4;refine ⟨s2,?_,h7⟩;have hnd:=Fg ops.toList
   have e1:∀ p ∈ (A8 ops.toList).take A.m,A2 p.1 (Ds1++Ds2)=A2 p.1 Ds1:=λp hp=>by
    have:=(h6' p.1).2 (ZK.2 ⟨p,hp,rfl⟩);exact Vp this
   have e2:∀ p ∈ (A8 ops.toList).drop A.m,A2 p.1 (Ds1++Ds2)=A2 p.1 Ds2:=λp hp=>by
    refine Vq ?_
    cases hl:A2 p.1 Ds1 with
    | none=>rfl
    | some d =>
     exfalso
     have hm:=(h6' p.1).1 (by rw [hl];rfl)
     have hd:p.1 ∈ ((A8 ops.toList).drop A.m).map (·.1):=ZK.2 ⟨p,hp,rfl⟩;rw [<- KY A.m (A8 ops.toList),KM,List.nodup_append] at hnd;exact hnd.2.2 _ hm _ hd rfl
   obtain ⟨ys,h5⟩:=h5 []
   have:Wp P T K ops A.m (Ds1++Ds2) fz (s.st nt)=some (s2.st nt,(P.follows .mixedOrders=true)::(ob0++(ob1++ob2))):=by
    unfold Wp;rw [hok];simp only [cond,h1];rw [Is _ _ _ e1,h5];simp only;rw [It _ _ e2,h8]
   refine Afb hT this λp hp=>?_;rcases QV.1 hp with rfl | hp
   . exact hfol
   . rcases QD.1 hp with hp | hp
     . exact h2 p hp
     . rcases QD.1 hp with hp | hp
       . exact h6 p hp
       . exact h9 p hp
 | false =>
  simp only [cond] at h;obtain ⟨s2,Ds2,ob2,h7,h8,h9⟩:=Zk (P:=P) (nt:=nt) hT hE _ s _ _ (Fg ops.toList) h;refine ⟨s2,?_,h7⟩
  have:L8 P T K ops { ds:=Ds2,drop:=[] } (s.st nt)=some ((s2.st nt).forget [],ob2):=by
   unfold L8;simp only [h8]
  have:=Afg (id:=id) hT this h9
  have e:(s2.st nt).forget []=s2.st nt:=by
   have:Aej [] (s2.st nt).slots=(s2.st nt).slots:=Qac.2 λ_ _=>rfl;unfold St.forget;rw [this]
  rw [e] at this;exact this
end Go.Ev
