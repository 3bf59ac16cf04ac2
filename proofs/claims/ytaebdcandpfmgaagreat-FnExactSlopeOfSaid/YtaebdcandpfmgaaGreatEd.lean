/- DERIVED. The evaluator over shapes of data: calls, trees, all paths. -/
import Derived.Test.YtaebdcandpfmgaaGreatEc

set_option linter.all false
set_option linter.unusedVariables false
set_option linter.unusedSimpArgs false

/- DERIVED. What is settled, and results, over shapes; templates of states. -/
namespace Go.Ev
open Go
variable {P:Program} {T:Ty}
theorem X1 {bs:List (Nat × B3)} {t:Sh} {v:SV} {g:Bool} {x:t.den} {ks:List Nat} (ht:t.one = true) (h:Eo bs t v = some (g,x,ks)) (hg:g = true) :
  v.cellB = true /\ (∃ ob,Lo (A0 · (Ag (B3.box (A3 bs)) bs)) (v.c (A3 bs)) (.i (hd1 (t.cells x))) = some (ob,ks) /\ ∀ p ∈ ob,p) /\ ∀ k ∈ ks,k < 1000 /\ (A0 k bs).isSome = true:=by
 unfold Eo at h;split at h
 . rename_i hh;split at h
   . rename_i t0;split at h
     . rename_i e sh fz xs hl
       cases hk:Nat.blt hh 1000 with
       | false=>rw [hk] at h;cases h
       | true =>
        rw [hk] at h;simp only [cond,QB,QG] at h;obtain ⟨y,hy,rfl,rfl,rfl⟩:=h;obtain ⟨rfl,rfl⟩:=Dl hy
        have hle:A3 bs hh = xs.length:=by simp [A3,hl,B3.len]
        refine ⟨rfl,⟨[0 + A3 bs hh <= (xs.map fun y=>(sh.cells y).map C.i).length,((xs.map fun y=>(sh.cells y).map C.i).drop 0).take (A3 bs hh) = (xs.map sh.cells).map (·.map .i)],?_,?_⟩,?_⟩
        . simp only [Lo,SV.c,Bl,hl,QP,B3.box,Sh.cells,hd1,XA,ZX,XM,ZD,cond]
        . simp only [QT,YE,or_false,forall_eq_or_imp,forall_eq]
          refine ⟨by simp [hle],?_⟩
          rw [XG,hle,XV (by simp),XH]
          rfl
        . intro k hk';simp only [QQ] at hk';subst hk'
          exact ⟨by simpa [ZQ] using hk,by rw [hl];rfl⟩
     . cases h
   . cases h
 . rename_i hh off len;split at h
   . rename_i t0;split at h
     . rename_i e sh fz xs hl
       cases hk:Nat.blt hh 1000 with
       | false=>rw [hk] at h;cases h
       | true =>
        rw [hk] at h;simp only [cond,QB,QG] at h;obtain ⟨y,hy,rfl,rfl,rfl⟩:=h;obtain ⟨rfl,rfl⟩:=Dl hy;simp only [QR] at hg;refine ⟨rfl,⟨[off + len <= (xs.map fun y=>(sh.cells y).map C.i).length,((xs.map fun y=>(sh.cells y).map C.i).drop off).take len = (((xs.drop off).take len).map sh.cells).map (·.map .i)],?_,?_⟩,?_⟩
        . simp only [Lo,SV.c,Bl,hl,QP,B3.box,Sh.cells,hd1,XA,ZX,XM,ZD,cond]
        . simp only [QT,YE,or_false,forall_eq_or_imp,forall_eq]
          refine ⟨by simpa using hg,?_⟩
          rw [XH,JD,KE];rfl
        . intro k hk';simp only [QQ] at hk';subst hk'
          exact ⟨by simpa [ZQ] using hk,by rw [hl];rfl⟩
     . cases h
   . cases h
 . rename_i cs;split at h
   . rename_i t0
     cases hd:cs.all SV.isD with
     | false=>rw [hd] at h;cases h
     | true =>
      rw [hd] at h;simp only [cond,QB,QG] at h;obtain ⟨y,hy,rfl,rfl,rfl⟩:=h;obtain ⟨_,_,h3,_⟩:=Cf hy
      refine ⟨hd,⟨[C.i (.ref 0 (cs.map SV.i0)) = C.i (.ref 0 (t0.cells y))],rfl,by simp [h3 hd]⟩,by simp⟩
   . cases h
 . rename_i h1 h2 h3;rw [ht] at h;simp only [cond,QB,QG] at h;obtain ⟨y,hy,rfl,rfl,rfl⟩:=h;obtain ⟨q1,ob,q2,q3⟩:=Qh (L:=A3 bs) ht hy
   refine ⟨O3 q1,⟨ob,?_,q3⟩,by simp⟩
   have hI:By (v.c (A3 bs)) = true:=Lx (A6n q1);unfold Lo;split
   . rename_i he _;rw [he] at hI;cases hI
   . rw [q2];rfl
def Nt (bs:List (Nat × B3)) (cs:List SV) (ds:List I) (ks:List Nat):Prop :=
 (∃ ob,En (A0 · (Ag (B3.box (A3 bs)) bs)) (cs.map (SV.c (A3 bs))) (ds.map .i) = some (ob,ks) /\ ∀ p ∈ ob,p) /\ ∀ k ∈ ks,k < 1000 /\ (A0 k bs).isSome = true
theorem Nt.app {bs:List (Nat × B3)}:∀ {cs cs':List SV} {ds ds':List I} {ks ks':List Nat},Nt bs cs ds ks->Nt bs cs' ds' ks'->Nt bs (cs ++ cs') (ds ++ ds') (ks ++ ks')
 | [],cs',[],ds',ks,ks',h,h'=>by
  obtain ⟨⟨ob,h,_⟩,_⟩:=h;simp only [YQ,En,QD,QG] at h;obtain ⟨_,rfl⟩:=h;exact h'
 | [],cs',d :: ds,ds',_,_,h,_=>by obtain ⟨⟨ob,h,_⟩,_⟩:=h;simp [En] at h
 | c :: cs,cs',[],ds',_,_,h,_=>by obtain ⟨⟨ob,h,_⟩,_⟩:=h;simp [En] at h
 | c :: cs,cs',d :: ds,ds',ks,ks',h,h'=>by
  obtain ⟨⟨ob,h,ho⟩,hk⟩:=h;simp only [QX,En] at h;split at h
  . rename_i p k q l h1 h2;simp only [QD,QG] at h;obtain ⟨rfl,rfl⟩:=h;obtain ⟨⟨ob2,h3,ho2⟩,hk2⟩:=Nt.app (cs:=cs) (ds:=ds) (ks:=l) ⟨⟨q,h2,fun x hx=>ho x (QF.2 (.inr hx))⟩,fun k hk'=>hk k (QF.2 (.inr hk'))⟩ h';refine ⟨⟨p ++ ob2,?_,fun x hx=>?_⟩,fun j hj=>?_⟩
    . simp only [YK,QX,En,h1,h3,ZP]
    . rcases QF.1 hx with hx | hx
      . exact ho x (QF.2 (.inl hx))
      . exact ho2 x hx
    . rw [ZP] at hj;rcases QF.1 hj with hj | hj
      . exact hk j (QF.2 (.inl hj))
      . exact hk2 j hj
  . cases h
theorem B1u {bs:List (Nat × B3)}:∀ (t:Sh) (cs:List SV) (g:Bool) (x:t.den) (ks:List Nat) (r:List SV),t.impB bs cs = some (g,x,ks,r)->g = true->∃ pre,cs = pre ++ r /\ Nt bs pre (t.cells x) ks /\ pre.all SV.cellB = true:=by
 have cell:∀ (t:Sh) (c:SV) (r q:List SV) (g:Bool) (x:t.den) (ks:List Nat),t.one = true->(Eo bs t c).map (fun p=>(p.1,p.2.1,p.2.2,r)) = some (g,x,ks,q)->g = true->∃ pre,c :: r = pre ++ q /\ Nt bs pre (t.cells x) ks /\ pre.all SV.cellB = true:=by
  intro t c r q g x ks ht h hg;simp only [QB,QG] at h;obtain ⟨⟨g',x',k'⟩,h1,rfl,rfl,rfl,rfl⟩:=h;obtain ⟨hc,⟨ob,h2,h3⟩,h4⟩:=X1 ht h1 hg
  refine ⟨[c],rfl,⟨⟨ob ++ [],?_,by simpa using h3⟩,h4⟩,by simp [hc]⟩
  rw [Qe t x' ht];simp only [QX,YQ,En,h2,XE]
 intro t
 induction t with
 | pair a b iha ihb =>
  intro cs g x ks r h hg;simp only [Sh.impB] at h;split at h
  . rename_i g1 y k1 q h1;split at h
    . rename_i g2 z k2 q' h2;simp only [QD,QG] at h;obtain ⟨rfl,rfl,rfl,rfl⟩:=h;simp only [QE] at hg;obtain ⟨p1,e1,c1,i1⟩:=iha _ _ _ _ _ h1 hg.1;obtain ⟨p2,e2,c2,i2⟩:=ihb _ _ _ _ _ h2 hg.2
      exact ⟨p1 ++ p2,by rw [e1,e2,ZP],c1.app c2,by simp [i1,i2]⟩
    . cases h
  . cases h
 | st t ih=>intro cs g x ks r h hg;exact ih _ _ _ _ _ h hg
 | unit =>
  intro cs g x ks r h _;simp only [Sh.impB,QD,QG] at h;obtain ⟨_,_,rfl,rfl⟩:=h
  exact ⟨[],rfl,⟨⟨[],rfl,by simp⟩,by simp⟩,rfl⟩
 | int k=>intro cs g x ks r h hg;cases cs with | nil=>simp [Sh.impB] at h | cons c cs=>exact cell _ _ _ _ _ _ _ rfl h hg
 | bool=>intro cs g x ks r h hg;cases cs with | nil=>simp [Sh.impB] at h | cons c cs=>exact cell _ _ _ _ _ _ _ rfl h hg
 | str=>intro cs g x ks r h hg;cases cs with | nil=>simp [Sh.impB] at h | cons c cs=>exact cell _ _ _ _ _ _ _ rfl h hg
 | nil=>intro cs g x ks r h hg;cases cs with | nil=>simp [Sh.impB] at h | cons c cs=>exact cell _ _ _ _ _ _ _ rfl h hg
 | fn f=>intro cs g x ks r h hg;cases cs with | nil=>simp [Sh.impB] at h | cons c cs=>exact cell _ _ _ _ _ _ _ rfl h hg
 | sl t _=>intro cs g x ks r h hg;cases cs with | nil=>simp [Sh.impB] at h | cons c cs=>exact cell _ _ _ _ _ _ _ rfl h hg
 | ref t _=>intro cs g x ks r h hg;cases cs with | nil=>simp [Sh.impB] at h | cons c cs=>exact cell _ _ _ _ _ _ _ rfl h hg
 | clo f c _=>intro cs g x ks r h hg;cases cs with | nil=>simp [Sh.impB] at h | cons v cs=>exact cell _ _ _ _ _ _ _ rfl h hg
theorem Fg {L:Nat->Nat} {v:SV} (h:v.cellB = true):v.s L = .v (.one (v.c L)) /\ v.v L = .one (v.c L):=by cases v <;> first | exact ⟨rfl,rfl⟩ | cases h
theorem Oi {bs:List (Nat × B3)} {t:Sh} {v:SV} {g:Bool} {x:t.den} {ks:List Nat} (h:Wy bs t v = some (g,x,ks)) (hg:g = true) :
  v.s (A3 bs) = .v (v.v (A3 bs)) /\ (∃ ob,Io (A0 · (Ag (B3.box (A3 bs)) bs)) (v.v (A3 bs)) (t.v x) = some (ob,ks) /\ ∀ p ∈ ob,p) /\ ∀ k ∈ ks,k < 1000 /\ (A0 k bs).isSome = true:=by
 unfold Wy at h
 cases ht:t.one with
 | true =>
  rw [ht] at h;obtain ⟨hc,⟨ob,h1,h2⟩,h3⟩:=X1 ht h hg;obtain ⟨e1,e2⟩:=Fg (L:=A3 bs) hc
  refine ⟨by rw [e1,e2],⟨ob,?_,h2⟩,h3⟩
  simp only [e2,Sh.v,ht,cond,Io,h1]
 | false =>
  rw [ht] at h;simp only [cond] at h;split at h
  . rename_i cs;split at h
    . rename_i g1 y k1 hi;simp only [QD,QG] at h;obtain ⟨rfl,rfl,rfl⟩:=h;obtain ⟨pre,e,⟨⟨ob,h1,h2⟩,h3⟩,_⟩:=B1u _ _ _ _ _ _ hi hg;rw [XE] at e;subst e;refine ⟨rfl,⟨ob,?_,h2⟩,h3⟩;simp only [SV.v,Sh.v,ht,cond,Io,h1]
    . cases h
  . cases h
theorem Ti {bs:List (Nat × B3)} {L:Nat->Nat} {ks:List Nat} (h:∀ k ∈ ks,k < 1000 /\ (A0 k bs).isSome = true):Ge (Ag (B3.box L) bs) ks = true:=by
 unfold Ge;refine QM.2 fun k hk=>?_;obtain ⟨h1,h2⟩:=h k hk;rw [Ac,KU,h2];simpa [ZQ] using h1
theorem Qp {s s':St3} {nt:Nat} {t:Nat} {sh:Sh} {g:Bool} (h:Lu s t sh = some (g,s')) (hg:g = true) :
  ∃ (x':V) (ob:List Prop),Ui (s.st nt) t x' = some (s'.st nt,ob) /\ ∀ p ∈ ob,p:=by
 unfold Lu at h;split at h
 . rename_i v hv;split at h
   . rename_i g1 x ks hc;simp only [QD,QG] at h;obtain ⟨rfl,rfl⟩:=h;obtain ⟨h1,⟨ob,h2,h3⟩,h4⟩:=Oi hc hg;refine ⟨sh.v x,ob,?_,h3⟩
     have hl:A0 t (s.st nt).slots = some (.v (v.v (A3 s.boxes))):=by
      simp only [St3.st,Ac,hv,QP,h1]
     have h2':Io (A0 · (s.st nt).boxes) (v.v (A3 s.boxes)) (sh.v x) = some (ob,ks):=h2;have hz:Ge (s.st nt).boxes ks = true:=Ti h4;simp only [Ui,hl,h2',hz,cond,QD,QG,and_true];simp only [St3.st];congr 1
     . rw [Cs,<- (I1 (L:=A3 s.boxes) sh x).2,Cz]
     . rw [Cs];exact Ga _ _ _
   . cases h
 . cases h
inductive TS where
 | d (t:Sh)
 | ag (t:Sh)
 | k (v:SV)
 | hs (h:Nat)
@[reducible] def TS.den:TS->Type
 | .d t=>t.den
 | .ag t=>t.den
 | .k _=>Unit
 | .hs _=>Nat × Nat
def TS.enc:(t:TS)->t.den->SV
 | .d t,x=>.d t x
 | .ag t,x=>.agg (t.exp x)
 | .k v,_=>v
 | .hs h,x=>.hs h x.1 x.2
def SV.same:SV->SV->Bool
 | .hw h,.hw h'=>Nat.beq h h'
 | .hp h r c,.hp h' r' c'=>Nat.beq h h' && Nat.beq r r' && Nat.beq c c'
 | .dead,_=>true
 | .d t _,.d t' _=>(match t with
  | .nil=>true
  | .fn _=>true
  | _=>false) && t.eqb t'
 | _,_=>false
def TS.dec:(t:TS)->SV->Option t.den
 | .d t,v=>match v with
  | .rf cs=>match t with
   | .ref t0=>bif cs.all SV.isD then t0.all false cs else none
   | _=>none
  | v=>bif t.one then v.as true t else none
 | .ag t,v=>match v with
  | .agg cs=>t.all true cs
  | _=>none
 | .k c,v=>bif c.same v then some () else none
 | .hs h,v=>match v with
  | .hs h' o l=>bif Nat.beq h h' then some (o,l) else none
  | _=>none
inductive TB where
 | arr (e:TypeId) (t:Sh) (fz:Bool)
 | var (e:TypeId) (hf fz:Bool) (cs:List TS)
 | tree (e:TypeId) (t:Sh) (fz:Bool)
@[reducible] def DL:List TS->Type
 | []=>Unit
 | t :: r=>t.den × DL r
def Im:(l:List TS)->DL l->List SV
 | [],_=>[]
 | t :: r,x=>t.enc x.1 :: Im r x.2
def A8j:(l:List TS)->List SV->Option (DL l)
 | [],[]=>some ()
 | t :: r,v :: vs=>match t.dec v,A8j r vs with
  | some x,some xs=>some (x,xs)
  | _,_=>none
 | _,_=>none
@[reducible] def TB.den:TB->Type
 | .arr _ t _=>List t.den
 | .var _ _ _ cs=>DL cs
 | .tree _ t _=>List t.den
def TB.enc:(b:TB)->b.den->B3
 | .arr e t fz,xs=>.arr e t fz xs
 | .var e hf fz cs,xs=>.var e hf fz (Im cs xs)
 | .tree e t fz,xs=>.tree e t fz xs
def TB.dec:(b:TB)->B3->Option b.den
 | .arr e t fz,b=>match b with
  | .arr e' t' fz' xs=>bif Nat.beq e e' && (fz == fz') then (Sh.sl t').to (.sl t) xs else none
  | .rep e' fz' n cs=>bif Nat.beq e e' && (fz == fz') then (t.all true cs).map fun x=>List.replicate n x else none
  | _=>none
 | .var e hf fz cs,b=>match b with
  | .var e' hf' fz' vs=>bif Nat.beq e e' && (hf == hf') && (fz == fz') && vs.all SV.cellB then (match A8j cs vs with
   | some x=>bif (Im cs x).all SV.cellB && (!hf || (Im cs x).all SV.imm) then some x else none
   | none=>none) else none
  | _=>none
 | .tree e t fz,b=>match b with
  | .tree e' t' fz' xs=>bif Nat.beq e e' && (fz == fz') then (Sh.sl t').to (.sl t) xs else none
  | _=>none
@[reducible] def DK (β:Type) (den:β->Type):List (Nat × β)->Type
 | []=>Unit
 | (_,t) :: r=>den t × DK β den r
def Agy:(l:List (Nat × TS))->DK TS TS.den l->List (Nat × SV)
 | [],_=>[]
 | (k,t) :: r,x=>(k,t.enc x.1) :: Agy r x.2
def A8i:(l:List (Nat × TS))->List (Nat × SV)->Option (DK TS TS.den l)
 | [],[]=>some ()
 | (k,t) :: r,(j,v) :: vs=>bif Nat.beq k j then (match t.dec v,A8i r vs with
  | some x,some xs=>some (x,xs)
  | _,_=>none) else none
 | _,_=>none
def T5:(l:List (Nat × TB))->DK TB TB.den l->List (Nat × B3)
 | [],_=>[]
 | (k,t) :: r,x=>(k,t.enc x.1) :: T5 r x.2
def A8k:(l:List (Nat × TB))->List (Nat × B3)->Option (DK TB TB.den l)
 | [],[]=>some ()
 | (k,t) :: r,(j,v) :: vs=>bif Nat.beq k j then (match t.dec v,A8k r vs with
  | some x,some xs=>some (x,xs)
  | _,_=>none) else none
 | _,_=>none
structure Tm where
 slots:List (Nat × TS)
 boxes:List (Nat × TB):=[]
 drop:List Nat:=[]
 fz:List (Nat × Sh):=[]
@[reducible] def Tm.den (X:Tm):Type:=DK TS TS.den X.slots × DK TB TB.den X.boxes
def Tm.enc (X:Tm) (x:X.den):St3:=⟨Agy X.slots x.1,T5 X.boxes x.2⟩
def Qz:List (Nat × TS)->List (Nat × SV)->List (Nat × SV)
 | X,sl=>sl.filter fun p=>X.any fun q=>Nat.beq q.1 p.1
def Ac6:List Nat->St3->Option St3
 | [],s=>some s
 | h :: r,s=>bif Nat.blt h 1000 && s.clean h then Ac6 r { s with boxes:=Bu h s.boxes } else none
def J2:List (Nat × Sh)->St3->Option St3
 | [],s=>some s
 | (t,sh) :: r,s=>match A0 t s.slots with
  | some (.d _ _)=>J2 r s
  | _=>match Lu s t sh with
   | some (g,s1)=>bif g then J2 r s1 else none
   | none=>none
def Tm.dec1 (X:Tm) (s:St3):Option X.den :=
 match Ac6 X.drop { s with slots:=Qz X.slots s.slots } with
 | some s2=>match A8i X.slots s2.slots,A8k X.boxes s2.boxes with
  | some x,some y=>some (x,y)
  | _,_=>none
 | none=>none
def Tm.dec (X:Tm) (s:St3):Option X.den :=
 match J2 X.fz s with
 | some s1=>X.dec1 s1
 | none=>none
end Go.Ev

/- DERIVED. Calls that are handed boxes or hand out boxes, over shapes. -/
namespace Go.Ev
open Go
variable {P:Program} {T:Ty}
inductive CK where
 | im (t:Sh)
 | own (e:TypeId) (t:Sh)
 | ptr (e:TypeId) (t:Sh)
 | back (k:Nat)
 | win (e:TypeId) (t:Sh)
 | tree (e:TypeId) (t:Sh)
 | emp (t:Sh)
@[reducible] def CK.den:CK->Type
 | .im t=>t.den
 | .own _ t=>List t.den
 | .ptr _ t=>t.den
 | .back _=>Unit
 | .win _ t=>List t.den × Nat × Nat
 | .tree _ t=>List t.den
 | .emp _=>Unit
@[reducible] def DC:List CK->Type
 | []=>Unit
 | [c]=>c.den
 | c :: d :: r=>c.den × DC (d :: r)
inductive PK where
 | im (t:Sh)
 | one (c:CK)
 | mix (cs:List CK)
@[reducible] def PK.den:PK->Type
 | .im t=>t.den
 | .one c=>c.den
 | .mix cs=>DC cs
@[reducible] def HP:List PK->Type
 | []=>Unit
 | [p]=>p.den
 | p :: q :: r=>p.den × HP (q :: r)
def CK.sv (k:Nat):(c:CK)->c.den->SV
 | .im t,x=>.d t x
 | .own _ _,_=>.hw k
 | .ptr _ _,_=>.hp k 0 0
 | .back j,_=>.hw j
 | .win _ _,x=>.hs k x.2.1 x.2.2
 | .tree _ _,_=>.hw k
 | .emp t,_=>.d (.sl t) []
def CK.bx (k:Nat):(c:CK)->c.den->List (Nat × B3)
 | .own e t,xs=>[(k,.arr e t false xs)]
 | .ptr e t,x=>[(k,.var e true false (t.exp x))]
 | .win e t,x=>[(k,.arr e t false x.1)]
 | .tree e t,xs=>[(k,.tree e t false xs)]
 | _,_=>[]
def Ue (k:Nat):(cs:List CK)->DC cs->List SV
 | [],_=>[]
 | [c],x=>[c.sv k x]
 | c :: d :: r,x=>c.sv k x.1 :: Ue (k + 1) (d :: r) x.2
def L7 (k:Nat):(cs:List CK)->DC cs->List (Nat × B3)
 | [],_=>[]
 | [c],x=>c.bx k x
 | c :: d :: r,x=>c.bx k x.1 ++ L7 (k + 1) (d :: r) x.2
def PK.n:PK->Nat
 | .mix cs=>cs.length
 | _=>1
def PK.isIm:PK->Bool
 | .im _=>true
 | _=>false
def PK.sv (k:Nat):(p:PK)->p.den->SV
 | .im t,x=>t.sv x
 | .one c,x=>c.sv k x
 | .mix cs,x=>.agg (Ue k cs x)
def PK.bx (k:Nat):(p:PK)->p.den->List (Nat × B3)
 | .im _,_=>[]
 | .one c,x=>c.bx k x
 | .mix cs,x=>L7 k cs x
def Bp (k:Nat):(ps:List PK)->HP ps->List SV
 | [],_=>[]
 | [p],x=>[p.sv k x]
 | p :: q :: r,x=>p.sv k x.1 :: Bp (k + p.n) (q :: r) x.2
def Cu (k:Nat):(ps:List PK)->HP ps->List (Nat × B3)
 | [],_=>[]
 | [p],x=>p.bx k x
 | p :: q :: r,x=>p.bx k x.1 ++ Cu (k + p.n) (q :: r) x.2
def CK.owns (k:Nat):CK->List (Nat × CK)
 | .own e t=>[(k,.own e t)]
 | .ptr e t=>[(k,.ptr e t)]
 | .win e t=>[(k,.own e t)]
 | .tree e t=>[(k,.tree e t)]
 | _=>[]
def Am5 (k:Nat):List CK->List (Nat × CK)
 | []=>[]
 | c :: r=>c.owns k ++ Am5 (k + 1) r
def PK.owns (k:Nat):PK->List (Nat × CK)
 | .im _=>[]
 | .one c=>c.owns k
 | .mix cs=>Am5 k cs
def Am (k:Nat):List PK->List (Nat × CK)
 | []=>[]
 | p :: r=>p.owns k ++ Am (k + p.n) r
@[reducible] def DO:List (Nat × CK)->Type
 | []=>Unit
 | [p]=>p.2.den
 | p :: q :: r=>p.2.den × DO (q :: r)
def bxO:(os:List (Nat × CK))->DO os->List (Nat × B3)
 | [],_=>[]
 | [p],x=>p.2.bx p.1 x
 | p :: q :: r,x=>p.2.bx p.1 x.1 ++ bxO (q :: r) x.2
@[reducible] def HR (rs:List PK):List (Nat × CK)->Type
 | []=>HP rs
 | p :: r=>HP rs × DO (p :: r)
def Lb {rs:List PK}:{os:List (Nat × CK)}->HR rs os->HP rs
 | [],y=>y
 | _ :: _,y=>y.1
def B0b {rs:List PK}:{os:List (Nat × CK)}->HR rs os->DO os
 | [],_=>()
 | _ :: _,y=>y.2
structure Iy where
 f:Nat
 ts:List PK
 rs:List PK
def Jb (E:Iy) (x:HP E.ts):List (Nat × B3):=Cu 1000 E.ts x
def Ay (E:Iy) (y:HR E.rs (Am 1000 E.ts)):List (Nat × B3):=Cu 0 E.rs (Lb y) ++ bxO (Am 1000 E.ts) (B0b y)
def Br (bs:List (Nat × B3)):List (Nat × Box):=Ag (B3.box (A3 bs)) bs
def Iy.Den (P:Program) (E:Iy) (nt:Nat) (x:HP E.ts) (y:HR E.rs (Am 1000 E.ts)):Prop :=
 Ix P E.f nt [] (Br (Jb E x)) ((Bp 1000 E.ts x).map (SV.v (A3 (Jb E x)))) ((Gt (Bp 0 E.rs (Lb y))).s (A3 (Ay E y))) nt (Br (Ay E y))
@[reducible] def HF (os:List (Nat × CK)):List (List PK)->Type
 | []=>Unit
 | [rs]=>HR rs os
 | rs :: r :: q=>HR rs os ⊕ HF os (r :: q)
def Ez {A B α:Type} (z:A ⊕ B) (f:A->Option α) (g:B->Option α):Option α:=match z with
 | .inl a=>f a
 | .inr b=>g b
def Ir {α:Type} (os:List (Nat × CK)):(fs:List (List PK))->HF os fs->((rs:List PK)->HR rs os->Option α)->Option α
 | [],_,_=>none
 | [rs],y,k=>k rs y
 | rs :: r :: q,z,k=>Ez z (fun y=>k rs y) (fun z=>Ir os (r :: q) z k)
def A8w (os:List (Nat × CK)):(fs:List (List PK))->HF os fs->((rs:List PK)->HR rs os->Prop)->Prop
 | [],_,_=>True
 | [rs],y,k=>k rs y
 | rs :: _ :: _,.inl y,k=>k rs y
 | _ :: r :: q,.inr z,k=>A8w os (r :: q) z k
theorem Lp {α:Type} {os:List (Nat × CK)} {p:(rs:List PK)->HR rs os->Prop}:∀ {fs:List (List PK)} {z:HF os fs} {k:(rs:List PK)->HR rs os->Option α} {r:α},Ir os fs z k = some r->A8w os fs z p->∃ rs y,k rs y = some r /\ p rs y
 | [],_,_,_,h,_=>by cases h
 | [rs],y,k,r,h,hp=>⟨rs,y,h,hp⟩
 | rs :: _ :: _,.inl y,k,r,h,hp=>⟨rs,y,h,hp⟩
 | _ :: r :: q,.inr z,k,_,h,hp=>Lp (fs:=r :: q) h hp
structure Ent3 where
 f:Nat
 ts:List PK
 forms:List (List PK)
 m:HP ts->Option (HF (Am 1000 ts) forms)
def Ent3.Sound (P:Program) (E:Ent3):Prop:=∀ (nt:Nat) (x:HP E.ts) (z:HF (Am 1000 E.ts) E.forms),E.m x = some z->A8w (Am 1000 E.ts) E.forms z fun rs y=>Iy.Den P ⟨E.f,E.ts,rs⟩ nt x y
def Ib (rn:List (Nat × Nat)) (k:Nat):Nat:=match A0 k rn with
 | some h=>h
 | none=>0
def It:List (Nat × Nat)->Nat->Option Nat
 | [],_=>none
 | (k,h') :: r,h=>bif Nat.beq h' h then some k else It r h
def El:List (Nat × Nat)->Bool
 | []=>true
 | (k,h) :: r=>r.all (fun p=>!Nat.beq p.1 k && !Nat.beq p.2 h) && El r
def Bw {β:Type}:List (Nat × β)->List (Nat × Nat)->Bool
 | [],[]=>true
 | (k,_) :: B,(k',_) :: R=>Nat.beq k k' && Bw B R
 | _,_=>false
def V3:List (Nat × B3)->List (Nat × Nat)->List (Nat × B3)->List (Nat × B3)
 | (_,b) :: B,(_,h) :: R,bs=>Ah h b (V3 B R bs)
 | _,_,bs=>bs
theorem Kw {a b:Nat} (h:Nat.beq a b = false):a ≠ b:=fun e=>by subst e;simp at h
theorem Gs {a b:Nat} (h:a ≠ b):Nat.beq a b = false:=by cases hb:Nat.beq a b with | false=>rfl | true=>exact absurd (QC hb) h
theorem K1 {k h:Nat} {r:List (Nat × Nat)} (hg:El ((k,h) :: r) = true):(∀ p ∈ r,p.1 ≠ k /\ p.2 ≠ h) /\ El r = true:=by
 simp only [El,QE,QM,ZJ] at hg;exact ⟨fun p hp=>⟨Kw (hg.1 p hp).1,Kw (hg.1 p hp).2⟩,hg.2⟩
theorem Ce {β:Type}:∀ {rn:List (Nat × β)} {k:Nat} {h:β},A0 k rn = some h->(k,h) ∈ rn
 | [],_,_,e=>by cases e
 | (k',h') :: r,k,h,e=>by
  simp only [A0] at e
  cases hb:Nat.beq k' k with
  | true=>rw [hb] at e;obtain rfl:=QA e;rw [QC hb];exact YM
  | false=>rw [hb] at e;exact ZW _ (Ce e)
theorem Yx:∀ {rn:List (Nat × Nat)} {k h:Nat},It rn h = some k->(k,h) ∈ rn
 | [],_,_,e=>by cases e
 | (k',h') :: r,k,h,e=>by
  simp only [It] at e
  cases hb:Nat.beq h' h with
  | true=>rw [hb] at e;obtain rfl:=QA e;rw [QC hb];exact YM
  | false=>rw [hb] at e;exact ZW _ (Yx e)
theorem Mi:∀ {rn:List (Nat × Nat)} {k h:Nat},El rn = true->(k,h) ∈ rn->A0 k rn = some h /\ It rn h = some k
 | [],_,_,_,e=>by cases e
 | (k',h') :: r,k,h,hg,e=>by
  obtain ⟨h1,h2⟩:=K1 hg;simp only [A0,It];rcases QT.1 e with e | e
  . obtain ⟨rfl,rfl⟩:=YT e;simp only [XA,cond];exact ⟨trivial,trivial⟩
  . obtain ⟨e1,e2⟩:=Mi h2 e;rw [Gs (h1 _ e).1.symm,Gs (h1 _ e).2.symm];exact ⟨e1,e2⟩
theorem Ex {β:Type}:∀ {B:List (Nat × β)} {R:List (Nat × Nat)},Bw B R = true->∀ k,(A0 k B).isSome = (A0 k R).isSome
 | [],[],_,_=>rfl
 | (k1,b) :: B,(k2,h) :: R,e,k=>by
  simp only [Bw,QE] at e;obtain rfl:=QC e.1;simp only [A0]
  cases Nat.beq k1 k with
  | true=>rfl
  | false=>exact Ex e.2 k
 | [],_ :: _,e,_=>by simp [Bw] at e
 | _ :: _,[],e,_=>by simp [Bw] at e
theorem Uv {β:Type}:∀ {B:List (Nat × β)} {R:List (Nat × Nat)} {k:Nat} {b:β},Bw B R = true->El R = true->(k,b) ∈ B->A0 k B = some b
 | [],_,_,_,_,_,e=>by cases e
 | (k1,b1) :: B,(k2,h) :: R,k,b,hs,hg,e=>by
  simp only [Bw,QE] at hs;obtain rfl:=QC hs.1;obtain ⟨h1,h2⟩:=K1 hg;simp only [A0];rcases QT.1 e with e | e
  . obtain ⟨rfl,rfl⟩:=YT e;simp only [XA,cond]
  . have:=Uv hs.2 h2 e
    have hk:(A0 k R).isSome = true:=by rw [<- Ex hs.2 k,this];rfl
    obtain ⟨h',hh⟩:=ZC.1 hk;rw [Gs (h1 _ (Ce hh)).1.symm];exact this
 | _ :: _,[],_,_,hs,_,_=>by simp [Bw] at hs
theorem Zl:∀ {B:List (Nat × B3)} {R:List (Nat × Nat)} {bs:List (Nat × B3)},Bw B R = true->El R = true->∀ h,A0 h (V3 B R bs) = match It R h with | some k=>A0 k B | none=>A0 h bs
 | [],[],_,_,_,h=>rfl
 | (k1,b) :: B,(k2,h2) :: R,bs,hs,hg,h=>by
  simp only [Bw,QE] at hs;obtain rfl:=QC hs.1;obtain ⟨g1,g2⟩:=K1 hg;simp only [V3,It]
  cases hb:Nat.beq h2 h with
  | true =>
   obtain rfl:=QC hb;simp only [cond,A7,A0,XA]
  | false =>
   simp only [cond];rw [A9 _ _ (Kw hb).symm,Zl hs.2 g2 h]
   cases hw:It R h with
   | none=>rfl
   | some k =>
    simp only [A0];rw [Gs (g1 _ (Yx hw)).1.symm];rfl
 | [],_ :: _,_,e,_,_=>by simp [Bw] at e
 | _ :: _,[],_,e,_,_=>by simp [Bw] at e
def Qg (bs:List (Nat × B3)) (k:Nat):(c:CK)->SV->Option (c.den × List (Nat × Nat))
 | .im t,v=>bif t.one then (v.as true t).map fun x=>(x,[]) else none
 | .own e t,.hw h=>match A0 h bs with
  | some (.arr e' sh false xs)=>bif Nat.beq e e' then ((Sh.sl sh).to (.sl t) xs).map fun x=>(x,[(k,h)]) else none
  | _=>none
 | .ptr e t,.hp h 0 0=>match A0 h bs with
  | some (.var e' true false cs)=>bif Nat.beq e e' && cs.all SV.isD then (t.all false cs).map fun x=>(x,[(k,h)]) else none
  | _=>none
 | .tree e t,.hw h=>match A0 h bs with
  | some (.tree e' sh false xs)=>bif Nat.beq e e' then ((Sh.sl sh).to (.sl t) xs).map fun x=>(x,[(k,h)]) else none
  | _=>none
 | .win e t,.hs h off len=>match A0 h bs with
  | some (.arr e' sh false xs)=>bif Nat.beq e e' then ((Sh.sl sh).to (.sl t) xs).map fun x=>((x,off,len),[(k,h)]) else none
  | _=>none
 | _,_=>none
def Fy (bs:List (Nat × B3)) (k:Nat):(cs:List CK)->List SV->Option (DC cs × List (Nat × Nat))
 | [],[]=>some ((),[])
 | [c],[v]=>Qg bs k c v
 | c :: d :: r,v :: vs=>match Qg bs k c v,Fy bs (k + 1) (d :: r) vs with
  | some (x,q),some (y,q')=>some ((x,y),q ++ q')
  | _,_=>none
 | _,_=>none
def A8m (bs:List (Nat × B3)) (k:Nat):(p:PK)->SV->Option (Bool × p.den × List Nat × List (Nat × Nat))
 | .im t,v=>(A3f bs t v).map fun q=>(q.1,q.2.1,q.2.2,[])
 | .one c,v=>(Qg bs k c v).map fun q=>(true,q.1,[],q.2)
 | .mix cs,.agg vs=>(Fy bs k cs vs).map fun q=>(true,q.1,[],q.2)
 | _,_=>none
def Lr (bs:List (Nat × B3)) (k:Nat):(ps:List PK)->List SV->Option (Bool × HP ps × List Nat × List (Nat × Nat))
 | [],[]=>some (true,(),[],[])
 | [p],[v]=>A8m bs k p v
 | p :: q :: r,v :: vs=>match A8m bs k p v,Lr bs (k + p.n) (q :: r) vs with
  | some (g,x,l,n),some (g',y,l',n')=>some (g && g',(x,y),l ++ l',n ++ n')
  | _,_=>none
 | _,_=>none
def G6 (bs B:List (Nat × B3)) (q:List (Nat × Nat)):Prop :=
 ∀ k b,(k,b) ∈ B->∃ h b',(k,h) ∈ q /\ A0 h bs = some b' /\ b'.len = b.len /\ (∀ L L',b'.box L = b.box L') /\ ∀ L,(b.box L).fz = false /\ (b.box L).hf = true
theorem G6.app {bs B B':List (Nat × B3)} {q q':List (Nat × Nat)} (h:G6 bs B q) (h':G6 bs B' q'):G6 bs (B ++ B') (q ++ q'):=by
 intro k b hb;rcases QF.1 hb with hb | hb
 . obtain ⟨x,y,h1,h2⟩:=h k b hb;exact ⟨x,y,QF.2 (.inl h1),h2⟩
 . obtain ⟨x,y,h1,h2⟩:=h' k b hb;exact ⟨x,y,QF.2 (.inr h1),h2⟩
theorem Tf {bs:List (Nat × B3)} {hd:Nat->Nat->Bool} {L:Nat->Nat} {k:Nat} {c:CK} {v:SV} {x:c.den} {q:List (Nat × Nat)} (h:Qg bs k c v = some (x,q))
  (hq:∀ p ∈ q,hd p.1 p.2 = true) (hL:∀ k' b,(k',b) ∈ c.bx k x->L k' = b.len) :
  v.cellB = true /\ (∃ ob,Oy hd (A0 · (Ag (B3.box (A3 bs)) bs)) (v.c (A3 bs)) ((c.sv k x).c L) = some (ob,[]) /\ ∀ p ∈ ob,p) /\ (c.sv k x).cellB = true /\ G6 bs (c.bx k x) q:=by
 unfold Qg at h;split at h
 . rename_i t
   cases ht:t.one with
   | false=>rw [ht] at h;cases h
   | true =>
    rw [ht] at h;simp only [cond,QB,QG] at h;obtain ⟨y,hy,rfl,rfl⟩:=h;obtain ⟨q1,ob,q2,q3⟩:=Qh (L:=A3 bs) ht hy
    refine ⟨O3 q1,⟨ob,?_,q3⟩,ht,fun k b hb=>by cases hb⟩
    have hc:=B0j (L:=A3 bs) q1;rw [hc] at q2 ⊢;simp only [CK.sv,SV.c,Oy,Gm,V.noH,By,ZD,cond,A03,q2,QP]
 . rename_i e t hh;split at h
   . rename_i e' sh xs hl
     cases he:Nat.beq e e' with
     | false=>rw [he] at h;cases h
     | true =>
      rw [he] at h;simp only [cond,QB,QG] at h;obtain ⟨y,hy,rfl,rfl⟩:=h;obtain ⟨rfl,rfl⟩:=Dl hy;obtain rfl:=QC he
      have hle:A3 bs hh = xs.length:=by simp [A3,hl,B3.len]
      have hk:L k = xs.length:=hL k (.arr e sh false xs) (by simp [CK.bx])
      refine ⟨rfl,⟨[0 = 0,A3 bs hh = L k],?_,by simp [hle,hk]⟩,rfl,fun k' b hb=>?_⟩
      . simp only [CK.sv,SV.c,Oy,hq (k,hh) (by simp),cond]
      . simp only [CK.bx,QQ,QG] at hb;obtain ⟨rfl,rfl⟩:=hb
        exact ⟨hh,_,by simp,hl,rfl,fun _ _=>rfl,fun _=>⟨rfl,rfl⟩⟩
   . cases h
 . rename_i e t hh;split at h
   . rename_i e' cs hl
     cases he:(Nat.beq e e' && cs.all SV.isD) with
     | false=>rw [he] at h;cases h
     | true =>
      rw [he] at h;simp only [cond,QB,QG] at h;obtain ⟨y,hy,rfl,rfl⟩:=h;simp only [QE] at he;obtain rfl:=QC he.1;obtain ⟨a1,_,_,a4⟩:=Cf hy
      refine ⟨rfl,⟨[0 = 0,0 = 0],?_,by simp⟩,rfl,fun k' b hb=>?_⟩
      . simp only [CK.sv,SV.c,Oy,hq (k,hh) (by simp),cond]
      . simp only [CK.bx,QQ,QG] at hb;obtain ⟨rfl,rfl⟩:=hb
        refine ⟨hh,_,by simp,hl,rfl,fun L1 L2=>?_,fun _=>⟨rfl,rfl⟩⟩
        simp only [B3.box,a1,Il,A8f,a4]
   . cases h
 . rename_i e t hh;split at h
   . rename_i e' sh xs hl
     cases he:Nat.beq e e' with
     | false=>rw [he] at h;cases h
     | true =>
      rw [he] at h;simp only [cond,QB,QG] at h;obtain ⟨y,hy,rfl,rfl⟩:=h;obtain ⟨rfl,rfl⟩:=Dl hy;obtain rfl:=QC he
      have hle:A3 bs hh = xs.length:=by simp [A3,hl,B3.len]
      have hk:L k = xs.length:=hL k (.tree e sh false xs) (by simp [CK.bx])
      refine ⟨rfl,⟨[0 = 0,A3 bs hh = L k],?_,by simp [hle,hk]⟩,rfl,fun k' b hb=>?_⟩
      . simp only [CK.sv,SV.c,Oy,hq (k,hh) (by simp),cond]
      . simp only [CK.bx,QQ,QG] at hb;obtain ⟨rfl,rfl⟩:=hb
        exact ⟨hh,_,by simp,hl,rfl,fun _ _=>rfl,fun _=>⟨rfl,rfl⟩⟩
   . cases h
 . rename_i e t hh off len;split at h
   . rename_i e' sh xs hl
     cases he:Nat.beq e e' with
     | false=>rw [he] at h;cases h
     | true =>
      rw [he] at h;simp only [cond,QB,QG] at h;obtain ⟨y,hy,rfl,rfl⟩:=h;obtain ⟨rfl,rfl⟩:=Dl hy;obtain rfl:=QC he
      refine ⟨rfl,⟨[off = off,len = len],?_,by simp⟩,rfl,fun k' b hb=>?_⟩
      . simp only [CK.sv,SV.c,Oy,hq (k,hh) (by simp),cond]
      . simp only [CK.bx,QQ,QG] at hb;obtain ⟨rfl,rfl⟩:=hb
        exact ⟨hh,_,by simp,hl,rfl,fun _ _=>rfl,fun _=>⟨rfl,rfl⟩⟩
   . cases h
 . cases h
theorem Zr {bs:List (Nat × B3)} {hd:Nat->Nat->Bool} {L:Nat->Nat}:∀ {cs:List CK} {k:Nat} {vs:List SV} {x:DC cs} {q:List (Nat × Nat)},Fy bs k cs vs = some (x,q) ->
  (∀ p ∈ q,hd p.1 p.2 = true)->(∀ k' b,(k',b) ∈ L7 k cs x->L k' = b.len) ->
  (∃ ob,Ls hd (A0 · (Ag (B3.box (A3 bs)) bs)) (vs.map (SV.c (A3 bs))) ((Ue k cs x).map (SV.c L)) = some (ob,[]) /\ ∀ p ∈ ob,p) /\ G6 bs (L7 k cs x) q
 | [],k,[],x,q,h,_,_=>⟨⟨[],rfl,by simp⟩,fun k b hb=>by cases hb⟩
 | [],k,_ :: _,_,_,h,_,_=>by simp [Fy] at h
 | [c],k,[],_,_,h,_,_=>by simp [Fy] at h
 | [c],k,[v],x,q,h,hq,hL=>by
  obtain ⟨_,⟨ob,h1,h2⟩,_,h3⟩:=Tf (hd:=hd) (L:=L) (x:=x) h hq hL
  refine ⟨⟨ob ++ [],?_,by simpa using h2⟩,h3⟩
  simp only [Ue,QX,YQ,Ls,h1,XE]
 | [c],k,v :: w :: r,_,_,h,_,_=>by simp [Fy] at h
 | c :: d :: r,k,[],_,_,h,_,_=>by simp [Fy] at h
 | c :: d :: r,k,v :: vs,x,q,h,hq,hL=>by
  simp only [Fy] at h;split at h
  . rename_i x1 q1 y1 q2 h1 h2;simp only [QD,QG] at h;obtain ⟨rfl,rfl⟩:=h
    obtain ⟨_,⟨ob,a1,a2⟩,_,a3⟩:=Tf (hd:=hd) (L:=L) h1 (fun p hp=>hq p (QF.2 (.inl hp))) (fun k' b hb=>hL k' b (by simp only [L7];exact QF.2 (.inl hb)))
    obtain ⟨⟨ob',b1,b2⟩,b3⟩:=Zr (hd:=hd) (L:=L) h2 (fun p hp=>hq p (QF.2 (.inr hp))) (fun k' b hb=>hL k' b (by simp only [L7];exact QF.2 (.inr hb)))
    refine ⟨⟨ob ++ ob',?_,fun p hp=>(QF.1 hp).elim (a2 p) (b2 p)⟩,a3.app b3⟩;simp only [Ue,QX,Ls,a1,b1,XE]
  . cases h
theorem Ali {bs:List (Nat × B3)} {hd:Nat->Nat->Bool} {L:Nat->Nat} {k:Nat} {p:PK} {v:SV} {g:Bool} {x:p.den} {bor:List Nat} {q:List (Nat × Nat)} (h:A8m bs k p v = some (g,x,bor,q)) (hg:g = true)
  (hq:∀ p ∈ q,hd p.1 p.2 = true) (hL:∀ k' b,(k',b) ∈ p.bx k x->L k' = b.len) :
  (∃ ob,A3e hd (A0 · (Ag (B3.box (A3 bs)) bs)) p.isIm (v.s (A3 bs)) ((p.sv k x).v L) = some (ob,bor) /\ ∀ p ∈ ob,p) /\ (∀ k ∈ bor,∃ b,A0 k (Ag (B3.box (A3 bs)) bs) = some b /\ b.fz = false) /\ G6 bs (p.bx k x) q /\ v.alive = true:=by
 cases p with
 | im t =>
  simp only [A8m,QB,QG] at h;obtain ⟨⟨g',y,b⟩,h1,rfl,rfl,rfl,rfl⟩:=h;obtain ⟨ob,a1,a2,a3⟩:=A8n h1 hg
  refine ⟨⟨ob,?_,a2⟩,a3,(fun k b hb=>by cases hb),To h1⟩
  simp only [A3e,PK.isIm,cond,PK.sv,(I1 t y).1];exact a1
 | one c =>
  simp only [A8m,QB,QG] at h;obtain ⟨⟨y,b⟩,h1,rfl,rfl,rfl,rfl⟩:=h;obtain ⟨c1,⟨ob,a1,a2⟩,c2,a3⟩:=Tf (hd:=hd) (L:=L) h1 hq hL
  refine ⟨⟨ob,?_,a2⟩,by simp,a3,B2 fun e=>by subst e;cases c1⟩
  simp only [A3e,PK.isIm,cond,PK.sv,(Fg c1).1,(Fg c2).2];exact a1
 | mix cs =>
  cases v with
  | agg vs =>
   simp only [A8m] at h;simp only [QB,QG] at h;obtain ⟨⟨y,b⟩,h1,rfl,rfl,rfl,rfl⟩:=h;obtain ⟨⟨ob,a1,a2⟩,a3⟩:=Zr (hd:=hd) (L:=L) h1 hq hL
   refine ⟨⟨ob,?_,a2⟩,by simp,a3,rfl⟩
   simp only [A3e,PK.isIm,cond,PK.sv,SV.s,SV.v];exact a1
  | _=>cases h
theorem Ahh {bs:List (Nat × B3)} {hd:Nat->Nat->Bool} {L:Nat->Nat}:∀ {ps:List PK} {k:Nat} {vs:List SV} {g:Bool} {x:HP ps} {bor:List Nat} {q:List (Nat × Nat)},Lr bs k ps vs = some (g,x,bor,q)->g = true ->
  (∀ p ∈ q,hd p.1 p.2 = true)->(∀ k' b,(k',b) ∈ Cu k ps x->L k' = b.len) ->
  (∃ ob,He hd (A0 · (Ag (B3.box (A3 bs)) bs)) (ps.map PK.isIm) (vs.map (SV.s (A3 bs))) ((Bp k ps x).map (SV.v L)) = some (ob,bor) /\ ∀ p ∈ ob,p) /\ (∀ k ∈ bor,∃ b,A0 k (Ag (B3.box (A3 bs)) bs) = some b /\ b.fz = false) /\ G6 bs (Cu k ps x) q /\ ∀ v ∈ vs,v.alive = true
 | [],k,[],g,x,bor,q,h,_,_,_=>by
  simp only [Lr,QD,QG] at h;obtain ⟨_,_,rfl,rfl⟩:=h
  exact ⟨⟨[],rfl,by simp⟩,by simp,(fun k b hb=>by cases hb),by simp⟩
 | [],k,_ :: _,_,_,_,_,h,_,_,_=>by simp [Lr] at h
 | [p],k,[],_,_,_,_,h,_,_,_=>by simp [Lr] at h
 | [p],k,[v],g,x,bor,q,h,hg,hq,hL=>by
  obtain ⟨⟨ob,h1,h2⟩,h3,h4,h5⟩:=Ali (hd:=hd) (L:=L) (x:=x) h hg hq hL
  refine ⟨⟨ob ++ [],?_,by simpa using h2⟩,h3,h4,by simpa using h5⟩
  simp only [Bp,QX,YQ,He,h1,XE]
 | [p],k,v :: w :: r,_,_,_,_,h,_,_,_=>by simp [Lr] at h
 | p :: p2 :: r,k,[],_,_,_,_,h,_,_,_=>by simp [Lr] at h
 | p :: p2 :: r,k,v :: vs,g,x,bor,q,h,hg,hq,hL=>by
  simp only [Lr] at h;split at h
  . rename_i g1 x1 l1 q1 g2 y1 l2 q2 h1 h2;simp only [QD,QG] at h;obtain ⟨rfl,rfl,rfl,rfl⟩:=h;simp only [QE] at hg
    obtain ⟨⟨ob,a1,a2⟩,a3,a4,a5⟩:=Ali (hd:=hd) (L:=L) h1 hg.1 (fun p hp=>hq p (QF.2 (.inl hp))) (fun k' b hb=>hL k' b (by simp only [Cu];exact QF.2 (.inl hb)))
    obtain ⟨⟨ob',b1,b2⟩,b3,b4,b5⟩:=Ahh (hd:=hd) (L:=L) h2 hg.2 (fun p hp=>hq p (QF.2 (.inr hp))) (fun k' b hb=>hL k' b (by simp only [Cu];exact QF.2 (.inr hb)))
    refine ⟨⟨ob ++ ob',?_,fun p hp=>(QF.1 hp).elim (a2 p) (b2 p)⟩,fun j hj=>(QF.1 hj).elim (a3 j) (b3 j),a4.app b4,by simpa using ⟨a5,b5⟩⟩
    simp only [QX] at b1;simp only [Bp,QX,He,a1,b1]
  . cases h
end Go.Ev

/- DERIVED. A state that a template takes may be read as the template's. -/
namespace Go.Ev
open Go
variable {P:Program} {T:Ty}
def Gn (x x':S):Prop:=∀ (w:World) (E:Env) (v:Value),Rs w E v x->Rs w E v x'
def Er (c c':C):Prop:=∀ (w:World) (E:Env) (v:Value),Rc w E v c->Rc w E v c'
structure Aho (b b':Box):Prop where
 e:b'.e = b.e
 sz:b'.sz = b.sz
 fz:b'.fz = b.fz
 tr:b'.tr = b.tr
 trr:b'.tr = true->b'.rows = b.rows
 len:b'.rows.length = b.rows.length
 rows:∀ (i:Nat) (r':List C),b'.rows[i]? = some r'->∃ r,b.rows[i]? = some r /\ r'.length = r.length /\ ∀ (j:Nat) (c':C),r'[j]? = some c'->∃ c,r[j]? = some c /\ Er c c'
 hf:b'.hf = true->∀ (i:Nat) (r:List C) (j:Nat) (c:C),b'.rows[i]? = some r->r[j]? = some c->∃ x,c = .i x
theorem C0.sub {w:World} {E:Env} {b b':Box} {g cap:Nat} (h:C0 w E b g cap) (hb:Aho b b'):C0 w E b' g cap:=by
 obtain ⟨arr,a1,a2,a3,a4,a5,a6,a7,a8,a9⟩:=h
 refine ⟨arr,by rw [hb.e];exact a1,by rw [hb.sz];exact a2,by rw [hb.len];exact a3,a4,fun i r hi=>?_,fun i r j c hi hj=>?_,fun hf i r j c hi hj=>hb.hf hf i r j c hi hj,fun hf=>a8 (by rw [<- hb.fz];exact hf),a9⟩
 . obtain ⟨r0,h1,h2,_⟩:=hb.rows i r hi;rw [h2,hb.sz];exact a5 i r0 h1
 . obtain ⟨r0,h1,_,h3⟩:=hb.rows i r hi;obtain ⟨c0,h4,h5⟩:=h3 j c hj;obtain ⟨v,h6,h7⟩:=a6 i r0 j c0 h1 h4
   exact ⟨v,by rw [hb.sz];exact h6,h5 _ _ _ h7⟩
theorem A6.sub {Γ:Ctx} {w:World} {E:Env} {s s':St} {tmps:Array Value} (hs:A6 Γ w E s tmps) (hnt:s'.nt = s.nt)
  (h1:∀ t x',A0 t s'.slots = some x'->∃ x,A0 t s.slots = some x /\ Gn x x')
  (h2:∀ h b',A0 h s'.boxes = some b'->∃ b,A0 h s.boxes = some b /\ Aho b b')
  (h3:∀ h b,A0 h s.boxes = some b->(A0 h s'.boxes).isSome = true):A6 Γ w E s' tmps where
 fr:=hs.fr
 held:=hs.held
 tow:=hs.tow
 wf:=by rw [hnt];exact hs.wf
 old:=hs.old
 nt:=by rw [hnt];exact hs.nt
 tag:=hs.tag
 new:=hs.new
 boxes:=fun h b' hb'=>by
  obtain ⟨b,hb,hsub⟩:=h2 h b' hb';obtain ⟨g,cap,hβ,hat,hω,hS⟩:=hs.boxes h b hb
  refine ⟨g,cap,by rw [hsub.sz];exact hβ,by rw [hsub.tr];exact hat.sub hsub,hω,fun e=>?_⟩
  have h5:=hS (by rw [<- hsub.tr];exact e)
  unfold Sep at h5 ⊢;rw [hsub.trr e,hsub.sz];exact h5
 inj:=fun h h' b b' g g' z z' hb hb' hz hz' hne=>by
  obtain ⟨b0,hb0,_⟩:=h2 h b hb;obtain ⟨b1,hb1,_⟩:=h2 h' b' hb';exact hs.inj h h' b0 b1 g g' z z' hb0 hb1 hz hz' hne
 own:=fun h b' g z hb' hz=>by
  obtain ⟨b,hb,hsub⟩:=h2 h b' hb';rw [hsub.fz];exact hs.own h b g z hb hz
 slots:=fun t x' hx'=>by
  obtain ⟨x,hx,hsub⟩:=h1 t x' hx';exact hsub _ _ _ (hs.slots t x hx)
 tsize:=hs.tsize
 dom:=fun h x hx=>by
  obtain ⟨b,hb⟩:=ZC.1 (hs.dom h x hx);exact h3 h b hb
 stay:=hs.stay
 fzn:=fun h b' g z hb' hz hf=>by
  obtain ⟨b,hb,hsub⟩:=h2 h b' hb'
  exact hs.fzn h b g z hb hz (by rw [<- hsub.fz];exact hf)
theorem Er.refl (c:C):Er c c:=fun _ _ _ h=>h
theorem Gn.refl (x:S):Gn x x:=fun _ _ _ h=>h
theorem Gn.dead (x:S):Gn x .dead:=fun _ _ _ _=>.dead
theorem Acj {c c':C} (h:∃ ob,Qm c c' = some ob /\ ∀ p ∈ ob,p):Er c c':=by
 obtain ⟨ob,h1,h2⟩:=h;exact fun w E v hv=>L8 hv h1 h2
def Ahn (cs cs':List C):Prop:=cs'.length = cs.length /\ ∀ (j:Nat) (c':C),cs'[j]? = some c'->∃ c,cs[j]? = some c /\ Er c c'
theorem A8z:∀ (cs cs':List C) (ob:List Prop),Eb cs cs' = some ob->(∀ p ∈ ob,p)->Ahn cs cs'
 | [],[],_,_,_=>⟨rfl,fun j c hj=>by simp at hj⟩
 | [],_ :: _,_,h,_=>by simp [Eb] at h
 | _ :: _,[],_,h,_=>by simp [Eb] at h
 | c :: cs,c' :: cs',ob,h,ho=>by
  simp only [Eb] at h;split at h
  . rename_i p q h1 h2;obtain rfl:=QA h;obtain ⟨i1,i2⟩:=A8z cs cs' q h2 (fun x hx=>ho x (QF.2 (.inr hx)))
    refine ⟨by simp [i1],fun j d hj=>?_⟩
    cases j with
    | zero =>
     simp at hj;subst hj;exact ⟨c,rfl,Acj ⟨p,h1,fun x hx=>ho x (QF.2 (.inl hx))⟩⟩
    | succ j=>exact i2 j d (by simpa using hj)
  . cases h
theorem Fj.subL {L:Nat->Nat} {cs:List SV} {ds:List I} (h:Fj L cs ds):Ahn (cs.map (SV.c L)) (ds.map .i):=by
 obtain ⟨ob,h1,h2⟩:=h;exact A8z _ _ _ h1 h2
theorem Ahn.agg {cs cs':List C} (h:Ahn cs cs'):Gn (.v (.agg cs)) (.v (.agg cs')):=by
 intro w E v hv
 cases hv with
 | v hv =>
  cases hv with
  | agg hv =>
   refine .v (.agg ⟨by rw [h.1];exact hv.1,fun j v c hv' hc=>?_⟩)
   obtain ⟨c0,h1,h2⟩:=h.2 j c hc;exact h2 _ _ _ (hv.2 j v c0 hv' h1)
theorem Er.one {c c':C} (h:Er c c'):Gn (.v (.one c)) (.v (.one c')):=by
 intro w E v hv
 cases hv with
 | v hv=>cases hv with | one hv=>exact .v (.one (h _ _ _ hv))
theorem Alc {L:Nat->Nat} {t:TS} {v:SV} {x:t.den} (h:t.dec v = some x):Gn (v.s L) ((t.enc x).s L) /\ (v.cellB = true->(t.enc x).cellB = true->Er (v.c L) ((t.enc x).c L)):=by
 cases t with
 | d t =>
  simp only [TS.dec] at h;split at h
  . rename_i cs;split at h
    . rename_i t0
      cases hd:cs.all SV.isD with
      | false=>rw [hd] at h;cases h
      | true =>
       rw [hd] at h;simp only [cond] at h;obtain ⟨_,_,h3,_⟩:=Cf h
       have e:(SV.rf cs).c L = (SV.d (.ref t0) x).c L:=by
        simp only [SV.c,h3 hd,Sh.cells,hd1]
       have hc:Er ((SV.rf cs).c L) ((TS.enc (.d (.ref t0)) x).c L):=by
        show Er _ ((SV.d (.ref t0) x).c L);rw [<- e];exact Er.refl _
       exact ⟨hc.one,fun _ _=>hc⟩
    . cases h
  . rename_i hnr
    cases ht:t.one with
    | false=>rw [ht] at h;cases h
    | true =>
     rw [ht] at h;obtain ⟨q1,q2⟩:=Qh (L:=L) ht h;have hc:Er (v.c L) ((TS.enc (.d t) x).c L):=Acj q2
     have e:v.s L = .v (.one (v.c L)):=by cases v <;> first | rfl | cases q1
     refine ⟨?_,fun _ _=>hc⟩;rw [e];exact hc.one
 | ag t =>
  simp only [TS.dec] at h;split at h
  . rename_i cs;obtain ⟨h1,h2⟩:=A3i (L:=L) h
    refine ⟨?_,fun hc=>by cases hc⟩
    show Gn (.v (.agg (cs.map (SV.c L)))) (.v (.agg ((t.exp x).map (SV.c L))));rw [Il];exact h1.subL.agg
  . cases h
 | k c =>
  simp only [TS.dec] at h
  cases hs:c.same v with
  | false=>rw [hs] at h;cases h
  | true =>
   show Gn (v.s L) (c.s L) /\ (v.cellB = true->c.cellB = true->Er (v.c L) (c.c L));unfold SV.same at hs;split at hs
   . obtain rfl:=QC hs;exact ⟨Gn.refl _,fun _ _=>Er.refl _⟩
   . simp only [QE] at hs;obtain rfl:=QC hs.1.1;obtain rfl:=QC hs.1.2;obtain rfl:=QC hs.2;exact ⟨Gn.refl _,fun _ _=>Er.refl _⟩
   . exact ⟨Gn.dead _,fun _ h=>by cases h⟩
   . rename_i t x' t' y;simp only [QE] at hs;obtain rfl:=Sh.eqb_eq hs.2
     have:SV.d t x' = SV.d t y:=by
      split at hs
      . rfl
      . rfl
      . exact absurd hs.1 (by simp)
     rw [this];exact ⟨Gn.refl _,fun _ _=>Er.refl _⟩
   . cases hs
 | hs h' =>
  simp only [TS.dec] at h;split at h
  . rename_i k o l
    cases hk:Nat.beq h' k with
    | false=>rw [hk] at h;cases h
    | true =>
     rw [hk] at h;obtain rfl:=QC hk;simp only [cond,QD] at h;subst h;exact ⟨Gn.refl _,fun _ _=>Er.refl _⟩
  . cases h
theorem Ah6:∀ {l:List (Nat × TS)} {sl:List (Nat × SV)} {x:DK TS TS.den l},A8i l sl = some x->∀ (L:Nat->Nat) (k:Nat) (y:S),A0 k (Ag (SV.s L) (Agy l x)) = some y->∃ z,A0 k (Ag (SV.s L) sl) = some z /\ Gn z y
 | [],[],_,_,_,k,y,h=>by simp [Agy,Ag,A0] at h
 | [],_ :: _,_,h,_,_,_,_=>by simp [A8i] at h
 | _ :: _,[],_,h,_,_,_,_=>by simp [A8i] at h
 | (k,t) :: r,(j,v) :: vs,x,h,L,i,y,hy=>by
  simp only [A8i] at h
  cases hk:Nat.beq k j with
  | false=>rw [hk] at h;cases h
  | true =>
   rw [hk] at h;obtain rfl:=QC hk;simp only [cond] at h;split at h
   . rename_i a as h1 h2;obtain rfl:=QA h;simp only [Agy,Ag,QX,A0] at hy ⊢
     cases hb:Nat.beq k i with
     | true =>
      rw [hb] at hy;simp only [cond,QD] at hy;subst hy;exact ⟨_,rfl,(Alc h1).1⟩
     | false =>
      rw [hb] at hy;exact Ah6 h2 L i y hy
   . cases h
theorem Ah7 {L:Nat->Nat}:∀ {l:List TS} {vs:List SV} {x:DL l},A8j l vs = some x->vs.all SV.cellB = true->(Im l x).all SV.cellB = true->Ahn (vs.map (SV.c L)) ((Im l x).map (SV.c L))
 | [],[],_,_,_,_=>⟨rfl,fun j c h=>by simp [Im] at h⟩
 | [],_ :: _,_,h,_,_=>by simp [A8j] at h
 | _ :: _,[],_,h,_,_=>by simp [A8j] at h
 | t :: r,v :: vs,x,h,hc,hc'=>by
  simp only [A8j] at h;split at h
  . rename_i a as h1 h2;obtain rfl:=QA h;simp only [XZ,QE,Im] at hc hc';obtain ⟨i1,i2⟩:=Ah7 (L:=L) h2 hc.2 hc'.2
    refine ⟨by simpa [Im] using i1,fun j c hj=>?_⟩
    cases j with
    | zero =>
     simp [Im] at hj;subst hj;exact ⟨_,rfl,(Alc h1).2 hc.1 hc'.1⟩
    | succ j=>exact i2 j c (by simpa [Im] using hj)
  . cases h
theorem A5y {L:Nat->Nat} {t:TB} {b:B3} {x:t.den} (h:t.dec b = some x):Aho (b.box L) ((t.enc x).box L) /\ (t.enc x).len = b.len:=by
 cases t with
 | tree e t fz =>
  simp only [TB.dec] at h;split at h
  . rename_i e' t' fz' xs
    cases hc:(Nat.beq e e' && (fz == fz')) with
    | false=>rw [hc] at h;cases h
    | true =>
     rw [hc] at h;simp only [QE] at hc;obtain rfl:=QC hc.1;obtain rfl:=eq_of_beq hc.2;obtain ⟨rfl,rfl⟩:=Dl h;refine ⟨⟨rfl,rfl,rfl,rfl,fun _=>rfl,rfl,fun i r hi=>⟨r,hi,rfl,fun j c hj=>⟨c,hj,Er.refl c⟩⟩,fun _ i r j c hi hj=>?_⟩,rfl⟩;simp only [TB.enc,B3.box,QL] at hi;obtain ⟨x,_,rfl⟩:=QB.1 hi;rw [QL] at hj;obtain ⟨y,_,rfl⟩:=QB.1 hj;exact ⟨y,rfl⟩
  . cases h
 | arr e t fz =>
  simp only [TB.dec] at h;split at h
  . rename_i e' t' fz' xs
    cases hc:(Nat.beq e e' && (fz == fz')) with
    | false=>rw [hc] at h;cases h
    | true =>
     rw [hc] at h;simp only [QE] at hc;obtain rfl:=QC hc.1;obtain rfl:=eq_of_beq hc.2;obtain ⟨rfl,rfl⟩:=Dl h;refine ⟨⟨rfl,rfl,rfl,rfl,fun _=>rfl,rfl,fun i r hi=>⟨r,hi,rfl,fun j c hj=>⟨c,hj,Er.refl c⟩⟩,fun _ i r j c hi hj=>?_⟩,rfl⟩;simp only [TB.enc,B3.box,QL] at hi;obtain ⟨y,_,rfl⟩:=QB.1 hi;rw [QL] at hj;obtain ⟨z,_,rfl⟩:=QB.1 hj;exact ⟨z,rfl⟩
  . rename_i e' fz' n cs
    cases hc:(Nat.beq e e' && (fz == fz')) with
    | false=>rw [hc] at h;cases h
    | true =>
     rw [hc] at h;simp only [cond,QB] at h;obtain ⟨y,hy,rfl⟩:=h;simp only [QE] at hc;obtain rfl:=QC hc.1;obtain rfl:=eq_of_beq hc.2;obtain ⟨h1,h2⟩:=A3i (L:=L) hy;have hL:=h1.subL
     have hz:cs.length = t.size:=by have:=hL.1;simp [Sh.cells_len] at this;omega
     refine ⟨⟨rfl,by simp [TB.enc,B3.box,hz],rfl,rfl,fun e=>(by cases e),by simp [TB.enc,B3.box],fun i r hi=>?_,fun _ i r j c hi hj=>?_⟩,by simp [TB.enc,B3.len]⟩
     . simp only [TB.enc,B3.box,List.map_replicate,XO] at hi;split at hi
       . rename_i hlt;obtain rfl:=QA hi
         exact ⟨cs.map (SV.c L),by simp [B3.box,XO,hlt],hL.1,hL.2⟩
       . cases hi
     . simp only [TB.enc,B3.box,List.map_replicate,XO] at hi;split at hi
       . obtain rfl:=QA hi;rw [QL] at hj;obtain ⟨z,_,rfl⟩:=QB.1 hj;exact ⟨z,rfl⟩
       . cases hi
  . cases h
 | var e hf fz cs =>
  simp only [TB.dec] at h;split at h
  . rename_i e' hf' fz' vs
    cases hc:(Nat.beq e e' && (hf == hf') && (fz == fz') && vs.all SV.cellB) with
    | false=>rw [hc] at h;cases h
    | true =>
     rw [hc] at h;simp only [cond] at h;simp only [QE] at hc;obtain rfl:=QC hc.1.1.1;obtain rfl:=eq_of_beq hc.1.1.2;obtain rfl:=eq_of_beq hc.1.2;split at h
     . rename_i y hy
       cases he:((Im cs y).all SV.cellB && (!hf || (Im cs y).all SV.imm)) with
       | false=>rw [he] at h;cases h
       | true =>
        rw [he] at h;obtain rfl:=QA h;simp only [QE,XL,ZJ] at he;have hL:=Ah7 (L:=L) hy hc.2 he.1
        refine ⟨⟨rfl,by have:=hL.1;simpa [TB.enc,B3.box] using this,rfl,rfl,fun e=>(by cases e),rfl,fun i r hi=>?_,fun hf' i r j c hi hj=>?_⟩,rfl⟩
        . cases i with
          | zero =>
           simp [TB.enc,B3.box] at hi;subst hi;exact ⟨vs.map (SV.c L),rfl,hL.1,hL.2⟩
          | succ i=>simp [TB.enc,B3.box] at hi
        . have hf'':hf = true:=hf'
          have hi':(Im cs y).all SV.imm = true:=by
           rcases he.2 with h0 | h0
           . rw [hf''] at h0;cases h0
           . exact h0
          cases i with
          | zero =>
           simp [TB.enc,B3.box] at hi;subst hi;rw [QL] at hj;obtain ⟨z,hz,rfl⟩:=QB.1 hj;have:=Lx (L:=L) (QM.1 hi' z (QV hz))
           cases hzc:z.c L with
           | i q=>exact ⟨q,rfl⟩
           | hs=>rw [hzc] at this;cases this
           | hp=>rw [hzc] at this;cases this
          | succ i=>simp [TB.enc,B3.box] at hi
     . cases h
  . cases h
theorem Ah8 {L:Nat->Nat}:∀ {l:List (Nat × TB)} {bs:List (Nat × B3)} {x:DK TB TB.den l},A8k l bs = some x ->
  (∀ k b',A0 k (Ag (B3.box L) (T5 l x)) = some b'->∃ b,A0 k (Ag (B3.box L) bs) = some b /\ Aho b b') /\ (∀ k b,A0 k (Ag (B3.box L) bs) = some b->(A0 k (Ag (B3.box L) (T5 l x))).isSome = true) /\ A3 (T5 l x) = A3 bs
 | [],[],_,_=>⟨fun k b h=>by simp [T5,Ag,A0] at h,fun k b h=>by simp [Ag,A0] at h,rfl⟩
 | [],_ :: _,_,h=>by simp [A8k] at h
 | _ :: _,[],_,h=>by simp [A8k] at h
 | (k,t) :: r,(j,v) :: vs,x,h=>by
  simp only [A8k] at h
  cases hk:Nat.beq k j with
  | false=>rw [hk] at h;cases h
  | true =>
   rw [hk] at h;obtain rfl:=QC hk;simp only [cond] at h;split at h
   . rename_i a as h1 h2;obtain rfl:=QA h;obtain ⟨i1,i2,i3⟩:=Ah8 (L:=L) h2;obtain ⟨b1,b2⟩:=A5y (L:=L) h1;refine ⟨fun i b hb=>?_,fun i b hb=>?_,?_⟩
     . simp only [T5,Ag,QX,A0] at hb ⊢
       cases hc:Nat.beq k i with
       | true=>rw [hc] at hb;simp only [cond,QD] at hb;subst hb;exact ⟨_,rfl,b1⟩
       | false=>rw [hc] at hb;exact i1 i b hb
     . simp only [T5,Ag,QX,A0] at hb ⊢
       cases hc:Nat.beq k i with
       | true=>rfl
       | false=>rw [hc] at hb;exact i2 i b hb
     . funext i;have e:=congrFun i3 i;simp only [A3,T5,A0] at e ⊢
       cases hc:Nat.beq k i with
       | true=>exact b2
       | false=>exact e
   . cases h
theorem V1 {X:List (Nat × TS)}:∀ {sl:List (Nat × SV)} {k:Nat} {x:SV},A0 k (Qz X sl) = some x->A0 k sl = some x
 | [],k,x,h=>by cases h
 | (j,y) :: r,k,x,h=>by
  simp only [Qz,YP] at h
  have gone:(X.any fun q=>Nat.beq q.1 j) = false->∀ q:List (Nat × SV),A0 j (q.filter fun p=>X.any fun z=>Nat.beq z.1 p.1) = none:=by
   intro hc q
   induction q with
   | nil=>rfl
   | cons p' r' ih' =>
    simp only [YP];split
    . rename_i hc';simp only [A0]
      cases hb':Nat.beq p'.1 j with
      | true=>have:=QC hb';rw [this,hc] at hc';cases hc'
      | false=>exact ih'
    . exact ih'
  simp only [A0]
  cases hb:Nat.beq j k with
  | true =>
   have:=QC hb;subst this
   cases hc:(X.any fun q=>Nat.beq q.1 j) with
   | true =>
    rw [QK hc] at h;simp only [A0,hb,cond] at h;exact h
   | false =>
    rw [QH (by rw [hc];exact Bool.false_ne_true),gone hc] at h
    cases h
  | false =>
   simp only [cond];split at h
   . simp only [A0,hb,cond] at h;exact V1 h
   . exact V1 h
theorem Ah5 {α β:Type} (f:α->β) (h:Nat):∀ l:List (Nat × α),Bu h (Ag f l) = Ag f (Bu h l)
 | []=>rfl
 | (j,x) :: r=>by
  have ih:=Ah5 f h r
  show (bif Nat.beq j h then Bu h (Ag f r) else (j,f x) :: Bu h (Ag f r)) = Ag f (bif Nat.beq j h then Bu h r else (j,x) :: Bu h r)
  cases Nat.beq j h with
  | true=>exact ih
  | false =>
   show (j,f x) :: Bu h (Ag f r) = (j,f x) :: Ag f (Bu h r);rw [ih]
theorem Ah4 {nt:Nat}:∀ (l:List Nat) {s s':St3},Ac6 l s = some s'->Jq l (s.st nt) = some (s'.st nt)
 | [],s,s',h=>by obtain rfl:=QA h;rfl
 | k :: r,s,s',h=>by
  simp only [Ac6] at h
  cases hc:(Nat.blt k 1000 && s.clean k) with
  | false=>rw [hc] at h;cases h
  | true =>
   rw [hc] at h;simp only [cond] at h;simp only [QE] at hc;have hcl:=hc.2;unfold St3.clean at hcl;simp only [QE,QM] at hcl;have ih:=Ah4 (nt:=nt) r h
   have hd:(s.st nt).delBox k = some (({ s with boxes:=Bu k s.boxes }:St3).st nt):=by
    unfold St.delBox
    have h1:(s.st nt).slots.all (fun p=>!p.2.men k) = true:=by
     simp only [St3.st,Ag,YN,QM,Function.comp,Qx];exact hcl.1
    have h2:Np k (s.st nt).boxes = true:=by
     simp only [Np,St3.st,Ag,YN,QM,Function.comp,XL,ZJ];intro p hp
     exact .inr (Ald (by simpa using hcl.2 p hp))
    rw [hc.1,h1,h2]
    have hL:∀ j,j ≠ k->A3 s.boxes j = A3 (Bu k s.boxes) j:=fun j hj=>by
     unfold A3;rw [Au hj]
    simp only [ZD,cond,QD,St3.st];congr 1
    . exact Ld fun p hp=>X6 hL (by simpa using hcl.1 p hp)
    . rw [<- Ah5];congr 1
      exact Ld fun p hp=>Kv hL (by simpa using hcl.2 p hp)
   simp only [Jq,hd];exact ih
theorem Tm.dec1_ok {X:Tm} {s:St3} {x:X.den} (h:X.dec1 s = some x) {nt:Nat} {Γ:Ctx} {w:World} {E:Env} {tmps:Array Value} (hs:A6 Γ w E (s.st nt) tmps):∃ E',A6 Γ w E' ((X.enc x).st nt) tmps:=by
 unfold Tm.dec1 at h;split at h
 . rename_i s2 hd;split at h
   . rename_i a b h1 h2;obtain rfl:=QA h
     have hs1:A6 Γ w E (({ s with slots:=Qz X.slots s.slots }:St3).st nt) tmps:=hs.less fun t y hy=>by
      simp only [St3.st,Ac] at hy ⊢;obtain ⟨z,hz,rfl⟩:=QB.1 hy;rw [V1 hz];rfl
     obtain ⟨E',hs2⟩:=Qc _ hs1 (Ah4 _ hd);obtain ⟨b1,b2,b3⟩:=Ah8 (L:=A3 s2.boxes) h2;refine ⟨E',hs2.sub rfl (fun t y hy=>?_) (fun k b' hb=>?_) (fun k b hb=>?_)⟩
     . simp only [Tm.enc,St3.st] at hy;rw [b3] at hy;exact Ah6 h1 _ t y hy
     . simp only [Tm.enc,St3.st] at hb;rw [b3] at hb;exact b1 k b' hb
     . simp only [Tm.enc,St3.st];rw [b3];exact b2 k b hb
   . cases h
 . cases h
theorem Qo {nt:Nat} {Γ:Ctx} {w:World} {tmps:Array Value}:∀ {l:List (Nat × Sh)} {s s':St3} {E:Env},J2 l s = some s'->A6 Γ w E (s.st nt) tmps->∃ E',A6 Γ w E' (s'.st nt) tmps
 | [],s,s',E,h,hs=>by
  simp only [J2,QD] at h;subst h;exact ⟨E,hs⟩
 | (t,sh) :: r,s,s',E,h,hs=>by
  have go:∀ {q},Lu s t sh = some q->(bif q.1 then J2 r q.2 else none) = some s'->∃ E',A6 Γ w E' (s'.st nt) tmps:=by
   rintro ⟨g,s1⟩ h1 h2
   cases g with
   | false=>cases h2
   | true =>
    obtain ⟨x',ob,q1,q2⟩:=Qp (nt:=nt) h1 rfl
    obtain ⟨E1,hs1⟩:=Dj [(t,x')] (s':=s1.st nt) (obs:=ob ++ []) hs (by simp only [Ej,q1]) (fun p hp=>by simp only [XE] at hp;exact q2 p hp)
    exact Qo (l:=r) h2 hs1
  simp only [J2] at h;split at h
  . exact Qo (l:=r) h hs
  . split at h
    . rename_i hq;exact go hq h
    . cases h
theorem Tm.dec_ok {X:Tm} {s:St3} {x:X.den} (h:X.dec s = some x) {nt:Nat} {Γ:Ctx} {w:World} {E:Env} {tmps:Array Value} (hs:A6 Γ w E (s.st nt) tmps):∃ E',A6 Γ w E' ((X.enc x).st nt) tmps:=by
 unfold Tm.dec at h;split at h
 . rename_i s1 h1;obtain ⟨E1,hs1⟩:=Qo h1 hs;exact Tm.dec1_ok h hs1
 . cases h
end Go.Ev

/- DERIVED. A call that is handed boxes or hands out boxes, decided. -/
namespace Go.Ev
open Go
variable {P:Program} {T:Ty}
def SV.renC (σ:Nat->Nat):SV->SV
 | .hw h=>.hw (σ h)
 | .hs h o l=>.hs (σ h) o l
 | .hp h r c=>.hp (σ h) r c
 | x=>x
def SV.renV (σ:Nat->Nat):SV->SV
 | .agg cs=>.agg (cs.map (SV.renC σ))
 | x=>x.renC σ
def SV.ren3 (σ:Nat->Nat):SV->SV
 | .tup cs=>.tup (cs.map (SV.renV σ))
 | x=>x.renV σ
def SV.okC (p:Nat->Bool):SV->Bool
 | .hw h=>p h
 | .hs h _ _=>p h
 | .hp h _ _=>p h
 | _=>true
def SV.okV (p:Nat->Bool):SV->Bool
 | .agg cs=>cs.all (SV.okC p)
 | x=>x.okC p
def SV.ok3 (p:Nat->Bool):SV->Bool
 | .tup cs=>cs.all (SV.okV p)
 | x=>x.okV p
def SV.clC:SV->Bool
 | .d (.sl _) []=>true
 | .d t _=>t.closed
 | .rf _=>false
 | .dead=>false
 | _=>true
def SV.clV:SV->Bool
 | .agg cs=>cs.all SV.clC
 | x=>x.clC
def SV.cl3:SV->Bool
 | .tup cs=>cs.all SV.clV
 | x=>x.clV
def B3.cl:B3->Bool
 | .arr _ t _ _=>t.closed
 | .rep _ _ _ cs=>cs.all SV.clC
 | .var _ _ _ cs=>cs.all SV.clC
 | .tree _ t _ _=>t.flat
 | .hole _ _ _ _ _ _ _=>false
def B3.plain:B3->Bool
 | .arr _ _ _ _=>true
 | .var _ hf _ cs=>hf && cs.all SV.isD
 | .tree _ _ _ _=>true
 | _=>false
section
variable {L L':Nat->Nat} {σ:Nat->Nat} {p:Nat->Bool}
theorem Aq6 (hL:∀ k,p k = true->L (σ k) = L' k) {x:SV} (ho:x.okC p = true):(x.renC σ).c L = (x.c L').ren σ:=by
 cases x <;> first | rfl | skip;simp only [SV.renC,SV.c,C.ren];rw [hL _ ho]
theorem Ad1 (hL:∀ k,p k = true->L (σ k) = L' k) {x:SV} (ho:x.okV p = true):(x.renV σ).v L = (x.v L').ren σ:=by
 cases x with
 | agg cs =>
  simp only [SV.renV,SV.v,V.ren,XH];congr 1;exact ZE fun y hy=>Aq6 hL (QM.1 ho y hy)
 | hw h=>exact XU V.one (Aq6 (x:=.hw h) hL ho)
 | _=>rfl
theorem Aq7 (hL:∀ k,p k = true->L (σ k) = L' k) {x:SV} (ho:x.ok3 p = true):(x.ren3 σ).s L = (x.s L').ren σ:=by
 cases x with
 | tup cs =>
  simp only [SV.ren3,SV.s,S.ren,XH];congr 1;exact ZE fun y hy=>Ad1 hL (QM.1 ho y hy)
 | hw h=>exact XU S.v (Ad1 (x:=.hw h) hL ho)
 | agg cs=>exact XU S.v (Ad1 (x:=.agg cs) hL ho)
 | _=>rfl
theorem B9r {x:SV} (ho:x.okC p = true):(x.c L).okH p = true:=by cases x <;> first | rfl | exact ho
theorem B0c {x:SV} (ho:x.okV p = true):(x.v L).okH p = true:=by
 cases x with
 | agg cs =>
  simp only [SV.v,V.okH,YN,QM,Function.comp];exact fun y hy=>B9r (QM.1 ho y hy)
 | hw h=>exact ho
 | hs h o l=>exact ho
 | hp h r c=>exact ho
 | _=>rfl
theorem B9s {x:SV} (ho:x.ok3 p = true):(x.s L).okH p = true:=by
 cases x with
 | tup cs =>
  simp only [SV.s,S.okH,YN,QM,Function.comp];exact fun y hy=>B0c (QM.1 ho y hy)
 | agg cs=>exact B0c (x:=.agg cs) ho
 | hw h=>exact ho
 | hs h o l=>exact ho
 | hp h r c=>exact ho
 | _=>rfl
theorem hd1_closed {l:List I} (h:∀ c ∈ l,IClosed c):IClosed (hd1 l):=by
 cases l with
 | nil=>exact .lit _
 | cons c r=>exact h c (by simp)
theorem K6 {x:SV} (h:x.clC = true):(x.c L).allI IClosed:=by
 cases x with
 | d t y =>
  cases t with
  | sl t =>
   cases y with
   | nil=>exact .nil _ _ _
   | cons a b=>exact hd1_closed (No (.sl t) (a :: b) h)
  | _=>exact hd1_closed (No _ y h)
 | rf=>cases h
 | dead=>cases h
 | hw=>trivial
 | hs=>trivial
 | hp=>trivial
 | _=>exact .lit _
theorem Td {x:SV} (h:x.clV = true):(x.v L).allI IClosed:=by
 cases x with
 | agg cs =>
  simp only [SV.v,V.allI,QL];intro j c hc;obtain ⟨y,hy,rfl⟩:=QB.1 hc;exact K6 (Ep h hy)
 | d t y=>exact K6 (L:=L) (x:=.d t y) h
 | rf cs=>exact K6 (L:=L) (x:=.rf cs) h
 | hw k=>exact K6 (L:=L) (x:=.hw k) h
 | hs k o l=>exact K6 (L:=L) (x:=.hs k o l) h
 | hp k o l=>exact K6 (L:=L) (x:=.hp k o l) h
 | tup cs=>exact K6 (L:=L) (x:=.tup cs) h
 | dead=>exact K6 (L:=L) (x:=.dead) h
theorem Baw {x:SV} (h:x.cl3 = true):(x.s L).allI IClosed:=by
 cases x with
 | tup cs =>
  simp only [SV.s,S.allI,QL];intro j c hc;obtain ⟨y,hy,rfl⟩:=QB.1 hc;exact Td (Ep h hy)
 | dead=>trivial
 | d t y=>exact Td (L:=L) (x:=.d t y) h
 | rf cs=>exact Td (L:=L) (x:=.rf cs) h
 | hw k=>exact Td (L:=L) (x:=.hw k) h
 | hs k o l=>exact Td (L:=L) (x:=.hs k o l) h
 | hp k o l=>exact Td (L:=L) (x:=.hp k o l) h
 | agg cs=>exact Td (L:=L) (x:=.agg cs) h
theorem B9e {b:B3} (h:b.cl = true):∀ (i:Nat) (q:List C) (j:Nat) (c:C),(b.box L).rows[i]? = some q->q[j]? = some c->c.allI fun y=>IClosed y \/ ((b.box L).tr = true /\ Tr y):=by
 intro i q j c hq hc
 cases b with
 | hole=>cases h
 | tree e t fz xs =>
  simp only [B3.box,QL] at hq;obtain ⟨y,hy,rfl⟩:=QB.1 hq;rw [QL] at hc;obtain ⟨z,hz,rfl⟩:=QB.1 hc;exact .inr ⟨rfl,Ar5 t y h z (QV hz)⟩
 | arr e t fz xs =>
  simp only [B3.box,QL] at hq;obtain ⟨y,hy,rfl⟩:=QB.1 hq;rw [QL] at hc;obtain ⟨z,hz,rfl⟩:=QB.1 hc;exact .inl (No t y h z (QV hz))
 | rep e fz n cs =>
  simp only [B3.box,XO] at hq;split at hq
  . obtain rfl:=QA hq;rw [QL] at hc;obtain ⟨z,hz,rfl⟩:=QB.1 hc;exact C.allI_mono (fun _ h=>.inl h) (K6 (Ep h hz))
  . cases hq
 | var e hf fz cs =>
  simp only [B3.box] at hq
  cases i with
  | zero =>
   obtain rfl:=QA hq;rw [QL] at hc;obtain ⟨z,hz,rfl⟩:=QB.1 hc;exact C.allI_mono (fun _ h=>.inl h) (K6 (Ep h hz))
  | succ i=>simp at hq
theorem A98 {b:B3} (h:b.plain = true):b.box L = b.box L' /\ (b.box L).hf = true:=by
 cases b with
 | hole=>cases h
 | tree=>exact ⟨rfl,rfl⟩
 | arr=>exact ⟨rfl,rfl⟩
 | rep=>cases h
 | var e hf fz cs =>
  simp only [B3.plain,QE] at h
  exact ⟨by simp only [B3.box];rw [Ar3 h.2],h.1⟩
end
theorem Tj {L L':Nat->Nat} {x:SV} (hL:∀ k,x.menC k = true->L k = L' k):x.c L = x.c L':=by
 cases x <;> first | rfl | skip;rename_i k;simp only [SV.c]
 rw [hL k (by simp [SV.menC])]
theorem A00 {L L':Nat->Nat} {x:SV} (hL:∀ k,x.menV k = true->L k = L' k):x.v L = x.v L':=by
 cases x with
 | agg cs =>
  simp only [SV.v];congr 1;exact ZE fun y hy=>Tj fun k hk=>hL k (XB.2 ⟨y,hy,hk⟩)
 | hw k=>exact XU V.one (Tj (x:=.hw k) hL)
 | _=>rfl
theorem Acs {L L':Nat->Nat} {x:SV} (hL:∀ k,x.men k = true->L k = L' k):x.s L = x.s L':=by
 cases x with
 | tup cs =>
  simp only [SV.s];congr 1;exact ZE fun y hy=>A00 fun k hk=>hL k (XB.2 ⟨y,hy,hk⟩)
 | hw k=>exact XU S.v (A00 (x:=.hw k) hL)
 | agg cs=>exact XU S.v (A00 (x:=.agg cs) hL)
 | _=>rfl
theorem Tk {L L':Nat->Nat} {b:B3} (hL:∀ k,b.men k = true->L k = L' k):b.box L = b.box L':=by
 cases b with
 | hole e t fz xs row col k=>simp only [B3.box];rw [hL k (by simp [B3.men])]
 | tree=>rfl
 | arr=>rfl
 | rep e fz n cs =>
  simp only [B3.box];rw [ZE fun y hy=>Tj fun k hk=>hL k (XB.2 ⟨y,hy,hk⟩)]
 | var e hf fz cs =>
  simp only [B3.box];rw [ZE fun y hy=>Tj fun k hk=>hL k (XB.2 ⟨y,hy,hk⟩)]
def CK.backs:CK->List Nat
 | .back j=>[j]
 | _=>[]
def PK.backs:PK->List Nat
 | .im _=>[]
 | .one c=>c.backs
 | .mix cs=>cs.flatMap CK.backs
def Is (f0:Nat) (ts:List PK) (o:Oper) (s:St3):Option (Bool × HP ts × List Nat × List (Nat × Nat)) :=
 match o.op with
 | .call c=>match c.callee with
  | .value f=>match Yw (s.val f) with
   | some (fid,caps)=>bif Nat.beq fid f0 then Lr s.boxes 1000 ts (c.args.toList.map s.val ++ caps) else none
   | none=>none
  | _=>none
 | _=>none
def Xc (rs:List PK):List Nat:=(Am 0 rs).map (·.1)
def I4 (E:Iy) (hb:Nat) (q:List (Nat × Nat)):List (Nat × Nat):=(Xc E.rs).map (fun k=>(k,hb + k)) ++ q
def D6 (E:Iy) (rn:List (Nat × Nat)):List Nat:=(E.rs.flatMap PK.backs).map (Ib rn)
def Fi (B bs:List (Nat × B3)) (kill:List Nat):List (Nat × Nat)->Bool
 | []=>true
 | p :: r=>bif kill.any (Nat.beq p.2) then Fi B bs kill r else Nat.beq (A3 B p.1) (A3 bs p.2) && Fi B bs kill r
def Fw (E:Iy) (hb:Nat) (s:St3) (x:HP E.ts) (bor:List Nat) (q:List (Nat × Nat)) (y:HR E.rs (Am 1000 E.ts)):Bool :=
 El (I4 E hb q) && Bw (Ay E y) (I4 E hb q) && Bw (Jb E x) q && (Jb E x).all (fun p=>Nat.ble 1000 p.1) && (Ay E y).all (fun p=>p.2.plain) &&
 (Xc E.rs).all (fun k=>Nat.blt (hb + k) 1000 && (A0 (hb + k) s.boxes).isNone && s.clean (hb + k)) && q.all (fun p=>!bor.any (Nat.beq p.2)) &&
 (bor.isEmpty || ((Gt (Bp 0 E.rs (Lb y))).cl3 && (Ay E y).all (fun p=>p.2.cl))) && (Gt (Bp 0 E.rs (Lb y))).ok3 (fun k=>(A0 k (Ay E y)).isSome) &&
 (D6 E (I4 E hb q)).all (fun h=>s.boxes.all (fun p=>!p.2.men h))
def B4 (E:Iy) (hb:Nat) (s:St3) (q:List (Nat × Nat)) (y:HR E.rs (Am 1000 E.ts)):SV × St3 :=
 ((Gt (Bp 0 E.rs (Lb y))).ren3 (Ib (I4 E hb q)),
  ⟨Ag (fun x=>bif (D6 E (I4 E hb q)).any (fun h=>x.men h) then .dead else x) s.slots,V3 (Ay E y) (I4 E hb q) s.boxes⟩)
theorem V6:∀ {a b:List (Nat × Nat)},El (a ++ b) = true->El b = true
 | [],_,h=>h
 | (k,h') :: r,b,h=>V6 (K1 h).2
theorem Uz {B bs:List (Nat × B3)} {kill:List Nat}:∀ {q:List (Nat × Nat)},Fi B bs kill q = true->∀ p ∈ q,kill.any (Nat.beq p.2) = true \/ A3 B p.1 = A3 bs p.2
 | [],_,p,hp=>by cases hp
 | a :: r,h,p,hp=>by
  simp only [Fi] at h
  cases hk:kill.any (Nat.beq a.2) with
  | true =>
   rw [hk] at h;rcases QT.1 hp with rfl | hp
   . exact .inl hk
   . exact Uz h p hp
  | false =>
   rw [hk] at h;simp only [cond,QE] at h;rcases QT.1 hp with rfl | hp
   . exact .inr (QC h.1)
   . exact Uz h.2 p hp
theorem C4 {β:Type} {k:Nat} {b:β} {l:List (Nat × β)} (h:A0 k l = some b):(k,b) ∈ l:=Ce h
theorem Ab4 {E:Iy} {hb:Nat} {o:Oper} {s s':St3} {nt:Nat} {x:HP E.ts} {bor:List Nat} {q:List (Nat × Nat)} {y:HR E.rs (Am 1000 E.ts)} {K:Ak}
  (h:Is E.f E.ts o s = some (true,x,bor,q)) (hc:Fw E hb s x bor q y = true) (hg:Fi (Ay E y) s.boxes (D6 E (I4 E hb q)) q = true) (hF:E.Den P nt x y)
  (hp:(B4 E hb s q y).2.put3 K o.dst (B4 E hb s q y).1 = some s') :
  ∃ D obs,C9 P T K o D (s.st nt) = some (s'.st nt,obs) /\ ∀ p ∈ obs,p:=by
 obtain ⟨dst,op,type,pos,aft,guard⟩:=o;unfold Is at h;simp only at h;split at h
 case h_2=>cases h
 rename_i c;split at h
 case h_2=>cases h
 rename_i f hf;split at h
 case h_2=>cases h
 rename_i fid caps hcal
 cases hcf:Nat.beq fid E.f with
 | false=>rw [hcf] at h;cases h
 | true =>
 rw [hcf] at h;simp only [cond] at h;obtain rfl:=QC hcf;generalize hrn:I4 E hb q = rn at *;unfold Fw at hc;rw [hrn] at hc;simp only [QE] at hc;obtain ⟨⟨⟨⟨⟨⟨⟨⟨⟨c1,c2⟩,c3⟩,c4⟩,c5⟩,c6⟩,c7⟩,c8⟩,c9⟩,c10⟩:=hc;have hrn':rn = (Xc E.rs).map (fun k=>(k,hb + k)) ++ q:=hrn.symm
 have c1q:El q = true:=V6 (by rw [<- hrn'];exact c1)
 have qrn:∀ p ∈ q,p ∈ rn:=fun p hp=>by rw [hrn'];exact QF.2 (.inr hp)
 have fwdm:∀ k h,(k,h) ∈ rn->Ib rn k = h /\ It rn h = some k /\ A0 k rn = some h:=fun k h hm=>by
  obtain ⟨e1,e2⟩:=Mi c1 hm
  exact ⟨by unfold Ib;rw [e1],e2,e1⟩
 have outS:∀ k,(A0 k (Br (Ay E y))).isSome = (A0 k rn).isSome:=fun k=>by
  unfold Br;rw [Ac,KU,Ex c2 k]
 have inS:∀ k,(A0 k (Br (Jb E x))).isSome = (A0 k q).isSome:=fun k=>by
  unfold Br;rw [Ac,KU,Ex c3 k]
 obtain ⟨⟨ob,a1,a2⟩,a3,a4,a5⟩:=Ahh (hd:=fun k h=>q.any fun p=>Nat.beq p.1 k && Nat.beq p.2 h) (L:=A3 (Jb E x)) h rfl
  (fun p hp=>XB.2 ⟨p,hp,by simp⟩) (fun k b hb=>by
   have:=Uv c3 c1q hb;simp only [A3]
   show (match A0 k (Jb E x) with | some b=>b.len | none=>0) = b.len
   rw [this])
 obtain ⟨cs,k1,k2⟩:=A5w (L:=A3 s.boxes) hcal
 have hfa:(s.val f).alive = true:=B2 fun e=>by rw [e] at hcal;cases hcal
 have hfv:=B6 (nt:=nt) rfl hfa
 have hmap:c.args.toList.map (s.st nt).val ++ cs.map (fun x=>S.v (V.one (C.i x))) = (c.args.toList.map s.val ++ caps).map (SV.s (A3 s.boxes)):=by
  rw [JZ,k2,XH];congr 1;exact ZE fun z hz=>B6 rfl (a5 _ (QF.2 (.inl (ZS.2 ⟨z,hz,rfl⟩))))
 have blook:∀ h,A0 h (B4 E hb s q y).2.boxes = match It rn h with | some k=>A0 k (Ay E y) | none=>A0 h s.boxes:=fun h=>by
  have:=Zl (bs:=s.boxes) c2 c1 h;rw [<- hrn] at this ⊢;exact this
 have lenk:∀ k h,(k,h) ∈ rn->A3 (B4 E hb s q y).2.boxes h = A3 (Ay E y) k:=fun k h hm=>by
  unfold A3;rw [blook h,(fwdm k h hm).2.1]
 have lenS:∀ h,s.clean h = true \/ (∀ k,It rn h = some k->(k,h) ∈ q /\ (D6 E rn).any (Nat.beq h) = false)->s.clean h = true \/ A3 (B4 E hb s q y).2.boxes h = A3 s.boxes h:=by
  intro h hh;rcases hh with hh | hh
  . exact .inl hh
  . cases hw:It rn h with
    | none =>
     right;unfold A3;rw [blook h,hw]
    | some k =>
     obtain ⟨h1,h2⟩:=hh k hw;right;rw [lenk k h (qrn _ h1)];rcases Uz hg _ h1 with h3 | h3
     . rw [h3] at h2;cases h2
     . exact h3
 have newC:∀ k h,(k,h) ∈ rn->(k,h) ∈ q \/ (h < 1000 /\ A0 h s.boxes = none /\ s.clean h = true):=fun k h hm=>by
  rw [hrn'] at hm;rcases QF.1 hm with hm | hm
  . obtain ⟨k',hk',e⟩:=ZS.1 hm;obtain ⟨rfl,rfl⟩:=YT e;have:=QM.1 c6 k' hk';simp only [QE] at this
    exact .inr ⟨by simpa [ZQ] using this.1.1,by simpa using this.1.2,this.2⟩
  . exact .inl hm
 have lenM:∀ h,(D6 E rn).any (Nat.beq h) = false->s.clean h = true \/ A3 (B4 E hb s q y).2.boxes h = A3 s.boxes h:=fun h hk=>by
  cases hw:It rn h with
  | none=>exact lenS h (.inr fun k e=>by rw [hw] at e;cases e)
  | some k =>
   rcases newC k h (Yx hw) with h1 | h1
   . exact lenS h (.inr fun k' e=>by rw [hw] at e;obtain rfl:=QA e;exact ⟨h1,hk⟩)
   . exact .inl h1.2.2
 have cleanS:∀ {t:Nat} {z:SV} {h:Nat},A0 t s.slots = some z->s.clean h = true->z.men h = false:=fun {t z h} hz hcl=>by
  unfold St3.clean at hcl;simp only [QE,QM,ZJ] at hcl;exact hcl.1 _ (C4 hz)
 have Np:∀ {t:Nat} {z:B3} {h:Nat},A0 t s.boxes = some z->s.clean h = true->z.men h = false:=fun {t z h} hz hcl=>by
  unfold St3.clean at hcl;simp only [QE,QM,ZJ] at hcl;exact hcl.2 _ (C4 hz)
 have hval:(B4 E hb s q y).1.s (A3 (B4 E hb s q y).2.boxes) = ((Gt (Bp 0 E.rs (Lb y))).s (A3 (Ay E y))).ren (Ib rn):=by
  have:(B4 E hb s q y).1 = (Gt (Bp 0 E.rs (Lb y))).ren3 (Ib rn):=by rw [<- hrn];rfl
  rw [this];refine Aq7 (p:=fun k=>(A0 k (Ay E y)).isSome) (fun k hk=>?_) c9;rw [Ex c2 k] at hk;obtain ⟨h',hh'⟩:=ZC.1 hk;have hm':=Ce hh';rw [(fwdm k h' hm').1,lenk k h' hm']
 have hput:=P8 (nt:=nt) hp;rw [hval] at hput
 let cb:CallB:=⟨E.ts.map PK.isIm,(Bp 1000 E.ts x).map (SV.v (A3 (Jb E x))),(Gt (Bp 0 E.rs (Lb y))).s (A3 (Ay E y)),Br (Jb E x),Br (Ay E y),Ib rn,It rn,fun k h=>q.any fun p=>Nat.beq p.1 k && Nat.beq p.2 h,(B4 E hb s q y).2.st nt⟩
 have hok:cb.OK P E.f (s.st nt) bor:=by
  refine ⟨hF,fun k h hq=>?_,fun k hk=>?_,fun h k hk=>?_,fun k b hb=>?_,fun k b hb=>?_,?_,?_,a3,fun h=>?_,fun t z hz=>?_⟩
  . obtain ⟨p,hp1,hp2⟩:=XB.1 hq;simp only [QE] at hp2;have e1:=QC hp2.1;have e2:=QC hp2.2
    have hm':(k,h) ∈ q:=by rw [<- e1,<- e2];exact hp1
    refine ⟨(fwdm k h (qrn _ hm')).1,?_⟩;show (A0 k (Br (Jb E x))).isSome = true;rw [inS k,(Mi c1q hm').1];rfl
  . have hk:(A0 k (Br (Ay E y))).isSome = true:=hk;rw [outS k] at hk;obtain ⟨h',hh'⟩:=ZC.1 hk;obtain ⟨e1,e2,_⟩:=fwdm k h' (Ce hh');show It rn (Ib rn k) = some k;rw [e1,e2]
  . have hk:It rn h = some k:=hk;obtain ⟨e1,e2,e3⟩:=fwdm k h (Yx hk);refine ⟨e1,?_⟩;show (A0 k (Br (Ay E y))).isSome = true;rw [outS k,e3];rfl
  . have hb:A0 k (Br (Jb E x)) = some b:=hb;unfold Br at hb;rw [Ac] at hb;obtain ⟨b3,hb3,rfl⟩:=QB.1 hb;have hmem:=C4 hb3;obtain ⟨h',b',i1,i2,i3,i4,i5⟩:=a4 k b3 hmem;obtain ⟨e1,e2,e3⟩:=fwdm k h' (qrn _ i1);have hk:=QM.1 c4 _ hmem;have hnb:=QM.1 c7 _ i1
    refine ⟨by simpa using hk,?_,(i5 _).1,(i5 _).2,?_,?_⟩
    . show A0 (Ib rn k) (Ag (B3.box (A3 s.boxes)) s.boxes) = _;rw [e1,Ac,i2];exact XU some (i4 _ _)
    . show Ib rn k ∉ bor;rw [e1];intro hmb
      have:(bor.any (Nat.beq h')) = true:=XB.2 ⟨h',hmb,by simp⟩
      simp only [this,ZO] at hnb
      cases hnb
    . show (A0 k (Br (Ay E y))).isSome = true;rw [outS k,e3];rfl
  . have hb:A0 k (Br (Ay E y)) = some b:=hb
    have hS:(A0 k (Br (Ay E y))).isSome = true:=by rw [hb];rfl
    rw [outS k] at hS;obtain ⟨h',hh'⟩:=ZC.1 hS;obtain ⟨e1,e2,e3⟩:=fwdm k h' (Ce hh');unfold Br at hb;rw [Ac] at hb;obtain ⟨b3,hb3,rfl⟩:=QB.1 hb;refine ⟨(A98 (L':=fun _=>0) (QM.1 c5 _ (C4 hb3))).2,fun hn=>?_⟩;have hn:A0 k (Br (Jb E x)) = none:=hn;rcases newC k h' (Ce hh') with h1 | ⟨h1,h2,_⟩
    . have:(A0 k (Br (Jb E x))).isSome = true:=by rw [inS k,(Mi c1q h1).1];rfl
      rw [hn] at this;cases this
    . show A0 (Ib rn k) (Ag _ s.boxes) = none /\ Ib rn k < 1000;rw [e1,Ac,h2];exact ⟨rfl,h1⟩
  . simp only [XL,YF,QE] at c8;rcases c8 with c8 | ⟨c8,c8'⟩
    . exact .inl c8
    . refine .inr ⟨Baw c8,fun k b hb=>?_⟩;have hb:A0 k (Br (Ay E y)) = some b:=hb;unfold Br at hb;rw [Ac] at hb;obtain ⟨b3,hb3,rfl⟩:=QB.1 hb;exact B9e (QM.1 c8' _ (C4 hb3))
  . have : (fun k => (A0 k (Br (Ay E y))).isSome) = fun k => (A0 k (Ay E y)).isSome := by
     funext k;unfold Br;rw [Ac,KU]
    show S.okH (fun k=>(A0 k (Br (Ay E y))).isSome) _ = true;rw [this];exact B9s c9
  . show A0 h (Ag (B3.box (A3 (B4 E hb s q y).2.boxes)) (B4 E hb s q y).2.boxes) = match It rn h with | some k=>A0 k (Br (Ay E y)) | none=>A0 h (Ag (B3.box (A3 s.boxes)) s.boxes)
    rw [Ac,blook h]
    cases hw:It rn h with
    | some k =>
     simp only;unfold Br;rw [Ac]
     cases hb:A0 k (Ay E y) with
     | none=>rfl
     | some b3=>exact XU some (A98 (QM.1 c5 _ (C4 hb))).1
    | none =>
     simp only;rw [Ac]
     cases hb:A0 h s.boxes with
     | none=>rfl
     | some b3 =>
      refine XU some (Tk fun k hk=>?_)
      cases hki:(D6 E rn).any (Nat.beq k) with
      | true =>
       obtain ⟨k2,hk2,hk3⟩:=XB.1 hki;obtain rfl:=QC hk3;have:=QM.1 (QM.1 c10 _ hk2) _ (C4 hb);simp only [hk,ZO] at this
       cases this
      | false =>
       rcases lenM k hki with h1 | h1
       . rw [Np hb h1] at hk;cases hk
       . exact h1
  . have hz:A0 t (Ag (SV.s (A3 (B4 E hb s q y).2.boxes)) (Ag (fun x=>bif (D6 E (I4 E hb q)).any (fun h=>x.men h) then .dead else x) s.slots)) = some z:=hz
    rw [hrn,Ac,Ac,Option.map_map] at hz;obtain ⟨z0,hz0,rfl⟩:=QB.1 hz;simp only [Function.comp]
    cases hki:(D6 E rn).any (fun h=>z0.men h) with
    | true=>exact .inl rfl
    | false =>
     right;show A0 t (Ag (SV.s (A3 s.boxes)) s.slots) = _;rw [Ac,hz0];refine XU some (Acs fun k hk=>?_)
     cases hki':(D6 E rn).any (Nat.beq k) with
     | true =>
      obtain ⟨k2,hk2,hk3⟩:=XB.1 hki';obtain rfl:=QC hk3;have:=XF.1 hki _ hk2;rw [hk] at this;exact absurd rfl this
     | false =>
      rcases lenM k hki' with h1 | h1
      . rw [cleanS hz0 h1] at hk;cases hk
      . exact h1.symm
 refine ⟨{ callB:=some cb },cb.OK P E.f (s.st nt) bor :: ob,?_,fun p hp=>?_⟩
 . have a1' : He cb.hd (s.st nt).box cb.ims (c.args.toList.map (s.st nt).val ++ cs.map fun x => S.v (V.one (C.i x))) cb.args = some (ob, bor) := by
    rw [hmap];exact a1
   simp only [C9,Abo,hf,hfv,k1,a1'];have:cb.s'.putD K dst (cb.r.ren cb.σ) = some (s'.st nt):=hput;rw [this];rfl
 . rcases QT.1 hp with rfl | hp
   . exact hok
   . exact a2 p hp
def onB {α:Type} (K:Ak) (E:Iy) (hb:Nat) (o:Oper) (s:St3) (x:HP E.ts) (bor:List Nat) (q:List (Nat × Nat)) (y:HR E.rs (Am 1000 E.ts)) (k:St3->Option α):Option α :=
 bif Fw E hb s x bor q y then bif Fi (Ay E y) s.boxes (D6 E (I4 E hb q)) q then (match (B4 E hb s q y).2.put3 K o.dst (B4 E hb s q y).1 with
  | some s'=>k s'
  | none=>none) else none else none
def P6 {α:Type} (K:Ak) (E:Ent3) (hb:Nat) (o:Oper) (s:St3) (k:St3->Option α):Option α :=
 match Is E.f E.ts o s with
 | some (g,x,bor,q)=>bif g then (match E.m x with
  | some z=>Ir (Am 1000 E.ts) E.forms z fun rs y=>onB K ⟨E.f,E.ts,rs⟩ hb o s x bor q y k
  | none=>none) else none
 | none=>none
theorem Ug {α:Type} {K:Ak} {E:Ent3} {hb:Nat} {o:Oper} {s:St3} {nt:Nat} {k:St3->Option α} {r:α} (h:P6 K E hb o s k = some r) (hE:E.Sound P) :
  ∃ s' D obs,C9 P T K o D (s.st nt) = some (s'.st nt,obs) /\ (∀ p ∈ obs,p) /\ k s' = some r:=by
 unfold P6 at h;split at h
 . rename_i g x bor q hc
   cases g with
   | false=>cases h
   | true =>
    simp only [cond] at h;split at h
    . rename_i z hm;obtain ⟨rs,y,h1,h2⟩:=Lp h (hE nt x z hm);unfold onB at h1
      cases hck:Fw ⟨E.f,E.ts,rs⟩ hb s x bor q y with
      | false=>rw [hck] at h1;cases h1
      | true =>
       rw [hck] at h1;simp only [cond] at h1
       cases hl:Fi (Ay ⟨E.f,E.ts,rs⟩ y) s.boxes (D6 ⟨E.f,E.ts,rs⟩ (I4 ⟨E.f,E.ts,rs⟩ hb q)) q with
       | false=>rw [hl] at h1;cases h1
       | true =>
        rw [hl] at h1;simp only at h1;split at h1
        . rename_i s' hp;obtain ⟨D,obs,q1,q2⟩:=Ab4 (T:=T) (E:=⟨E.f,E.ts,rs⟩) hc hck hl h2 hp;exact ⟨s',D,obs,q1,q2,h1⟩
        . cases h1
    . cases h
 . cases h
end Go.Ev

/- DERIVED. Trees over shapes: the function's own boxes stored into a tree, or appended to it. -/
namespace Go.Ev
open Go
variable {P:Program} {T:Ty}
def Alp (bs:List (Nat × B3)) (h:Nat):SV->Option (Bool × SV × List Nat)
 | .hw k=>match A0 k bs with
  | some (.arr e sh false ys)=>bif Nat.blt k 1000 && !Nat.beq k h && sh.lits && (Nat.beq e D7 && Nat.beq sh.size 1) then some (true,.d (.sl sh) ys,[k]) else none
  | _=>none
 | .d (.sl sh) ys=>some (ys.isEmpty,.d (.sl sh) ys,[])
 | .d t x=>bif t.one && t.lits then some (true,.d t x,[]) else none
 | _=>none
def Mc (bs:List (Nat × B3)) (h:Nat):List SV->Option (Bool × List SV × List Nat)
 | []=>some (true,[],[])
 | c :: r=>match Alp bs h c,Mc bs h r with
  | some (g,c',ks),some (g',r',ks')=>some (g && g',c' :: r',ks ++ ks')
  | _,_=>none
def A6c (bs:List (Nat × B3)) (k:Nat):I:=match A0 k bs with
 | some (.arr _ sh _ ys)=>.sl 0 false sh.size (ys.map sh.cells)
 | _=>.any
structure B9f (bs:List (Nat × B3)) (h k:Nat):Prop where
 lt:k < 1000
 ne:k ≠ h
 at_:∃ e sh ys,A0 k bs = some (.arr e sh false ys) /\ sh.lits = true /\ e = D7 /\ sh.size = 1
theorem Awo {L:Nat->Nat} {bs:List (Nat × B3)} {h:Nat} {c c':SV} {g:Bool} {ks:List Nat} (hc:Alp bs h c = some (g,c',ks)) (hg:g = true) :
  (c.c L).okT = true /\ c.cellB = true /\ c'.isD = true /\ (c.c L).men h = false /\ ((ks = [] /\ (∀ k,c.menC k = false) /\ c'.c L = c.c L /\ ∃ y,c.c L = .i y) \/ ∃ k,ks = [k] /\ c = .hw k /\ B9f bs h k /\ c'.c L = .i (A6c bs k)):=by
 unfold Alp at hc;split at hc
 . rename_i k;split at hc
   . rename_i e sh ys hl
     cases hb:(Nat.blt k 1000 && !Nat.beq k h && sh.lits && (Nat.beq e D7 && Nat.beq sh.size 1)) with
     | false=>rw [hb] at hc;cases hc
     | true =>
      rw [hb] at hc;simp only [cond,QD,QG] at hc;obtain ⟨_,rfl,rfl⟩:=hc;simp only [QE,ZJ] at hb;have hne:k ≠ h:=Kw hb.1.1.2
      refine ⟨rfl,rfl,rfl,Gs hne,.inr ⟨k,rfl,rfl,⟨by have:=hb.1.1.1;simpa [ZQ] using this,hne,e,sh,ys,hl,hb.1.2,QC hb.2.1,QC hb.2.2⟩,?_⟩⟩
      simp only [A6c,hl,SV.c,Sh.cells,hd1]
   . cases hc
 . rename_i sh ys;simp only [QD,QG] at hc;obtain ⟨h1,rfl,rfl⟩:=hc
   have:ys = []:=by rw [<- h1] at hg;simpa using hg
   subst this;exact ⟨rfl,rfl,rfl,rfl,.inl ⟨rfl,fun _=>rfl,rfl,_,rfl⟩⟩
 . rename_i t x _
   cases hb:(t.one && t.lits) with
   | false=>rw [hb] at hc;cases hc
   | true =>
    rw [hb] at hc;simp only [cond,QD,QG] at hc;obtain ⟨_,rfl,rfl⟩:=hc;simp only [QE] at hb
    have:∃ v,hd1 (t.cells x) = .lit v:=by
     cases hx:t.cells x with
     | nil=>have:=t.cells_len x;rw [hx] at this;exact ⟨_,rfl⟩
     | cons y r=>obtain ⟨v,hv⟩:=A40 t x hb.2 y (by rw [hx];simp);exact ⟨v,hv⟩
    obtain ⟨v,hv⟩:=this
    refine ⟨by simp only [SV.c,hv];rfl,hb.1,hb.1,rfl,.inl ⟨rfl,fun _=>rfl,rfl,_,rfl⟩⟩
 . cases hc
theorem Nv {L:Nat->Nat} {bs:List (Nat × B3)} {h:Nat}:∀ {cs cs':List SV} {g:Bool} {ks:List Nat},Mc bs h cs = some (g,cs',ks)->g = true->ks.Nodup ->
  (cs.map (SV.c L)).all C.okT = true /\ cs.all SV.cellB = true /\ (∀ c ∈ cs.map (SV.c L),c.men h = false) /\ (∀ k ∈ ks,B9f bs h k /\ ∃ col,cs[col]? = some (.hw k) /\ ∀ (j:Nat) (c:SV),cs[j]? = some c->j ≠ col->c.menC k = false) /\
  (∀ ks',(∀ k ∈ ks,k ∈ ks')->(cs.map (SV.c L)).map (Oz ks' (A6c bs)) = cs'.map (SV.c L)) /\ (∀ k,k ∉ ks->∀ c ∈ cs,c.menC k = false)
 | [],cs',g,ks,hc,_,_=>by
  simp only [Mc,QD,QG] at hc;obtain ⟨_,rfl,rfl⟩:=hc
  exact ⟨rfl,rfl,fun c h=>by simp at h,fun k h=>by simp at h,fun _ _=>rfl,fun k _ c h=>by simp at h⟩
 | c :: r,cs',g,ks,hc,hg,hn=>by
  simp only [Mc] at hc;split at hc
  . rename_i g1 c1 k1 g2 r2 k2 h1 h2;simp only [QD,QG] at hc;obtain ⟨rfl,rfl,rfl⟩:=hc;simp only [QE] at hg;obtain ⟨a1,a2,a3,a4,a5⟩:=Awo (L:=L) h1 hg.1;obtain ⟨n1,n2,n3⟩:=List.nodup_append.1 hn;obtain ⟨b1,b2,b3,b4,b5,b6⟩:=Nv (L:=L) h2 hg.2 n2
    refine ⟨by simp only [QX,XZ,a1,b1,ZD],by simp only [XZ,a2,b2,ZD],fun x hx=>?_,fun k hk=>?_,fun ks' hks=>?_,fun k hk x hx=>?_⟩
    . rcases QT.1 hx with rfl | hx
      . exact a4
      . exact b3 x hx
    . rcases QF.1 hk with hk1 | hk3
      . rcases a5 with ⟨rfl,_⟩ | ⟨k0,rfl,rfl,t0,_⟩
        . simp at hk1
        . obtain rfl:k = k0:=by simpa using hk1
          refine ⟨t0,0,rfl,fun j x hj hne=>?_⟩
          cases j with
          | zero=>exact absurd rfl hne
          | succ j =>
           have hj:r[j]? = some x:=by simpa using hj
           exact b6 k (fun hk2=>n3 k (by simp) k hk2 rfl) x (QV hj)
      . obtain ⟨t0,col,q1,q2⟩:=b4 k hk3
        refine ⟨t0,col + 1,by simpa using q1,fun j x hj hne=>?_⟩
        cases j with
        | zero =>
         obtain rfl:c = x:=by simpa using hj
         rcases a5 with ⟨_,hm,_⟩ | ⟨k0,rfl,rfl,_,_⟩
         . exact hm k
         . exact Gs fun e=>n3 k0 (by simp) k hk3 e
        | succ j=>exact q2 j x (by simpa using hj) (by omega)
    . simp only [QX]
      rw [b5 ks' fun k hk=>hks k (by simp [hk])]
      congr 1;rcases a5 with ⟨_,_,e1,y,e2⟩ | ⟨k0,rfl,rfl,_,e1⟩
      . rw [e1,e2];rfl
      . rw [e1]
        have:ks'.any (Nat.beq k0) = true:=XB.2 ⟨k0,hks k0 (by simp),XA k0⟩
        simp only [SV.c,Oz,this,cond]
    . rcases QT.1 hx with rfl | hx
      . rcases a5 with ⟨_,hm,_⟩ | ⟨k0,rfl,rfl,_,_⟩
        . exact hm k
        . exact Gs fun e=>hk (by simp [e])
      . exact b6 k (fun h=>hk (by simp [h])) x hx
  . cases hc
def Kc:List Nat->Bool
 | []=>true
 | k :: r=>!r.any (Nat.beq k) && Kc r
theorem Kb:∀ {l:List Nat},Kc l = true->l.Nodup
 | [],_=>List.nodup_nil
 | k :: r,h=>by
  simp only [Kc,QE,ZJ] at h
  exact YV.2 ⟨fun hk=>by have:=XF.1 h.1 k hk;simp at this,Kb h.2⟩
def Fm (ks:List Nat) (sl:List (Nat × SV)):List (Nat × SV):=Ag (fun x=>bif ks.any (fun k=>x.men k) then .dead else x) sl
def Qd (h:Nat) (skip ks:List Nat) (bs:List (Nat × B3)):Bool:=bs.all fun p=>Nat.beq p.1 h || skip.any (Nat.beq p.1) || ks.all fun k=>!p.2.men k
def Qk (T:Ty) (o:Oper) (s:St3):Option (Bool × St3) :=
 match o.op,o.dst with
 | .store t a x,none=>match T t,s.val a,s.val x with
  | some ti,.hp h row 0,.agg cs=>match A0 h s.boxes with
   | some (.tree e sh false xs)=>match Mc s.boxes h cs with
    | some (g,cs',ks)=>match sh.all false cs' with
     | some y=>bif Nat.beq ti.size sh.size && SV.fits3 ti (.agg cs) && Kc ks && Qd h [] (h :: ([] ++ ks)) s.boxes then
       some (g && decide (row < xs.length),{ slots:=Fm ks s.slots,boxes:=Ah h (.tree e sh false (xs.set row y)) (Hm ks s.boxes) }) else none
     | none=>none
    | none=>none
   | _=>none
  | _,_,_=>none
 | _,_=>none
theorem Hx {L:Nat->Nat} {b:B3} {k:Nat} (hb:b.men k = false):∀ (i:Nat) (r:List C) (j:Nat) (c:C),(b.box L).rows[i]? = some r->r[j]? = some c->c.men k = false:=by
 have lst:∀ (cs:List SV),cs.any (SV.menC k) = false->∀ (j:Nat) (c:C),(cs.map (SV.c L))[j]? = some c->c.men k = false:=by
  intro cs h j c hj;rw [QL] at hj;obtain ⟨x,hx,rfl⟩:=QB.1 hj;rw [Pb];exact G0 h hx
 intro i r j c hi hj
 cases b with
 | hole e t fz xs row col k0 =>
  have hm:(B3.hole e t fz xs row col k0 |>.box L).men k = false:=Ald hb;simp only [Box.men] at hm;have:=XF.1 hm r (QV hi);simp only [XB,not_exists,not_and,Qaj] at this;exact this c (QV hj)
 | arr e t fz xs =>
  simp only [B3.box,QL] at hi;obtain ⟨x,_,rfl⟩:=QB.1 hi;rw [QL] at hj;obtain ⟨y,_,rfl⟩:=QB.1 hj;rfl
 | tree e t fz xs =>
  simp only [B3.box,QL] at hi;obtain ⟨x,_,rfl⟩:=QB.1 hi;rw [QL] at hj;obtain ⟨y,_,rfl⟩:=QB.1 hj;rfl
 | rep e fz n cs =>
  simp only [B3.box,XO] at hi;split at hi
  . obtain rfl:=QA hi;exact lst cs hb j c hj
  . cases hi
 | var e hf fz cs =>
  simp only [B3.box] at hi
  cases i with
  | zero=>obtain rfl:=QA hi;exact lst cs hb j c hj
  | succ i=>simp at hi
theorem Ku {h:Nat} {skip ks:List Nat} {bs:List (Nat × B3)} (hc:Qd h skip ks bs = true) {j:Nat} {b:B3} (hj:A0 j bs = some b) (h1:j ≠ h) (h2:j ∉ skip):∀ k ∈ ks,b.men k = false:=by
 intro k hk;have:=QM.1 hc _ (C4 hj);simp only [XL,QM,ZJ] at this;rcases this with (h3 | h3) | h3
 . exact absurd (QC h3) h1
 . obtain ⟨x,hx,he⟩:=XB.1 h3;exact absurd (QC he ▸ hx) h2
 . exact h3 k hk
theorem Za {s s':St3} {nt:Nat} {S1:St} {h row:Nat} {e:TypeId} {sh:Sh} {xs':List sh.den} {y:sh.den} {cs cs':List SV} {g0:Bool} {ks dl:List Nat} {hf1:Bool} {rows1:List (List C)}
  (hn:S1.nt = nt) (hsl:∀ t x,A0 t (s'.st nt).slots = some x->x = .dead \/ A0 t S1.slots = some x) (hm:∀ k ∈ dl ++ ks,∀ t x,A0 t (s'.st nt).slots = some x->x.men k = false)
  (hb1:A0 h S1.boxes = some ⟨e,sh.size,hf1,false,rows1,true⟩) (hrow:rows1[row]? = some (cs.map (SV.c (A3 s.boxes))))
  (hoth:∀ (i:Nat) (q:List C) (j:Nat) (c:C),i ≠ row->rows1[i]? = some q->q[j]? = some c->∃ y,c = .i y)
  (hj:∀ j,j ≠ h->A0 j S1.boxes = (A0 j s.boxes).map (B3.box (A3 s.boxes)))
  (ht:Mc s.boxes h cs = some (g0,cs',ks)) (hg:g0 = true) (hnd:Kc ks = true) (hy:sh.all false cs' = some y)
  (hdl:∀ k ∈ dl,k < 1000 /\ k ≠ h /\ k ∉ ks) (hd1:dl.length <= 1) (hcl:Qd h dl (h :: (dl ++ ks)) s.boxes = true)
  (hs':s'.boxes = Ah h (.tree e sh false xs') (Hm (dl ++ ks) s.boxes)) (hxs:rows1.set row ((sh.cells y).map .i) = xs'.map fun x=>(sh.cells x).map .i)
  (hself:∀ (i:Nat) (r:List C) (j:Nat) (c:C),rows1[i]? = some r->r[j]? = some c->∀ k ∈ dl,c.men k = false):Bx S1 (s'.st nt):=by
 obtain ⟨f1,f2,f3,f4,f5,f6⟩:=Nv (L:=A3 s.boxes) ht hg (Kb hnd);obtain ⟨y1,_,_,_⟩:=Cf hy
 let b1:Box:=⟨e,sh.size,hf1,false,rows1,true⟩
 let S2:St:={ S1 with slots:=(s'.st nt).slots }
 have w1:Bx S1 S2:=Cp rfl hsl fun _=>rfl
 have w2:Bx S2 { S2 with boxes:=Hm dl S1.boxes }:=by
  rcases dl with _ | ⟨k,_ | ⟨k2,r⟩⟩
  . exact Cp rfl (fun t x hx=>.inr hx) fun _=>rfl
  . refine Acb (s:=S2) (hdl k (by simp)).1 (fun t x hx=>hm k (by simp) t x hx) (fun j b hjk hb=>?_)
    by_cases e1:j = h
    . subst e1;rw [show A0 j S2.boxes = some b1 from hb1] at hb;obtain rfl:=QA hb
      exact fun i r j' c hi hc=>hself i r j' c hi hc k (by simp)
    . rw [show A0 j S2.boxes = _ from hj j e1] at hb;obtain ⟨b3,hb3,rfl⟩:=QB.1 hb
      exact Hx (Ku hcl hb3 e1 (by simpa using hjk) k (by simp))
  . simp at hd1
 let S3:St:={ S2 with boxes:=Hm dl S1.boxes }
 have hdl':∀ k ∈ dl,∀ j,j ∈ ks->j ≠ k:=fun k hk j hj e=>(hdl k hk).2.2 (e ▸ hj)
 have l3:∀ j,A0 j S3.boxes = bif dl.any (Nat.beq j) then none else A0 j S1.boxes:=fun j=>Dq dl _ j
 have nodl:∀ j,j ∉ dl->dl.any (Nat.beq j) = false:=fun j hj=>XF.2 fun x hx=>by
  intro e;exact hj (QC e ▸ hx)
 have hdlh:h ∉ dl:=fun hh=>(hdl h hh).2.1 rfl
 have ok:Apk S3 h row b1 (cs.map (SV.c (A3 s.boxes))) ks (A6c s.boxes):=by
  refine ⟨by rw [l3,nodl h hdlh];exact hb1,rfl,hrow,hoth,Kb hnd,fun k hk=>?_,fun k hk=>hm k (by simp [hk]),fun k hk i b' h1 h2 hl=>?_⟩
  . obtain ⟨⟨t1,t2,e',sh',ys,t3,t4,t5,t6⟩,col,q1,q2⟩:=f4 k hk;have hkd:k ∉ dl:=fun hh=>hdl' k hh k hk rfl
    refine ⟨t2,t1,(B3.arr e' sh' false ys).box (A3 s.boxes),ys.map sh'.cells,col,A3 s.boxes k,by rw [l3,nodl k hkd];show A0 k S1.boxes = _;rw [hj k t2,t3];rfl,rfl,rfl,by rw [QL,q1];rfl,by simp [A3,t3,B3.len,B3.box],by simp only [B3.box,XH];rfl,fun i q j z hi hz=>?_,by simp only [A6c,t3,B3.box],(fun j c hjj hne=>?_),t5,t6⟩
    . rw [QL] at hi;obtain ⟨u,_,rfl⟩:=QB.1 hi;exact A40 sh' u t4 z (QV hz)
    . rw [QL] at hjj;obtain ⟨u,hu,rfl⟩:=QB.1 hjj;rw [Pb];exact q2 j u hu hne
  . rw [l3] at hl;by_cases e1:i ∈ dl
    . have:dl.any (Nat.beq i) = true:=XB.2 ⟨i,e1,XA i⟩;rw [this] at hl;cases hl
    . rw [nodl i e1] at hl;rw [show A0 i S1.boxes = _ from hj i h2] at hl;obtain ⟨b3,hb3,rfl⟩:=QB.1 hl
      exact Hx (Ku hcl hb3 h2 e1 k (by simp [hk]))
 have w3:=Alk ks ok
 have er:(cs.map (SV.c (A3 s.boxes))).map (Oz ks (A6c s.boxes)) = (sh.cells y).map .i:=by rw [f5 ks fun _ h=>h,y1 (A3 s.boxes)]
 rw [er] at w3;have hrow':b1.rows.set row ((sh.cells y).map .i) = xs'.map fun x=>(sh.cells x).map .i:=hxs;rw [hrow'] at w3
 refine w1.trans (w2.trans (w3.trans ((B15 (h:=h) (b:=⟨e,sh.size,bif ks.isEmpty then hf1 else false,false,xs'.map fun x=>(sh.cells x).map .i,true⟩) (A7 _ _ _) (fun i r j c hi hc=>?_)).trans (Cp hn.symm (fun t x hx=>.inr hx) fun j=>?_))))
 . rw [QL] at hi;obtain ⟨x,_,rfl⟩:=QB.1 hi;rw [QL] at hc;obtain ⟨z,_,rfl⟩:=QB.1 hc;exact ⟨z,rfl⟩
 . show A0 j (Ag (B3.box (A3 s'.boxes)) s'.boxes) = A0 j (Ah h _ (Ah h _ (Hm ks S3.boxes)));rw [Ac,hs'];by_cases e1:j = h
   . subst e1;rw [A7,A7];rfl
   . rw [A9 _ _ e1,A9 _ _ e1,A9 _ _ e1,Dq,Dq,l3];rw [List.any_append]
     cases hd:dl.any (Nat.beq j) with
     | true=>cases ks.any (Nat.beq j) <;> rfl
     | false =>
      cases hk:ks.any (Nat.beq j) with
      | true=>rfl
      | false =>
       show (A0 j s.boxes).map _ = A0 j S1.boxes;rw [hj j e1]
       cases hl:A0 j s.boxes with
       | none=>rfl
       | some b3 =>
        simp only [QP];congr 1
        have hjd:j ∉ dl:=fun hh=>by
         have:=XF.1 hd j hh;simp at this
        refine Tk fun k hk2=>?_
        have hkn:k ∉ dl ++ ks:=fun hh=>by rw [Ku hcl hl e1 hjd k (by simp only [QT];exact .inr hh)] at hk2;cases hk2
        have hka:(dl ++ ks).any (Nat.beq k) = false:=XF.2 fun x hx e=>hkn (QC e ▸ hx);by_cases e2:k = h
        . subst e2
          rw [Ku hcl hl e1 hjd k (by simp)] at hk2;cases hk2
        . simp only [A3];rw [A9 _ _ e2,Dq,hka];rfl
theorem Dr {L L':Nat->Nat} {ks:List Nat} {sl:List (Nat × SV)} (hL:∀ k,k ∉ ks->L' k = L k) {t:Nat} {x:S} (h:A0 t (Ag (SV.s L') (Fm ks sl)) = some x) :
  x = .dead \/ ∃ sv,A0 t sl = some sv /\ x = sv.s L /\ ∀ k ∈ ks,sv.men k = false:=by
 rw [Ac] at h;obtain ⟨z,hz,rfl⟩:=QB.1 h;unfold Fm at hz;rw [Ac] at hz;obtain ⟨sv,hsv,rfl⟩:=QB.1 hz
 cases hc:ks.any (fun k=>sv.men k) with
 | true=>exact .inl rfl
 | false =>
  have hno:∀ k ∈ ks,sv.men k = false:=fun k hk=>by
   have:=XF.1 hc k hk;simpa using this
  refine .inr ⟨sv,hsv,?_,hno⟩;simp only [cond]
  exact Acs fun k hk=>hL k fun hh=>by rw [hno k hh] at hk;cases hk
theorem Alu {r cs:List C} (h:r.length = cs.length):C3 r 0 cs = cs:=by
 unfold C3
 rw [List.take_zero,KJ,XS,ZF (by omega),XE]
theorem Abb (hT:As P T) {K:Ak} {o:Oper} {s s':St3} {nt:Nat} {g:Bool} (h:Qk T o s = some (g,s')) (hg:g = true):Cb P K o (s.st nt) (s'.st nt):=by
 unfold Qk at h;split at h
 . rename_i t a x hop hdst;split at h
   . rename_i ti hh row cs hti ha hx;split at h
     . rename_i e sh xs hl;split at h
       . rename_i g1 cs' ks ht;split at h
         . rename_i y hy
           cases hc:(Nat.beq ti.size sh.size && SV.fits3 ti (.agg cs) && Kc ks && Qd hh [] (hh :: ([] ++ ks)) s.boxes) with
           | false=>rw [hc] at h;cases h
           | true =>
            rw [hc] at h;simp only [cond,QD,QG] at h;obtain ⟨h1,rfl⟩:=h;rw [hg] at h1;simp only [QE,QR] at h1 hc;obtain ⟨hg1,hrl⟩:=h1;obtain ⟨⟨⟨c1,c2⟩,c3⟩,c4⟩:=hc;have c1:=QC c1;obtain ⟨f1,f2,f3,f4,f5,f6⟩:=Nv (L:=A3 s.boxes) ht hg1 (Kb c3);have hva:(s.st nt).val a = .v (.one (.hp hh row 0)):=B6 ha rfl;have hvx:(s.st nt).val x = .v (.agg (cs.map (SV.c (A3 s.boxes)))):=B6 hx rfl
            let r0:List C:=(sh.cells (xs.getD row sh.dflt)).map .i
            have hr0:((B3.tree e sh false xs).box (A3 s.boxes)).rows[row]? = some r0:=by
             simp only [B3.box,QL,QN hrl,QP,r0,QI,XP]
            have hbx:(s.st nt).box hh = some ((B3.tree e sh false xs).box (A3 s.boxes)):=by
             show A0 hh (Ag (B3.box (A3 s.boxes)) s.boxes) = _;rw [Ac,hl];rfl
            have hfit:(V.agg (cs.map (SV.c (A3 s.boxes)))).fits ti = true:=by
             have:=Mm (L:=A3 s.boxes) (ti:=ti) (x:=.agg cs);rw [c2] at this;exact this
            have hcl:(cs.map (SV.c (A3 s.boxes))).length = sh.size:=by
             have:=A9k hfit;simp only [V.cells] at this;rw [this,c1]
            have hsp:C3 r0 0 (cs.map (SV.c (A3 s.boxes))) = cs.map (SV.c (A3 s.boxes)):=Alu (by rw [hcl];simp [r0,Sh.cells_len])
            let b1:Box:={ (B3.tree e sh false xs).box (A3 s.boxes) with hf:=((B3.tree e sh false xs).box (A3 s.boxes)).hf && (cs.map (SV.c (A3 s.boxes))).all By,rows:=((B3.tree e sh false xs).box (A3 s.boxes)).rows.set row (cs.map (SV.c (A3 s.boxes))) }
            have hcore:Ck T (some r0) o (s.st nt) = some ⟨.dead,.set hh b1,[((B3.tree e sh false xs).box (A3 s.boxes)).rows[row]? = some r0]⟩:=by
             unfold Ck;rw [hop];simp only [Hw,hti,hva,hvx,hbx]
             have hcnd:(Nat.ble (0 + ti.size) ((B3.tree e sh false xs).box (A3 s.boxes)).sz && (V.agg (cs.map (SV.c (A3 s.boxes)))).fits ti && !((B3.tree e sh false xs).box (A3 s.boxes)).fz && (!((B3.tree e sh false xs).box (A3 s.boxes)).tr || (V.agg (cs.map (SV.c (A3 s.boxes)))).cells.all C.okT)) = true:=by
              simp only [hfit,V.cells,f1,B3.box,XS,c1,Nat.ble_eq_true_of_le (QY _),ZD,ZX,Bool.or_true]
             rw [hcnd];simp only [cond,V.cells,hsp];rfl
            have hstep:C9 P T K o { cells:=some r0 } (s.st nt) = some ({ s.st nt with boxes:=Ah hh b1 (s.st nt).boxes },[((B3.tree e sh false xs).box (A3 s.boxes)).rows[row]? = some r0] ++ [] ++ []):=by
             unfold C9;simp only [hcore,St.eff,St.putD,hdst,QP]
            refine (Cm hT hstep (fun p hp=>by
             rcases QF.1 hp with hp | hp
             . rcases QF.1 hp with hp | hp
               . rw [QQ.1 hp];exact hr0
               . cases hp
             . cases hp)).weak ?_
            have hrow:row < ((B3.tree e sh false xs).box (A3 s.boxes)).rows.length:=by simpa [B3.box] using hrl
            have hL:∀ k,k ∉ ks->A3 (Ah hh (.tree e sh false (xs.set row y)) (Hm ks s.boxes)) k = A3 s.boxes k:=by
             intro k hk;unfold A3;by_cases e1:k = hh
             . subst e1;rw [A7,hl];simp [B3.len]
             . rw [A9 _ _ e1,Dq];have:ks.any (Nat.beq k) = false:=XF.2 fun z hz e2=>hk (QC e2 ▸ hz);rw [this];rfl
            refine Za (dl:=[]) (h:=hh) (row:=row) (e:=e) (sh:=sh) (y:=y) (cs:=cs) (cs':=cs') (ks:=ks) (hf1:=b1.hf) (rows1:=b1.rows) (xs':=xs.set row y) rfl (fun t z hz=>?_) (fun k hk t z hz=>?_) (A7 _ _ _) (by show (_:List (List C))[row]? = _;exact ZR hrow) (fun i q j c hi hq hc=>?_) (fun j hj=>?_) ht hg1 c3 hy (fun k hk=>by simp at hk) (by simp) c4 rfl ?_ (fun _ _ _ _ _ _ k hk=>by simp at hk)
            . rcases Dr hL hz with rfl | ⟨sv,h2,rfl,_⟩
              . exact .inl rfl
              . refine .inr ?_;show A0 t (Ag (SV.s (A3 s.boxes)) s.slots) = _;rw [Ac,h2];rfl
            . rcases Dr hL hz with rfl | ⟨sv,h2,rfl,h3⟩
              . rfl
              . rw [Qx];exact h3 k (by simpa using hk)
            . have hq:(((B3.tree e sh false xs).box (A3 s.boxes)).rows.set row (cs.map (SV.c (A3 s.boxes))))[i]? = some q:=hq;rw [ZV (Ne.symm hi)] at hq;simp only [B3.box,QL] at hq;obtain ⟨u,_,rfl⟩:=QB.1 hq;rw [QL] at hc;obtain ⟨z,_,rfl⟩:=QB.1 hc;exact ⟨z,rfl⟩
            . show A0 j (Ah hh b1 (Ag (B3.box (A3 s.boxes)) s.boxes)) = _;rw [A9 _ _ hj,Ac]
            . show (((B3.tree e sh false xs).box (A3 s.boxes)).rows.set row _).set row _ = _;rw [Qaq];simp only [B3.box,JK]
         . cases h
       . cases h
     . cases h
   . cases h
 . cases h
def B5d:SV->Option Nat
 | .hs tb 0 1=>some tb
 | .hw tb=>some tb
 | _=>none
def A02 (T:Ty) (K:Ak) (o:Oper) (s:St3):Option (Bool × St3) :=
 match o.op,o.dst with
 | .call c,some kd=>match c.callee,c.args.toList,c.argTypes.toList with
  | .builtin .append,[x,y],[t,t']=>match s.val x,B5d (s.val y),Ty.d T t with
   | .hw h,some tb,some (.slice e2)=>match A0 h s.boxes,A0 tb s.boxes,T e2 with
    | some (.tree e sh false xs),some (.var _ _ _ cs),some ei=>match Mc s.boxes h cs with
     | some (g,cs',ks)=>match sh.all false cs' with
      | some z=>bif Nat.beq t t' && Nat.beq e e2 && Nat.beq ei.size sh.size && Nat.ble 1 ei.size && Nat.ble 1 ei.bytes && Nat.blt h 1000 && Nat.blt tb 1000 && !Nat.beq tb h && !ks.any (Nat.beq tb) && Kc ks && Nat.beq cs.length sh.size && Qd h [tb] (h :: ([tb] ++ ks)) s.boxes && Nat.blt kd K.N then
        some (g && decide ((xs.length + 1) * ei.bytes <= 140737488355328),{ slots:=Ah kd (.hw h) (Fm (h :: ([tb] ++ ks)) s.slots),boxes:=Ah h (.tree e sh false (xs ++ [z])) (Hm ([tb] ++ ks) s.boxes) }) else none
      | none=>none
     | none=>none
    | _,_,_=>none
   | _,_,_=>none
  | _,_,_=>none
 | _,_=>none
theorem A9g {b:Box} {h:Nat} (hb:∀ (i:Nat) (r:List C) (j:Nat) (c:C),b.rows[i]? = some r->r[j]? = some c->c.men h = false):b.kill h = b:=by
 cases hf:b.hf with
 | true=>exact J7 hf
 | false =>
  have e:b.kill h = { b with rows:=b.rows.map fun r=>r.map fun c=>bif c.men h then .i .any else c }:=by unfold Box.kill;rw [hf];rfl
  have:(b.rows.map fun r=>r.map fun c=>bif c.men h then C.i .any else c) = b.rows:=by
   refine (ZE fun r hr=>?_).trans (List.map_id _);refine (ZE fun c hc=>?_).trans (List.map_id _);obtain ⟨i,hi⟩:=Qal.1 hr;obtain ⟨j,hj⟩:=Qal.1 hc;rw [hb i r j c hi hj];rfl
  rw [e,this]
theorem B0g {α:Type} {a:Array α} {x y:α} (h:a.toList = [x,y]):a = #[x,y]:=JN h
theorem Ai1 (hT:As P T) {K:Ak} {o:Oper} {s s':St3} {nt:Nat} {g:Bool} (h:A02 T K o s = some (g,s')) (hg:g = true):Cb P K o (s.st nt) (s'.st nt):=by
 unfold A02 at h;split at h
 . rename_i c kd hop hdst;split at h
   . rename_i x y t t' hcal hargs htys;split at h
     . rename_i hh tb e2 hx hsrc hd;split at h
       . rename_i e sh xs e' hf' fz' cs ei hl hlt hei;split at h
         . rename_i g1 cs' ks ht;split at h
           . rename_i z hy
             cases hc:(Nat.beq t t' && Nat.beq e e2 && Nat.beq ei.size sh.size && Nat.ble 1 ei.size && Nat.ble 1 ei.bytes && Nat.blt hh 1000 && Nat.blt tb 1000 && !Nat.beq tb hh && !ks.any (Nat.beq tb) && Kc ks && Nat.beq cs.length sh.size && Qd hh [tb] (hh :: ([tb] ++ ks)) s.boxes && Nat.blt kd K.N) with
             | false=>rw [hc] at h;cases h
             | true =>
              rw [hc] at h;simp only [cond,QD,QG] at h;obtain ⟨h1,rfl⟩:=h;rw [hg] at h1;simp only [QE,QR,ZJ] at h1 hc;obtain ⟨hg1,hby⟩:=h1;obtain ⟨⟨⟨⟨⟨⟨⟨⟨⟨⟨⟨⟨k1,k2⟩,k3⟩,k4⟩,k5⟩,k6⟩,k7⟩,k8⟩,k9⟩,k10⟩,k11⟩,k12⟩,k13⟩:=hc;obtain rfl:=QC k1;obtain rfl:=QC k2;have k3:=QC k3;have k4:=ZY k4;have k5:=ZY k5
              have k6:hh < 1000:=by simpa [ZQ] using k6
              have k7:tb < 1000:=by simpa [ZQ] using k7
              have k8:tb ≠ hh:=Kw k8
              have k9:tb ∉ ks:=fun hk=>by have:=XF.1 k9 tb hk;simp at this
              have k11:=QC k11;obtain ⟨f1,f2,f3,f4,f5,f6⟩:=Nv (L:=A3 s.boxes) ht hg1 (Kb k10)
              have hlh:A3 s.boxes hh = xs.length:=by simp [A3,hl,B3.len]
              have hlt1:A3 s.boxes tb = 1:=by simp [A3,hlt,B3.len]
              have hva:(s.st nt).val x = .v (.one (.hs hh 0 xs.length)):=by rw [B6 hx rfl,<- hlh];rfl
              have hvy:(s.st nt).val y = .v (.one (.hs tb 0 1)):=by
               unfold B5d at hsrc;split at hsrc
               . rename_i hv;obtain rfl:=QA hsrc;exact B6 hv rfl
               . rename_i hv;obtain rfl:=QA hsrc;rw [B6 hv rfl,<- hlt1];rfl
               . cases hsrc
              let b:Box:=(B3.tree e sh false xs).box (A3 s.boxes)
              let row:List C:=cs.map (SV.c (A3 s.boxes))
              let b1:Box:={ b with hf:=row.all By,rows:=b.rows ++ [row] }
              have hb:A0 hh (s.st nt).boxes = some b:=by
               show A0 hh (Ag (B3.box (A3 s.boxes)) s.boxes) = _;rw [Ac,hl];rfl
              have hbl:b.rows.length = xs.length:=by simp [b,B3.box]
              let X:S:=.v (.one (.hs hh 0 (xs.length + 1)))
              let S1:St:={ (s.st nt).app hh b1 with slots:=Ah kd X ((s.st nt).app hh b1).slots }
              have hput:((s.st nt).app hh b1).putD K o.dst X = some S1:=by
               rw [hdst];simp only [St.putD,k13,cond];rfl
              have hden:Cb P K o (s.st nt) S1:=by
               refine Cb.of hput fun Γ w E a hK hs=>?_;have hvv:=hs.val_sound x;have hvu:=hs.val_sound y;rw [hva] at hvv;rw [hvy] at hvu
               have hbt:A0 tb (s.st nt).boxes = some ((B3.var e' hf' fz' cs).box (A3 s.boxes)):=by
                show A0 tb (Ag (B3.box (A3 s.boxes)) s.boxes) = _;rw [Ac,hlt];rfl
               obtain ⟨u',w',E',e1,e2,e3⟩:=Azy (P:=P) (ty:=o.type) hT hs hd hei k4 k5 hvv hb (by show sh.size = _;exact k3.symm) rfl rfl rfl rfl hbl.symm hvu hbt (by show cs.length = _;rw [k11,k3]) rfl (row:=row) rfl f1 f3 hby (.inl k6)
               refine ⟨_,u',w',E',?_,.inl rfl,e2,e3⟩;obtain ⟨dst,op,type,pos,after,guard⟩:=o;simp only at hop;subst hop;obtain ⟨callee,args,argTypes⟩:=c;simp only at hcal hargs htys;subst hcal;obtain rfl:=B0g hargs;obtain rfl:=B0g htys;simp [execOp,resolve,invoke,builtin,e1]
              refine hden.weak ?_
              have hL:∀ k,k ∉ hh :: ([tb] ++ ks)->A3 (Ah hh (.tree e sh false (xs ++ [z])) (Hm ([tb] ++ ks) s.boxes)) k = A3 s.boxes k:=by
               intro k hk;simp only [QT,not_or] at hk;unfold A3;rw [A9 _ _ hk.1,Dq];have:([tb] ++ ks).any (Nat.beq k) = false:=XF.2 fun q hq e2=>hk.2 (QC e2 ▸ hq);rw [this];rfl
              have hLh:A3 (Ah hh (.tree e sh false (xs ++ [z])) (Hm ([tb] ++ ks) s.boxes)) hh = xs.length + 1:=by
               unfold A3;rw [A7];simp [B3.len]
              have slot:∀ t' q,A0 t' (Ag (SV.s (A3 (Ah hh (.tree e sh false (xs ++ [z])) (Hm ([tb] ++ ks) s.boxes)))) (Ah kd (.hw hh) (Fm (hh :: ([tb] ++ ks)) s.slots))) = some q->(t' = kd /\ q = X) \/ (t' ≠ kd /\ (q = .dead \/ ∃ sv,A0 t' s.slots = some sv /\ q = sv.s (A3 s.boxes) /\ ∀ k ∈ hh :: ([tb] ++ ks),sv.men k = false)):=by
               intro t' q hq;rw [<- Cz] at hq;by_cases e1:t' = kd
               . subst e1;rw [A7] at hq;refine .inl ⟨rfl,?_⟩;rw [<- QA hq];show S.v (.one (.hs hh 0 _)) = _;rw [hLh]
               . rw [A9 _ _ e1] at hq;exact .inr ⟨e1,Dr hL hq⟩
              refine Za (dl:=[tb]) (h:=hh) (row:=xs.length) (e:=e) (sh:=sh) (y:=z) (cs:=cs) (cs':=cs') (ks:=ks) (hf1:=row.all By) (rows1:=b.rows ++ [row]) (xs':=xs ++ [z]) rfl (fun t' q hq=>?_) (fun k hk t' q hq=>?_) (A7 _ _ _) (by rw [QZ (by omega),hbl];simp;rfl) (fun i q j c' hi hq hc'=>?_) (fun j hj=>?_) ht hg1 k10 hy (fun k hk=>by obtain rfl:=QQ.1 hk;exact ⟨k7,k8,k9⟩) (by simp) k12 rfl ?_ (fun i r j c' hi hc' k hk=>?_)
              . rcases slot t' q hq with ⟨rfl,rfl⟩ | ⟨hne,rfl | ⟨sv,h2,rfl,h3⟩⟩
                . exact .inr (A7 _ _ _)
                . exact .inl rfl
                . refine .inr ?_;show A0 t' (Ah kd X (O2 hh (Ag (SV.s (A3 s.boxes)) s.slots))) = _;rw [A9 _ _ hne];unfold O2
                  rw [A08 (fun x=>bif S.men hh x then .dead else x),Ac,h2]
                  simp only [QP,Qx,h3 hh (by simp),cond]
              . rcases slot t' q hq with ⟨rfl,rfl⟩ | ⟨hne,rfl | ⟨sv,h2,rfl,h3⟩⟩
                . refine Gs fun e1=>?_;rcases QF.1 hk with hk | hk
                  . obtain rfl:=QQ.1 hk;exact k8 e1.symm
                  . exact (f4 k hk).1.ne e1.symm
                . rfl
                . rw [Qx];exact h3 k (by simp only [QT];exact .inr hk)
              . have hlt2 : i < b.rows.length := by
                 have:=(QO.1 hq).1;simp at this;omega
                rw [ZA hlt2] at hq;simp only [b,B3.box,QL] at hq;obtain ⟨u,_,rfl⟩:=QB.1 hq;rw [QL] at hc';obtain ⟨u2,_,rfl⟩:=QB.1 hc';exact ⟨u2,rfl⟩
              . show A0 j (Ah hh b1 (killB hh (Ag (B3.box (A3 s.boxes)) s.boxes))) = _;rw [A9 _ _ hj,Dp,Ac]
                cases hb3:A0 j s.boxes with
                | none=>rfl
                | some b3 =>
                 simp only [QP];congr 1;by_cases e1:j = tb
                 . subst e1;rw [hlt] at hb3;obtain rfl:=QA hb3;refine A9g fun i r j' c' hi hc'=>?_;simp only [B3.box] at hi
                   cases i with
                   | zero =>
                    obtain rfl:=QA hi;exact f3 c' (QV hc')
                   | succ i=>simp at hi
                 . exact A9g (Hx (Ku k12 hb3 hj (by simpa using e1) hh (by simp)))
              . rw [<- hbl];simp only [b,B3.box]
                rw [YX _ _ (by simp)]
                simp
              . obtain rfl:=QQ.1 hk;by_cases hlt2:i < b.rows.length
                . rw [ZA hlt2] at hi;simp only [b,B3.box,QL] at hi;obtain ⟨u,_,rfl⟩:=QB.1 hi;rw [QL] at hc';obtain ⟨u2,_,rfl⟩:=QB.1 hc';rfl
                . rw [QZ (by omega)] at hi
                  have hi0:i - b.rows.length = 0:=by have:=(QO.1 hi).1;simp at this;omega
                  rw [hi0] at hi;simp at hi;subst hi;obtain ⟨u,hu,rfl⟩:=ZS.1 (QV hc');rw [Pb];exact f6 k k9 u hu
           . cases h
         . cases h
       . cases h
     . cases h
   . cases h
 . cases h
def A01 (sh:Sh) (k:Nat) (s:St3):Option St3 :=
 match A0 k s.boxes with
 | some (.rep e false n cs)=>match sh.all true cs with
  | some x=>bif (sh.cells x).all (fun c=>(C.i c).okT) then some { s with boxes:=Ah k (.tree e sh false (List.replicate n x)) s.boxes } else none
  | none=>none
 | some (.arr e sh' false [])=>bif Nat.beq sh.size sh'.size then some { s with boxes:=Ah k (.tree e sh false []) s.boxes } else none
 | _=>none
theorem Ai0 {sh:Sh} {k:Nat} {s s':St3} {nt:Nat} (h:A01 sh k s = some s'):Bx (s.st nt) (s'.st nt):=by
 have fin:∀ {b:B3} {e:TypeId} {sh0:Sh} {xs:List sh0.den},A0 k s.boxes = some b->xs.length = b.len->Aho (b.box (A3 s.boxes)) ((B3.arr e sh0 false xs).box (A3 s.boxes)) ->
   (∀ x ∈ xs,(sh0.cells x).all (fun c=>(C.i c).okT) = true)->s' = { s with boxes:=Ah k (.tree e sh0 false xs) s.boxes }->Bx (s.st nt) (s'.st nt):=by
  intro b e sh0 xs hl hlen hsub hok hs';subst hs'
  have hL:A3 (Ah k (.tree e sh0 false xs) s.boxes) = A3 s.boxes:=by
   funext j;unfold A3;by_cases e1:j = k
   . subst e1;rw [A7,hl];exact hlen
   . rw [A9 _ _ e1]
  let ab:Box:=(B3.arr e sh0 false xs).box (A3 s.boxes)
  have hb:A0 k (s.st nt).boxes = some (b.box (A3 s.boxes)):=by
   show A0 k (Ag (B3.box (A3 s.boxes)) s.boxes) = _;rw [Ac,hl];rfl
  have w1:Bx (s.st nt) { s.st nt with boxes:=Ah k ab (s.st nt).boxes }:=fun Γ w E tmps hs=>by
   refine ⟨E,hs.sub rfl (fun t x hx=>⟨x,hx,fun _ _ _ h=>h⟩) (fun j b' hj=>?_) (fun j b' hj=>?_)⟩
   . by_cases e1:j = k
     . subst e1;have hj:A0 j (Ah j ab (s.st nt).boxes) = some b':=hj;rw [A7] at hj;obtain rfl:=QA hj;exact ⟨_,hb,hsub⟩
     . have hj:A0 j (Ah k ab (s.st nt).boxes) = some b':=hj;rw [A9 _ _ e1] at hj
       exact ⟨b',hj,⟨rfl,rfl,rfl,rfl,fun _=>rfl,rfl,fun i r hi=>⟨r,hi,rfl,fun j c hj=>⟨c,hj,Er.refl c⟩⟩,fun hf i r j' c hi hc=>by
        obtain ⟨g,cap,_,⟨arr,_,_,_,_,_,_,hI,_⟩,_⟩:=hs.boxes j b' hj
        exact hI hf i r j' c hi hc⟩⟩
   . by_cases e1:j = k
     . subst e1;show (A0 j (Ah j ab (s.st nt).boxes)).isSome = true;rw [A7];rfl
     . show (A0 j (Ah k ab (s.st nt).boxes)).isSome = true;rw [A9 _ _ e1,hj];rfl
  have w2:Bx { s.st nt with boxes:=Ah k ab (s.st nt).boxes } { s.st nt with boxes:=Ah k { ab with tr:=true } (Ah k ab (s.st nt).boxes) }:=fun Γ w E tmps hs =>
   ⟨E,Aba hs (A7 _ _ _) rfl fun i r j c hi hc=>by
    simp only [ab,B3.box,QL] at hi;obtain ⟨x,hx,rfl⟩:=QB.1 hi;rw [QL] at hc;obtain ⟨y,hy,rfl⟩:=QB.1 hc
    exact QM.1 (hok x (QV hx)) y (QV hy)⟩
  refine w1.trans (w2.trans (Cp rfl (fun t x hx=>.inr ?_) fun j=>?_))
  . have hx:A0 t (Ag (SV.s (A3 (Ah k (.tree e sh0 false xs) s.boxes))) s.slots) = some x:=hx;rw [hL] at hx;exact hx
  . show A0 j (Ag (B3.box (A3 (Ah k (.tree e sh0 false xs) s.boxes))) (Ah k (.tree e sh0 false xs) s.boxes)) = A0 j (Ah k { ab with tr:=true } (Ah k ab (Ag (B3.box (A3 s.boxes)) s.boxes)));rw [hL,Ac];by_cases e1:j = k
    . subst e1;rw [A7,A7];rfl
    . rw [A9 _ _ e1,A9 _ _ e1,A9 _ _ e1,Ac]
 unfold A01 at h;split at h
 . rename_i e n cs hl;split at h
   . rename_i x hx
     cases hc:(sh.cells x).all (fun c=>(C.i c).okT) with
     | false=>rw [hc] at h;cases h
     | true =>
      rw [hc] at h;have hs':=(QA h).symm
      have hdec:(TB.arr e sh false).dec (.rep e false n cs) = some (List.replicate n x):=by
       simp only [TB.dec,XA,BEq.rfl,ZD,cond,hx,QP]
      obtain ⟨q1,q2⟩:=A5y (L:=A3 s.boxes) hdec
      refine fin (e:=e) (sh0:=sh) (xs:=List.replicate n x) hl (by simpa [TB.enc,B3.len] using q2) q1 (fun y hy=>?_) hs'
      rw [List.eq_of_mem_replicate hy];exact hc
   . cases h
 . rename_i e sh' hl
   cases hc:Nat.beq sh.size sh'.size with
   | false=>rw [hc] at h;cases h
   | true =>
    rw [hc] at h;have hs':=(QA h).symm
    exact fin (e:=e) (sh0:=sh) (xs:=[]) hl rfl ⟨rfl,QC hc,rfl,rfl,(fun e=>by cases e),rfl,(fun i r hi=>by simp [B3.box] at hi),fun _ i r j c hi=>by simp [B3.box] at hi⟩ (fun y hy=>by cases hy) hs'
 . cases h
end Go.Ev

/- DERIVED. A slice of a tree is taken out to be written, and put back, over shapes. -/
namespace Go.Ev
open Go
variable {P:Program} {T:Ty}
theorem Cb.pre {K:Ak} {o:Oper} {s s1 s2:St} (hw:Bx s s1) (h:Cb P K o s1 s2):Cb P K o s s2:=fun Γ w E a ro n X hN hX hx hs next Q k=>by
 obtain ⟨E',hs'⟩:=hw Γ w E _ hs;exact h Γ w E' a ro n X hN hX hx hs' next Q k
def Azt {α:Type} (T:Ty) (K:Ak) (kk:Nat) (o:Oper) (s:St3) (k:St3->Option α):Option α :=
 match o.op,o.dst with
 | .load t a,some d=>match T t,s.val a with
  | some ti,.hp h row col=>match A0 h s.boxes with
   | some (.tree e sh false xs)=>match (sh.exp (xs.getD row sh.dflt))[col]? with
    | some (.d (.sl t') ys)=>bif Nat.beq ti.size 1 && !Du ti.d && Nat.ble (col + ti.size) sh.size && sh.flat && Nat.beq t'.size 1 && Nat.ble 2000 kk && (A0 kk s.boxes).isNone && s.clean kk && Nat.blt d K.N then
      (bif decide (row < xs.length) then (bif ys.isEmpty then k { s with slots:=Ah d (.d (.sl t') []) s.slots } else
       k { slots:=Ah d (.hw kk) s.slots,boxes:=Ah kk (.arr D7 t' false ys) (Ah h (.hole e sh false xs row col kk) s.boxes) }) else none) else none
    | _=>none
   | _=>none
  | _,_=>none
 | _,_=>none
theorem Ar6 {y:I} (h:Tr y):y.flatSl:=by
 rcases h with ⟨v,rfl⟩ | ⟨nl,sz,rows,rfl,hl⟩
 . trivial
 . exact ⟨rfl,hl⟩
theorem Fo {sh:Sh} {xs:List sh.den} {row:Nat} (h:row < xs.length):(xs.map fun x=>(sh.cells x).map C.i)[row]? = some ((sh.cells (xs.getD row sh.dflt)).map .i):=by
 simp only [QL,QN h,QP,QI,XP]
theorem Ahb {sh:Sh} {x:sh.den} {col:Nat} {t':Sh} {ys:List t'.den} (h:(sh.exp x)[col]? = some (.d (.sl t') ys)):((sh.cells x).map C.i)[col]? = some (.i (.sl 0 false t'.size (ys.map t'.cells))):=by
 rw [<- Il (fun _=>0),QL,h];rfl
theorem Awj {s:St3} {nt h row col kk:Nat} {e:TypeId} {sh:Sh} {xs:List sh.den} {t':Sh} {ys:List t'.den}
  (hl:A0 h s.boxes = some (.tree e sh false xs)) (hc:(sh.exp (xs.getD row sh.dflt))[col]? = some (.d (.sl t') ys)) (hrow:row < xs.length) (hfl:sh.flat = true) (h1:t'.size = 1)
  (hk:2000 <= kk) (hkn:A0 kk s.boxes = none) (hcl:s.clean kk = true) (hne:ys ≠ []) :
  Bx (s.st nt) ((⟨s.slots,Ah kk (.arr D7 t' false ys) (Ah h (.hole e sh false xs row col kk) s.boxes)⟩:St3).st nt):=by
 intro Γ w E tmps hs
 have hkh:h ≠ kk:=fun e=>by subst e;rw [hl] at hkn;cases hkn
 have hcell:=Ahb hc;rw [h1] at hcell
 have hb:A0 h (s.st nt).boxes = some ((B3.tree e sh false xs).box (A3 s.boxes)):=by
  show A0 h (Ag (B3.box (A3 s.boxes)) s.boxes) = _;rw [Ac,hl];rfl
 obtain ⟨E',hs'⟩:=A6b hs hb rfl rfl hk (by show A0 kk (Ag _ s.boxes) = _;rw [Ac,hkn];rfl) (Fo hrow) hcell (by simpa using hne) (fun i q j y hi hj=>by
  simp only [B3.box,QL] at hi;obtain ⟨x,_,rfl⟩:=QB.1 hi;rw [QL] at hj;obtain ⟨z,hz,hzy⟩:=QB.1 hj;obtain rfl:=C.i.inj hzy
  exact Ar6 (Ar5 sh x hfl z (QV hz)))
 simp only [St3.clean,QE,QM,ZJ] at hcl
 have hL:∀ k,k ≠ kk->A3 s.boxes k = A3 (Ah kk (.arr D7 t' false ys) (Ah h (.hole e sh false xs row col kk) s.boxes)) k:=by
  intro k hk;unfold A3;rw [A9 _ _ hk];by_cases e1:k = h
  . subst e1;rw [A7,hl];rfl
  . rw [A9 _ _ e1]
 refine Cp (s':=((⟨s.slots,Ah kk (.arr D7 t' false ys) (Ah h (.hole e sh false xs row col kk) s.boxes)⟩:St3).st nt)) (by rfl) (fun t x hx=>.inr ?_) (fun k=>?_) Γ w E' tmps hs'
 . have hx:A0 t (Ag (SV.s (A3 (Ah kk (.arr D7 t' false ys) (Ah h (.hole e sh false xs row col kk) s.boxes)))) s.slots) = some x:=hx;rw [Ac] at hx;obtain ⟨z,hz,rfl⟩:=QB.1 hx;show A0 t (Ag (SV.s (A3 s.boxes)) s.slots) = _;rw [Ac,hz];exact XU some (X6 hL (hcl.1 _ (Ce hz)))
 . show A0 k (Ag (B3.box (A3 (Ah kk (.arr D7 t' false ys) (Ah h (.hole e sh false xs row col kk) s.boxes)))) (Ah kk (.arr D7 t' false ys) (Ah h (.hole e sh false xs row col kk) s.boxes))) = A0 k (Ah kk _ (Ah h _ (Ag (B3.box (A3 s.boxes)) s.boxes)));rw [Ac];by_cases e1:k = kk
   . subst e1;rw [A7,A7];simp [B3.box,h1]
   . rw [A9 _ _ e1,A9 _ _ e1];by_cases e2:k = h
     . subst e2;rw [A7,A7]
       have hlk:A3 (Ah kk (.arr D7 t' false ys) (Ah k (.hole e sh false xs row col kk) s.boxes)) kk = ys.length:=by
        unfold A3;rw [A7];rfl
       simp only [QP,B3.box,hlk,Qq,QI,Fo hrow,XP,ZH]
     . rw [A9 _ _ e2,A9 _ _ e2,Ac]
       cases hz:A0 k s.boxes with
       | none=>rfl
       | some b=>exact XU some (Kv hL (hcl.2 _ (Ce hz))).symm
theorem B51 (hT:As P T) {α:Type} {K:Ak} {kk:Nat} {o:Oper} {s:St3} {nt:Nat} {k:St3->Option α} {r:α} (h:Azt T K kk o s k = some r) :
  ∃ s':St3,Cb P K o (s.st nt) (s'.st nt) /\ k s' = some r:=by
 unfold Azt at h;split at h
 . rename_i t a d hop hdst;split at h
   . rename_i ti hh row col hti ha;split at h
     . rename_i e sh xs hl;split at h
       . rename_i t' ys hc
         cases hcd:(Nat.beq ti.size 1 && !Du ti.d && Nat.ble (col + ti.size) sh.size && sh.flat && Nat.beq t'.size 1 && Nat.ble 2000 kk && (A0 kk s.boxes).isNone && s.clean kk && Nat.blt d K.N) with
         | false=>rw [hcd] at h;cases h
         | true =>
          rw [hcd] at h;simp only [cond] at h;simp only [QE] at hcd;obtain ⟨⟨⟨⟨⟨⟨⟨⟨c1,c2⟩,c3⟩,c4⟩,c5⟩,c6⟩,c7⟩,c8⟩,c9⟩:=hcd
          cases hrow:decide (row < xs.length) with
          | false=>rw [hrow] at h;cases h
          | true =>
           rw [hrow] at h;simp only at h;have hrow:=KV hrow;have hcell:=Ahb hc
           cases hem:ys.isEmpty with
           | true =>
            rw [hem] at h;simp only at h;obtain rfl:=YF.1 hem;refine ⟨_,?_,h⟩;have hva:(s.st nt).val a = .v (.one (.hp hh row col)):=B6 ha rfl
            have hbx:(s.st nt).box hh = some ((B3.tree e sh false xs).box (A3 s.boxes)):=by
             show A0 hh (Ag (B3.box (A3 s.boxes)) s.boxes) = _;rw [Ac,hl];rfl
            have hr0:((B3.tree e sh false xs).box (A3 s.boxes)).rows[row]? = some ((sh.cells (xs.getD row sh.dflt)).map .i):=Fo hrow
            have hcore:Ck T (some ((sh.cells (xs.getD row sh.dflt)).map .i)) o (s.st nt) = some ⟨.v (.one (.i (.sl 0 false t'.size []))),.none,[((B3.tree e sh false xs).box (A3 s.boxes)).rows[row]? = some ((sh.cells (xs.getD row sh.dflt)).map .i)]⟩:=by
             unfold Ck;rw [hop];have hcell:((sh.cells (xs.getD row sh.dflt)).map C.i)[col]? = some (.i (.sl 0 false t'.size [])):=hcell;have c3':Nat.ble (col + ti.size) ((B3.tree e sh false xs).box (A3 s.boxes)).sz = true:=c3;have c4':((B3.tree e sh false xs).box (A3 s.boxes)).tr = true:=rfl;simp only [F6,hti,hva,hbx,hcell,c1,c2,c3',c4',C.okT,ZD,ZO,Bool.and_false,cond]
            have hstep:C9 P T K o { cells:=some ((sh.cells (xs.getD row sh.dflt)).map .i) } (s.st nt) = some ((⟨Ah d (.d (.sl t') []) s.slots,s.boxes⟩:St3).st nt,[((B3.tree e sh false xs).box (A3 s.boxes)).rows[row]? = some ((sh.cells (xs.getD row sh.dflt)).map .i)] ++ [] ++ []):=by
             unfold C9;simp only [hcore,St.eff,St.putD,hdst,c9,cond,QP];simp only [St3.st,<- Cz];rfl
            exact Cm hT hstep (fun p hp=>by
             rcases QF.1 hp with hp | hp
             . rcases QF.1 hp with hp | hp
               . rw [QQ.1 hp];exact hr0
               . cases hp
             . cases hp)
           | false =>
            rw [hem] at h;simp only at h;refine ⟨_,?_,h⟩
            have hne:ys ≠ []:=fun e=>by subst e;cases hem
            have c5:=QC c5
            have c7:A0 kk s.boxes = none:=by simpa using c7
            have hkh:hh ≠ kk:=fun e=>by subst e;rw [hl] at c7;cases c7
            refine (Cb.pre (Awj hl hc hrow c4 c5 (ZY c6) c7 c8 hne) ?_)
            let s1:St3:=⟨s.slots,Ah kk (.arr D7 t' false ys) (Ah hh (.hole e sh false xs row col kk) s.boxes)⟩
            have hva:(s1.st nt).val a = .v (.one (.hp hh row col)):=B6 (s:=s1) ha rfl
            have hl1:A0 hh s1.boxes = some (.hole e sh false xs row col kk):=by
             show A0 hh (Ah kk _ (Ah hh _ s.boxes)) = _;rw [A9 _ _ hkh,A7]
            have hbx:(s1.st nt).box hh = some ((B3.hole e sh false xs row col kk).box (A3 s1.boxes)):=by
             show A0 hh (Ag (B3.box (A3 s1.boxes)) s1.boxes) = _;rw [Ac,hl1];rfl
            have hlk:A3 s1.boxes kk = ys.length:=by unfold A3;show (match A0 kk (Ah kk _ _) with | some b=>B3.len b | none=>0) = _;rw [A7];rfl
            have hr0:((B3.hole e sh false xs row col kk).box (A3 s1.boxes)).rows[row]? = some (((sh.cells (xs.getD row sh.dflt)).map .i).set col (.hs kk 0 (A3 s1.boxes kk))):=by
             simp only [B3.box,Qq,QI,Fo hrow,XP]
             rw [ZR (by simpa using hrow)]
            have hcl2:(((sh.cells (xs.getD row sh.dflt)).map C.i).set col (.hs kk 0 (A3 s1.boxes kk)))[col]? = some (.hs kk 0 (A3 s1.boxes kk)):=ZR (QO.1 hcell).1
            have hcore:Ck T (some (((sh.cells (xs.getD row sh.dflt)).map .i).set col (.hs kk 0 (A3 s1.boxes kk)))) o (s1.st nt) = some ⟨.v (.one (.hs kk 0 (A3 s1.boxes kk))),.none,[((B3.hole e sh false xs row col kk).box (A3 s1.boxes)).rows[row]? = some (((sh.cells (xs.getD row sh.dflt)).map .i).set col (.hs kk 0 (A3 s1.boxes kk)))]⟩:=by
             unfold Ck;rw [hop];have c3':Nat.ble (col + ti.size) ((B3.hole e sh false xs row col kk).box (A3 s1.boxes)).sz = true:=c3;have c4':((B3.hole e sh false xs row col kk).box (A3 s1.boxes)).tr = true:=rfl;simp only [F6,hti,hva,hbx,hcl2,c1,c2,c3',c4',C.okT,ZD,ZO,Bool.and_false,cond]
            have hstep:C9 P T K o { cells:=some (((sh.cells (xs.getD row sh.dflt)).map .i).set col (.hs kk 0 (A3 s1.boxes kk))) } (s1.st nt) = some ((⟨Ah d (.hw kk) s1.slots,s1.boxes⟩:St3).st nt,[((B3.hole e sh false xs row col kk).box (A3 s1.boxes)).rows[row]? = some (((sh.cells (xs.getD row sh.dflt)).map .i).set col (.hs kk 0 (A3 s1.boxes kk)))] ++ [] ++ []):=by
             unfold C9;simp only [hcore,St.eff,St.putD,hdst,c9,cond,QP];simp only [St3.st,<- Cz];rfl
            exact Cm hT hstep (fun p hp=>by
             rcases QF.1 hp with hp | hp
             . rcases QF.1 hp with hp | hp
               . rw [QQ.1 hp];exact hr0
               . cases hp
             . cases hp)
       . cases h
     . cases h
   . cases h
 . cases h
def holeH (kk:Nat):List (Nat × B3)->Option Nat
 | []=>none
 | (h,.hole _ _ _ _ _ _ k) :: r=>bif Nat.beq k kk then some h else holeH kk r
 | _ :: r=>holeH kk r
def Acp (kk:Nat) (s:St3):Option (Bool × St3):=match holeH kk s.boxes with
 | none=>some (true,s)
 | some h=>match A0 h s.boxes with
  | some (.hole e sh false xs row col k0)=>match A0 kk s.boxes with
   | some (.arr e' t' false ys)=>match sh.all false ((sh.exp (xs.getD row sh.dflt)).set col (.d (.sl t') ys)) with
    | some z=>bif Nat.beq k0 kk && Nat.beq e' D7 && t'.lits && Nat.beq t'.size 1 && Nat.ble 2000 kk && !Nat.beq h kk && Nat.blt col sh.size && s.boxes.all (fun p=>Nat.beq p.1 h || Nat.beq p.1 kk || !p.2.men kk) then
      some (decide (row < xs.length),⟨Fm [kk] s.slots,Ah h (.tree e sh false (xs.set row z)) (Bu kk s.boxes)⟩) else none
    | none=>none
   | _=>none
  | _=>none
theorem Apz {kk:Nat} {s s':St3} {g:Bool} {nt:Nat} (h:Acp kk s = some (g,s')) (hg:g = true):Bx (s.st nt) (s'.st nt):=by
 unfold Acp at h;split at h
 . simp only [QD,QG] at h;obtain ⟨_,rfl⟩:=h;exact fun Γ w E tmps hs=>⟨E,hs⟩
 . rename_i hh _;split at h
   . rename_i e sh xs row col k0 hl;split at h
     . rename_i e' t' ys hlk;split at h
       . rename_i z hz
         cases hcd:(Nat.beq k0 kk && Nat.beq e' D7 && t'.lits && Nat.beq t'.size 1 && Nat.ble 2000 kk && !Nat.beq hh kk && Nat.blt col sh.size && s.boxes.all (fun p=>Nat.beq p.1 hh || Nat.beq p.1 kk || !p.2.men kk)) with
         | false=>rw [hcd] at h;cases h
         | true =>
          rw [hcd] at h;simp only [cond,QD,QG] at h;obtain ⟨h1,rfl⟩:=h;rw [hg] at h1;have hrow:=KV h1;simp only [QE,ZJ] at hcd;obtain ⟨⟨⟨⟨⟨⟨⟨c1,c2⟩,c3⟩,c4⟩,c5⟩,c6⟩,c7⟩,c8⟩:=hcd;obtain rfl:=QC c1;have c2:=QC c2;have c4:=QC c4;have c5:=ZY c5;have hne:hh ≠ k0:=Kw c6
          have c7:col < sh.size:=by simpa [ZQ] using c7
          have nomen:∀ i b,i ≠ hh->i ≠ k0->A0 i s.boxes = some b->b.men k0 = false:=fun i b e1 e2 hb=>by
           have:=QM.1 c8 _ (Ce hb);simpa [Gs e1,Gs e2] using this
          intro Γ w E tmps hs
          have hlen0:A3 s.boxes k0 = ys.length:=by unfold A3;rw [hlk];rfl
          obtain ⟨E1,hs1⟩:=Cp (s:=s.st nt) (s':=⟨Ag (SV.s (A3 s.boxes)) (Fm [k0] s.slots),Ag (B3.box (A3 s.boxes)) s.boxes,nt⟩) rfl (fun t x hx=>by
           rcases Dr (L:=A3 s.boxes) (fun _ _=>rfl) hx with rfl | ⟨sv,h2,rfl,_⟩
           . exact .inl rfl
           . exact .inr (by show A0 t (Ag (SV.s (A3 s.boxes)) s.slots) = _;rw [Ac,h2];rfl)) (fun _=>rfl) Γ w E tmps hs
          have hr0:((B3.hole e sh false xs row col k0).box (A3 s.boxes)).rows[row]? = some (((sh.cells (xs.getD row sh.dflt)).map C.i).set col (.hs k0 0 (A3 s.boxes k0))):=by
           simp only [B3.box,Qq,QI,Fo hrow,XP]
           rw [ZR (by simpa using hrow)]
          have hcl:col < ((sh.cells (xs.getD row sh.dflt)).map C.i).length:=by simpa [Sh.cells_len] using c7
          have oldC:∀ (i:Nat) (q:List C) (j:Nat) (c:C),(xs.map fun x=>(sh.cells x).map C.i)[i]? = some q->q[j]? = some c->∃ y,c = .i y:=by
           intro i q j c hi hj;rw [QL] at hi;obtain ⟨x,_,rfl⟩:=QB.1 hi;rw [QL] at hj;obtain ⟨y,_,rfl⟩:=QB.1 hj;exact ⟨y,rfl⟩
          have rows2:(Qq (xs.map fun x=>(sh.cells x).map C.i) row col (.hs k0 0 (A3 s.boxes k0))).set row ((((sh.cells (xs.getD row sh.dflt)).map C.i).set col (.hs k0 0 (A3 s.boxes k0))).set col (.i (.sl 0 false t'.size (ys.map t'.cells)))) = (xs.set row z).map fun x=>(sh.cells x).map C.i:=by
           have a1:=(Cf hz).1 (A3 s.boxes);rw [JK,Il] at a1;unfold Qq;rw [Qaq,Qaq,JK,<- a1];rfl
          obtain ⟨E2,hs2⟩:=X3 hs1 (h:=hh) (k:=k0) (row:=row) (col:=col) (len:=A3 s.boxes k0) (b:=(B3.hole e sh false xs row col k0).box (A3 s.boxes)) (bk:=(B3.arr e' t' false ys).box (A3 s.boxes))
           (r:=((sh.cells (xs.getD row sh.dflt)).map C.i).set col (.hs k0 0 (A3 s.boxes k0))) (ys:=ys.map t'.cells) (hf':=true)
           (by show A0 hh (Ag _ s.boxes) = _;rw [Ac,hl];rfl) rfl hne (.inr c5) (by show A0 k0 (Ag _ s.boxes) = _;rw [Ac,hlk];rfl) rfl rfl hr0 (ZR hcl)
           (by simp [B3.box,hlen0]) (by simp only [B3.box,XH];rfl) (fun i q j y hi hj=>by
            rw [QL] at hi;obtain ⟨u,_,rfl⟩:=QB.1 hi
            exact A40 t' u c3 y (QV hj)) c2 c4
           (fun t x hx=>by
            rcases Dr (L:=A3 s.boxes) (fun _ _=>rfl) hx with rfl | ⟨sv,h2,rfl,h3⟩
            . rfl
            . rw [Qx];exact h3 k0 (by simp))
           (fun i b' h1 h2 hb=>by
            have hb:A0 i (Ag (B3.box (A3 s.boxes)) s.boxes) = some b':=hb;rw [Ac] at hb;obtain ⟨b3,hb3,rfl⟩:=QB.1 hb
            exact Hx (nomen i b3 h2 h1 hb3))
           (fun i q j c hi hj hn=>by
            simp only [B3.box,Qq,QI,Fo hrow,XP] at hi;by_cases e1:i = row
            . subst e1
              rw [ZR (by simpa using hrow)] at hi
              obtain rfl:=QA hi;by_cases e2:j = col
              . exact absurd ⟨rfl,e2⟩ hn
              . rw [ZV (Ne.symm e2)] at hj;obtain ⟨y,rfl⟩:=oldC i _ j c (Fo hrow) hj;rfl
            . rw [ZV (Ne.symm e1)] at hi;obtain ⟨y,rfl⟩:=oldC i q j c hi hj
              rfl)
           (fun _ i q j c hi hj=>by
            have hi:((Qq (xs.map fun x=>(sh.cells x).map C.i) row col (.hs k0 0 (A3 s.boxes k0))).set row ((((sh.cells (xs.getD row sh.dflt)).map C.i).set col (.hs k0 0 (A3 s.boxes k0))).set col (.i (.sl 0 false t'.size (ys.map t'.cells)))))[i]? = some q:=hi;rw [rows2,QL] at hi;obtain ⟨x,_,rfl⟩:=QB.1 hi;rw [QL] at hj;obtain ⟨y,_,rfl⟩:=QB.1 hj
            exact ⟨y,rfl⟩)
          have hL:∀ k,k ≠ k0->A3 s.boxes k = A3 (Ah hh (.tree e sh false (xs.set row z)) (Bu k0 s.boxes)) k:=by
           intro k hk;unfold A3;by_cases e1:k = hh
           . subst e1;rw [A7,hl];simp [B3.len]
           . rw [A9 _ _ e1,Au hk]
          refine Cp (s':=(⟨Fm [k0] s.slots,Ah hh (.tree e sh false (xs.set row z)) (Bu k0 s.boxes)⟩:St3).st nt) (by rfl) (fun t x hx=>?_) (fun k=>?_) Γ w E2 tmps hs2
          . rcases Dr (L:=A3 s.boxes) (L':=A3 (Ah hh (.tree e sh false (xs.set row z)) (Bu k0 s.boxes))) (fun k hk=>(hL k (by simpa using hk)).symm) hx with rfl | ⟨sv,h2,rfl,h3⟩
            . exact .inl rfl
            . refine .inr ?_;show A0 t (Ag (SV.s (A3 s.boxes)) (Fm [k0] s.slots)) = _
              have h3:=h3 k0 (by simp)
              unfold Fm;rw [Ac,Ac,h2];simp [h3]
          . show A0 k (Ag (B3.box (A3 (Ah hh (.tree e sh false (xs.set row z)) (Bu k0 s.boxes)))) (Ah hh (.tree e sh false (xs.set row z)) (Bu k0 s.boxes))) = A0 k (Ah hh _ (Bu k0 (Ag (B3.box (A3 s.boxes)) s.boxes)));rw [Ac];by_cases e1:k = hh
            . subst e1;rw [A7,A7];have rows2:_ = _:=rows2;simp only [QP,B3.box];rw [rows2]
            . rw [A9 _ _ e1,A9 _ _ e1];by_cases e2:k = k0
              . subst e2;rw [Bc,Bc];rfl
              . rw [Au e2,Au e2,Ac]
                cases hz:A0 k s.boxes with
                | none=>rfl
                | some b=>exact XU some (Kv hL (nomen k b e1 e2 hz)).symm
       . cases h
     . cases h
   . cases h
inductive Shut where
 | hole (kk:Nat)
 | ren (l:List (Nat × Nat))
 | stl (h j:Nat) (sh:Sh)
def Aww (a b:Nat) (s:St3):Option St3:=match A0 a s.boxes with
 | some x=>bif Nat.blt a 1000 && Nat.blt b 1000 && !Nat.beq a b && s.boxes.all (fun p=>!p.2.men a && (Nat.beq p.1 b || !p.2.men b)) then
   some ⟨Ag (fun v=>bif v.men b then .dead else v.ren3 (Tu a b)) s.slots,Ah b x (Bu a (Bu b s.boxes))⟩ else none
 | none=>none
def Abs:List (Nat × Nat)->St3->Option St3
 | [],s=>some s
 | (a,b) :: r,s=>(Aww a b s).bind (Abs r)
theorem Aqk {b:Nat} {v:SV} (h:v.men b = false):v.ok3 (fun k=>!Nat.beq k b) = true:=by
 have c:∀ x:SV,x.menC b = false->x.okC (fun k=>!Nat.beq k b) = true:=fun x hx=>by
  cases x <;> first | rfl | (simp only [SV.menC] at hx;simp only [SV.okC,hx,ZX])
 have v2:∀ x:SV,x.menV b = false->x.okV (fun k=>!Nat.beq k b) = true:=fun x hx=>by
  cases x with
  | agg cs=>exact QM.2 fun y hy=>c y (by have:=XF.1 hx y hy;simpa using this)
  | hw k=>exact c (.hw k) hx
  | hs k o l=>exact c (.hs k o l) hx
  | hp k o l=>exact c (.hp k o l) hx
  | _=>rfl
 cases v with
 | tup cs=>exact QM.2 fun y hy=>v2 y (by have:=XF.1 h y hy;simpa using this)
 | agg cs=>exact v2 (.agg cs) h
 | hw k=>exact c (.hw k) h
 | hs k o l=>exact c (.hs k o l) h
 | hp k o l=>exact c (.hp k o l) h
 | _=>rfl
theorem B1j {a b:Nat} {s s':St3} {nt:Nat} (h:Aww a b s = some s'):Bx (s.st nt) (s'.st nt):=by
 unfold Aww at h;split at h
 . rename_i x hx
   cases hc:(Nat.blt a 1000 && Nat.blt b 1000 && !Nat.beq a b && s.boxes.all (fun p=>!p.2.men a && (Nat.beq p.1 b || !p.2.men b))) with
   | false=>rw [hc] at h;cases h
   | true =>
    rw [hc] at h;obtain rfl:=QA h;simp only [QE,ZJ] at hc;obtain ⟨⟨⟨c1,c2⟩,c3⟩,c4⟩:=hc
    have c1:a < 1000:=by simpa [ZQ] using c1
    have c2:b < 1000:=by simpa [ZQ] using c2
    have c3:a ≠ b:=Kw c3
    have nob:∀ k y,A0 k s.boxes = some y->y.men a = false /\ (k ≠ b->y.men b = false):=fun k y hy=>by
     have:=QM.1 c4 _ (C4 hy);simp only [QE,XL,ZJ] at this;exact ⟨this.1,fun hk=>this.2.resolve_left fun e=>hk (QC e)⟩
    let L:=A3 s.boxes
    let nb:List (Nat × B3):=Ah b x (Bu a (Bu b s.boxes))
    have lk:∀ k,A0 k nb = if k = b then some x else if k = a then none else A0 k s.boxes:=fun k=>by
     show A0 k (Ah b x (Bu a (Bu b s.boxes))) = _;by_cases e:k = b
     . subst e;rw [A7,QK rfl]
     . rw [A9 _ _ e,QH e];by_cases e2:k = a
       . subst e2;rw [Bc,QK rfl]
       . rw [Au e2,Au e,QH e2]
    have hL:∀ k,k ≠ b->A3 nb (Tu a b k) = L k:=fun k hk=>by
     show (match A0 (Tu a b k) nb with | some b=>b.len | none=>0) = (match A0 k s.boxes with | some b=>b.len | none=>0)
     by_cases e:k = a
     . subst e;rw [Alq,lk,QK rfl,hx]
     . rw [P5 e,lk,QH hk,QH e]
    let S1:St:={ s.st nt with slots:=Ag (SV.s L) (Fm [b] s.slots) }
    have w1:Bx (s.st nt) S1:=Cp rfl (fun t z hz=>by
     rcases Dr (L:=L) (fun _ _=>rfl) hz with e | ⟨sv,h1,rfl,_⟩
     . exact .inl e
     . refine .inr ?_;show A0 t (Ag (SV.s L) s.slots) = _
       rw [Ac,h1];rfl) fun _=>rfl
    have nos:∀ t z,A0 t S1.slots = some z->z.men b = false:=fun t z hz=>by
     rcases Dr (L:=L) (fun _ _=>rfl) hz with rfl | ⟨sv,_,rfl,h3⟩
     . rfl
     . rw [Qx];exact h3 b (by simp)
    have w2:Bx S1 { S1 with boxes:=Bu b S1.boxes }:=Acb c2 nos fun k y hk hy=>by
     have hy:A0 k (Ag (B3.box L) s.boxes) = some y:=hy;rw [Ac] at hy;obtain ⟨y3,h3,rfl⟩:=QB.1 hy;exact Hx ((nob k y3 h3).2 hk)
    let S2:St:={ S1 with boxes:=Bu b S1.boxes }
    refine w1.trans (w2.trans ?_)
    have bx:∀ k,A0 k (Ag (B3.box (A3 nb)) nb) = if k = b then A0 a S2.boxes else if k = a then none else A0 k S2.boxes:=fun k=>by
     have same:∀ j y,A0 j s.boxes = some y->(j ≠ b->y.box (A3 nb) = y.box L):=fun j y hy hj=>by
      refine Tk fun q hq=>?_;have n1:=nob j y hy
      have qa:q ≠ a:=fun e=>by subst e;rw [n1.1] at hq;cases hq
      have qb:q ≠ b:=fun e=>by subst e;rw [n1.2 hj] at hq;cases hq
      have:=hL q qb
      rwa [P5 qa] at this
     rw [Ac,lk]
     show _ = if k = b then A0 a (Bu b (Ag (B3.box L) s.boxes)) else if k = a then none else A0 k (Bu b (Ag (B3.box L) s.boxes))
     by_cases e:k = b
     . rw [QK e,QK e,Au c3,Ac,hx];simp only [QP];rw [same a x hx c3]
     . rw [QH e,QH e];by_cases e2:k = a
       . rw [QK e2,QK e2];rfl
       . rw [QH e2,QH e2,Au e,Ac]
         cases hy:A0 k s.boxes with
         | none=>rfl
         | some y=>simp only [QP];rw [same k y hy e]
    refine Awi (s:=S2) c1 c2 c3 (Bc _ _) (fun t z hz=>?_) bx (fun k y hy=>?_)
    . have hz:A0 t (Ag (SV.s (A3 nb)) (Ag (fun v=>bif v.men b then .dead else v.ren3 (Tu a b)) s.slots)) = some z:=hz
      rw [Ac,Ac,Option.map_map] at hz;obtain ⟨v,hv,rfl⟩:=QB.1 hz
      refine ⟨(bif v.men b then SV.dead else v).s L,?_,?_⟩
      . show A0 t (Ag (SV.s L) (Ag (fun x=>bif [b].any (fun k=>x.men k) then .dead else x) s.slots)) = _
        rw [Ac,Ac,hv];simp only [QP,KM,List.any_nil,Qai]
      . simp only [Function.comp]
        cases hm:v.men b with
        | true=>rfl
        | false =>
         exact Aq7 (p:=fun k=>!Nat.beq k b) (fun k hk=>hL k (Kw (by simpa using hk))) (Aqk hm)
    . have hy:A0 k (Bu b (Ag (B3.box L) s.boxes)) = some y:=hy;by_cases e:k = b
      . subst e;rw [Bc] at hy;cases hy
      . rw [Au e,Ac] at hy;obtain ⟨y3,h3,rfl⟩:=QB.1 hy;exact Hx (nob k y3 h3).1
 . cases h
theorem Ad0 {nt:Nat}:∀ {l:List (Nat × Nat)} {s s':St3},Abs l s = some s'->Bx (s.st nt) (s'.st nt)
 | [],s,s',h=>by obtain rfl:=QA h;exact fun Γ w E tmps hs=>⟨E,hs⟩
 | (a,b) :: r,s,s',h=>by
  simp only [Abs,YL] at h;obtain ⟨s1,h1,h2⟩:=h;exact (B1j h1).trans (Ad0 h2)
def Awq (h j:Nat) (sh:Sh) (s:St3):Option (Bool × St3):=match A0 h s.boxes with
 | some (.var e hf fz cs)=>match cs[j]? with
  | some c=>match Eo s.boxes sh c with
   | some (g,x,ks)=>bif sh.one && !ks.any (Nat.beq h) then some (g,⟨s.slots,Ah h (.var e ((cs.set j (.d sh x)).all SV.isD) fz (cs.set j (.d sh x))) (Bi s.boxes ks)⟩) else none
   | none=>none
  | none=>none
 | _=>none
theorem B18 {h j:Nat} {sh:Sh} {s s':St3} {g:Bool} {nt:Nat} (hh:Awq h j sh s = some (g,s')) (hg:g = true):Bx (s.st nt) (s'.st nt):=by
 unfold Awq at hh;split at hh
 . rename_i e hf fz cs hl;split at hh
   . rename_i c hc;split at hh
     . rename_i g0 x ks hcv
       cases hb:(sh.one && !ks.any (Nat.beq h)) with
       | false=>rw [hb] at hh;cases hh
       | true =>
        rw [hb] at hh;simp only [cond,QD,QG] at hh;obtain ⟨rfl,rfl⟩:=hh;simp only [QE,ZJ] at hb;obtain ⟨h1,h2⟩:=hb;obtain ⟨q1,⟨ob,q2,q3⟩,q4⟩:=X1 h1 hcv hg
        have hn:h ∉ ks:=fun hk=>by have:=XF.1 h2 h hk;simp at this
        let L:=A3 s.boxes
        let nb:B3:=.var e ((cs.set j (.d sh x)).all SV.isD) fz (cs.set j (.d sh x))
        have hbx:A0 h (s.st nt).boxes = some ((B3.var e hf fz cs).box L):=by
         show A0 h (Ag (B3.box L) s.boxes) = _;rw [Ac,hl];rfl
        have ex:(SV.d sh x).c L = .i (hd1 (sh.cells x)):=rfl
        have hw:=Awh (s:=s.st nt) (h:=h) (row:=0) (j:=j) (b:=(B3.var e hf fz cs).box L) (r:=cs.map (SV.c L)) (c:=c.c L) (c':=.i (hd1 (sh.cells x))) (obs:=ob) (ks:=ks) (hf':=(cs.set j (.d sh x)).all SV.isD) hbx rfl rfl
         (by rw [QL,hc];rfl) q2 q3 (Ti q4) hn (fun hall i q l d hi hd=>by
          cases i with
          | zero =>
           have hi:some ((cs.map (SV.c L)).set j (.i (hd1 (sh.cells x)))) = some q:=hi;obtain rfl:=QA hi;rw [<- ex,<- JK,QL] at hd;obtain ⟨y,hy,rfl⟩:=QB.1 hd;have:=QM.1 hall y (QV hy)
           cases y with
           | d t z=>exact ⟨_,rfl⟩
           | _=>cases this
          | succ i=>simp [B3.box] at hi)
        refine hw.trans (Cp rfl (fun t z hz=>.inr ?_) fun k=>?_)
        . have hz:A0 t (Ag (SV.s (A3 (Ah h nb (Bi s.boxes ks)))) s.slots) = some z:=hz
          have hL:A3 (Ah h nb (Bi s.boxes ks)) = L:=by
           funext k;unfold A3;by_cases e1:k = h
           . subst e1;rw [A7];show (1:Nat) = A3 s.boxes k;simp [A3,hl,B3.len]
           . rw [A9 _ _ e1];show A3 (Bi s.boxes ks) k = L k;rw [Cs]
          rw [hL] at hz;exact hz
        . have hL : A3 (Ah h nb (Bi s.boxes ks)) = L := by
           funext k;unfold A3;by_cases e1:k = h
           . subst e1;rw [A7];show (1:Nat) = A3 s.boxes k;simp [A3,hl,B3.len]
           . rw [A9 _ _ e1];show A3 (Bi s.boxes ks) k = L k;rw [Cs]
          show A0 k (Ag (B3.box (A3 (Ah h nb (Bi s.boxes ks)))) (Ah h nb (Bi s.boxes ks))) = A0 k (Ah h _ (Aw (Ag (B3.box L) s.boxes) ks));rw [hL,Ga];by_cases e1:k = h
          . subst e1;rw [Ac,A7,A7];simp only [QP,nb,B3.box,JK,JF];rfl
          . rw [Ac,A9 _ _ e1,A9 _ _ e1,Ac]
     . cases hh
   . cases hh
 . cases hh
def B07:Shut->St3->Option (Bool × St3)
 | .hole kk,s=>Acp kk s
 | .ren l,s=>(Abs l s).map fun s'=>(true,s')
 | .stl h j sh,s=>Awq h j sh s
theorem Awt {k:Shut} {s s':St3} {g:Bool} {nt:Nat} (h:B07 k s = some (g,s')) (hg:g = true):Bx (s.st nt) (s'.st nt):=by
 cases k with
 | hole kk=>exact Apz h hg
 | ren l =>
  obtain ⟨s1,h1,h2⟩:=QB.1 h;obtain ⟨_,rfl⟩:=YT h2;exact Ad0 h1
 | stl h0 j sh=>exact B18 h hg
end Go.Ev

/- DERIVED. Code over shapes: all paths, in one expression. -/
namespace Go.Ev
open Go
variable {P:Program} {T:Ty}
structure OA where
 ent:Option Ent:=none
 sh:Option Sh:=none
 fz:List (Nat × Sh):=[]
 entB:Option Ent3:=none
 hb:Nat:=0
 tr:Option Sh:=none
 alt:List Ent3:=[]
 bor:Option Nat:=none
 shut:Option Shut:=none
def OA.two (a:OA):Bool:=(a.ent.isSome && a.entB.isSome) || !a.alt.isEmpty || (a.bor.isSome || a.shut.isSome)
theorem OA.two_false {a:OA} (h:a.two = false):(a.ent.isSome && a.entB.isSome) = false /\ a.alt = [] /\ a.bor = none /\ a.shut = none:=by
 unfold OA.two at h;simp only [Bool.or_eq_false_iff,Bool.not_eq_false'] at h
 exact ⟨h.1.1,YF.1 h.1.2,by simpa using h.2.1,by simpa using h.2.2⟩
structure RA where
 m:Nat:=0
 fz:List (Nat × Sh):=[]
 ops:List (Nat × OA):=[]
@[reducible] def KS (α:Type):List (Exit × Tm)->Type
 | []=>Unit
 | (_,X) :: r=>(X.den->Option α) × KS α r
def Mk {α:Type} (k:Exit->St3->Option α):(l:List (Exit × Tm))->KS α l
 | []=>()
 | (x,X) :: r=>(fun w=>k x (X.enc w),Mk k r)
def Exit.eqb:Exit->Exit->Bool
 | .normal,.normal=>true
 | .ret,.ret=>true
 | .exit i,.exit j=>Nat.beq i j
 | _,_=>false
theorem Exit.eqb_eq {a b:Exit} (h:Exit.eqb a b = true):a = b:=by
 unfold Exit.eqb at h;split at h
 . rfl
 . rfl
 . rw [QC h]
 . cases h
def Lc {α:Type}:(l:List (Exit × Tm))->KS α l->Exit->St3->Option α
 | [],_,_,_=>none
 | (x,X) :: r,ks,y,s=>bif Exit.eqb x y then (match X.dec s with
  | some w=>ks.1 w
  | none=>none) else Lc r ks.2 y s
structure LO (α:Type) where
 H:Tm
 outs:List (Exit × Tm)
 run:H.den->KS α outs->Option α
structure D3 (α:Type) where
 reg:List (Nat × RA):=[]
 join:List (Nat × Tm):=[]
 loop:List (Nat × LO α):=[]
 any:List (Nat × Tm):=[]
def C2:Code->Nat
 | .region id _ _=>id
 | .seq c d=>match C2 c with
  | 0=>C2 d
  | n + 1=>n + 1
 | .cond _ c d=>match C2 c with
  | 0=>C2 d
  | n + 1=>n + 1
 | .block _ c=>C2 c
 | .loop c=>C2 c
 | .rangeFunc _ _ a b=>match C2 a with
  | 0=>C2 b
  | n + 1=>n + 1
 | _=>0
def Z9 {α:Type} (k:Nat) (x:α):List (Nat × α)->List (Nat × α)
 | []=>[]
 | (j,y) :: r=>bif Nat.beq j k then (j,x) :: r else (j,y) :: Z9 k x r
def Hf {α:Type}:List (Nat × Sh)->St3->(St3->Option α)->Option α
 | [],s,k=>k s
 | (t,sh) :: r,s,k=>match Lu s t sh with
  | some (g,s1)=>bif g then Hf r s1 k else none
  | none=>none
def ob {α β:Type} (x:Option β) (k:β->Option α):Option α:=match x with
 | some r=>k r
 | none=>none
def gd {α:Type} (g:Bool) (x:Option α):Option α:=bif g then x else none
abbrev W (x:Int):Int:=IntKind.i64.wrap x
def Yy (T:Ty) (K:Ak) (A:OA) (o:Oper) (s:St3):Option (Bool × St3) :=
 match K4 T A.sh o s with
 | some r=>match s.eff3 K o.dst r.eff with
  | some s1=>match s1.put3 K o.dst r.val with
   | some s'=>match A.tr with
    | none=>some (r.g,s')
    | some sh=>match o.dst with
     | some d=>(A01 sh d s').map fun s2=>(r.g,s2)
     | none=>none
   | none=>none
  | none=>none
 | none=>match Qk T o s with
  | some q=>some q
  | none=>A02 T K o s
def Ahl:List Ent3->Oper->St3->Option Ent3
 | [],_,_=>none
 | E :: r,o,s=>match Is E.f E.ts o s with
  | some _=>some E
  | none=>Ahl r o s
theorem Ahk:∀ {l:List Ent3} {o:Oper} {s:St3} {E:Ent3},Ahl l o s = some E->E ∈ l
 | [],_,_,_,h=>by cases h
 | F :: r,o,s,E,h=>by
  simp only [Ahl] at h;split at h
  . cases h;exact YM
  . exact ZW _ (Ahk h)
def P7 {α:Type} (T:Ty) (K:Ak) (A:OA) (o:Oper) (s:St3) (k:St3->Option α):Option α :=
 match Ahl A.alt o s with
 | some E=>P6 K E A.hb o s k
 | none=>match A.ent with
 | some E=>match Ok E o s with
  | some (g,x)=>bif g then ob (E.m x) (fun r=>match s.put3 K o.dst (Al E.rs r) with
    | some s'=>k s'
    | none=>none) else none
  | none=>match A.entB with
   | some F=>P6 K F A.hb o s k
   | none=>none
 | none=>match A.entB with
 | some E=>P6 K E A.hb o s k
 | none=>match Yy T K A o s with
  | some (g,s')=>bif g then k s' else none
  | none=>none
def Qn {α:Type} (T:Ty) (K:Ak) (A:OA) (o:Oper) (s:St3) (k:St3->Option α):Option α :=
 match A.bor with
 | some kk=>Azt T K kk o s k
 | none=>match A.shut with
  | none=>P7 T K A o s k
  | some kk=>P7 T K A o s fun s1=>match B07 kk s1 with
   | some (g,s2)=>bif g then k s2 else none
   | none=>none
def Abp {α:Type} (K:Ak) (o:Oper) (s:St3) (k:St3->Option α):Option α :=
 match s.put3 K o.dst (.tup []) with
 | some s'=>k s'
 | none=>none
def V5 {α:Type} (ops:List Oper) (o:Oper) (s:St3) (f g:St3->Option α):Option α :=
 match o.guard with
 | none=>f s
 | some (j,want)=>match ops[j]? with
  | some p=>match p.dst with
   | some t=>match A0 t s.slots with
    | some (.d .bool b)=>bif b then
      (bif want then f { s with slots:=Z9 t (.d .bool true) s.slots } else g { s with slots:=Z9 t (.d .bool true) s.slots }) else
      (bif want then g { s with slots:=Z9 t (.d .bool false) s.slots } else f { s with slots:=Z9 t (.d .bool false) s.slots })
    | some (.tup [])=>g s
    | _=>none
   | none=>none
  | none=>none
def Hg {α:Type} (T:Ty) (K:Ak) (ops:List Oper) (A:List (Nat × OA)):List (Nat × Oper)->St3->(St3->Option α)->Option α
 | [],s,k=>k s
 | (i,o) :: r,s,k=>Hf ((A0 i A).getD {}).fz s fun s0=>V5 ops o s0 (fun s1=>Qn T K ((A0 i A).getD {}) o s1 fun s2=>Hg T K ops A r s2 k) (fun s1=>Abp K o s1 fun s2=>Hg T K ops A r s2 k)
def OA.quiet (T:Ty) (A:OA) (o:Oper) (s:St3):Bool :=
 A.fz.isEmpty && A.tr.isNone && A.alt.isEmpty && (A.bor.isNone && A.shut.isNone) && (match A.entB with | some _=>false | none=>true) && (match o.dst with | some _=>true | none=>false) && (match A.ent with
 | some _=>true
 | none=>match K4 T A.sh o s with
  | some r=>match r.eff with
   | .none=>true
   | _=>false
  | none=>false)
def Ad4 {α:Type} (T:Ty) (K:Ak) (ops:List Oper) (A:List (Nat × OA)):List (Nat × Oper)->St3->(St3->Option α)->Option α
 | [],s,k=>k s
 | (i,o) :: r,s,k=>V5 ops o s
   (fun s1=>bif OA.quiet T ((A0 i A).getD {}) o s1 then Qn T K ((A0 i A).getD {}) o s1 (fun s2=>Ad4 T K ops A r s2 k) else none)
   (fun s1=>bif o.dst.isSome then Abp K o s1 (fun s2=>Ad4 T K ops A r s2 k) else none)
def Awx {α:Type} (P:Program) (T:Ty) (K:Ak) (A:RA) (ops:Array Oper) (draw:Bool) (s:St3) (k:St3->Option α):Option α :=
 bif draw then
  bif Dv ops A.m then Hf A.fz s fun s0=>Ad4 T K ops.toList A.ops ((A8 ops.toList).take A.m) s0 fun s1=>Hg T K ops.toList A.ops ((A8 ops.toList).drop A.m) s1 k else none
 else Hg T K ops.toList A.ops (A8 ops.toList) s k
def Ab:Code->List (Nat × Code)
 | .seq c d=>Ab c ++ Ab d
 | .cond _ c d=>Ab c ++ Ab d
 | .block _ c=>Ab c
 | .loop c=>[(C2 c,.loop c)]
 | .rangeFunc f ps a b=>[(match C2 a with | 0=>C2 b | n + 1=>n + 1,.rangeFunc f ps a b)]
 | _=>[]
def Av:Code->List (Nat × Array Oper)
 | .seq c d=>Av c ++ Av d
 | .cond _ c d=>Av c ++ Av d
 | .block _ c=>Av c
 | .loop c=>Av c
 | .region id ops true=>[(id,ops)]
 | _=>[]
def Tp (id:Nat):List (Nat × Tm)->List Tm
 | []=>[]
 | (i,X) :: r=>bif Nat.beq i id then X :: Tp id r else Tp id r
def Abt {α:Type} (s:St3) (f:(X:Tm)->X.den->Option α):List Tm->Option α
 | []=>none
 | X :: r=>match X.dec s with
  | some w=>f X w
  | none=>Abt s f r
def Bb {α:Type} (P:Program) (T:Ty) (K:Ak) (D:D3 α):Code->St3->(Exit->St3->Option α)->Option α
 | .skip,s,k=>k .normal s
 | .region id ops draw,s,k=>match Tp id D.any with
  | []=>Awx P T K ((A0 id D.reg).getD {}) ops draw s (k .normal)
  | X :: r=>bif draw then Abt s (fun X w=>Hg T K ops.toList ((A0 id D.reg).getD {}).ops (A8 ops.toList) (X.enc w) (k .normal)) (X :: r) else none
 | .seq c d,s,k=>match A0 (C2 d) D.join with
  | none=>Bb P T K D c s fun x s1=>match x with
   | .normal=>Bb P T K D d s1 k
   | x=>k x s1
  | some X=>(fun (J:X.den->Option α)=>Bb P T K D c s fun x s1=>match x with
   | .normal=>match X.dec s1 with
    | some w=>J w
    | none=>none
   | x=>k x s1) fun w=>Bb P T K D d (X.enc w) k
 | .cond (.tmp t) c d,s,k=>match A0 t s.slots with
  | some (.d .bool b)=>bif b then Bb P T K D c { s with slots:=Z9 t (.d .bool true) s.slots } k else Bb P T K D d { s with slots:=Z9 t (.d .bool false) s.slots } k
  | _=>none
 | .block id c,s,k=>Bb P T K D c s fun x s1=>match x with
  | .exit j=>bif Nat.beq j id then k .normal s1 else k (.exit j) s1
  | x=>k x s1
 | .loop c,s,k=>match A0 (C2 c) D.loop with
  | some L=>match L.H.dec s with
   | some v=>L.run v (Mk k L.outs)
   | none=>bif (Ab c).isEmpty then Bb P T K D c s fun x s1=>match x with
    | .normal=>match L.H.dec s1 with
     | some v=>L.run v (Mk k L.outs)
     | none=>none
    | x=>k x s1 else none
  | none=>none
 | .rangeFunc _ _ a b,s,k=>match A0 (match C2 a with | 0=>C2 b | n + 1=>n + 1) D.loop with
  | some L=>match L.H.dec s with
   | some v=>L.run v (Mk k L.outs)
   | none=>none
  | none=>none
 | .exit id,s,k=>k (.exit id) s
 | .ret,s,k=>k .ret s
 | _,_,_=>none
def A5 {α:Type} {V Ks:Type} (B:V->(V->Option α)->Ks->Option α):Nat->V->Ks->Option α
 | 0,_,_=>none
 | n + 1,v,ks=>B v (fun v'=>A5 B n v' ks) ks
def A5z {α:Type} (H:Tm) (outs:List (Exit × Tm)) (f:H.den->Option α) (ks:KS α outs) (x:Exit) (s:St3):Option α :=
 match x with
 | .normal=>match H.dec s with
  | some v=>f v
  | none=>none
 | x=>Lc outs ks x s
def A6h (T:Ty) (s:St3):ResultVar->Option SV
 | .tmp t=>A0 t s.slots
 | .cell a t=>match s.val (.tmp a) with
  | .hp h row col=>match A0 h s.boxes with
   | some (.var _ _ _ _)=>match Xb T t (.hp h row col) s.boxes with
    | some r=>some r.val
    | none=>none
   | _=>none
  | _=>none
def Ut (T:Ty) (s:St3) (rv:ResultVar) (t:Sh):Option (Bool × t.den × List Nat) :=
 match A6h T s rv with
 | some v=>Wy s.boxes t v
 | none=>none
def I5 (T:Ty) (s:St3):(ts:List Sh)->List ResultVar->Option (Bool × HL ts)
 | [],[]=>some (true,())
 | [t],[rv]=>match Ut T s rv t with
  | some (g,x,_)=>some (g,x)
  | none=>none
 | t :: u :: r,rv :: rvs=>match Ut T s rv t,I5 T s (u :: r) rvs with
  | some (g,x,_),some (g',xs)=>some (g && g',(x,xs))
  | _,_=>none
 | _,_=>none
def Axm (T:Ty) (rs:List Sh) (rvs:List ResultVar) (x:Exit) (s:St3):Option (HL rs) :=
 match x with
 | .exit _=>none
 | .normal=>match I5 T s rs rvs with
  | some (g,y)=>bif g then some y else none
  | none=>none
 | .ret=>match I5 T s rs rvs with
  | some (g,y)=>bif g then some y else none
  | none=>none
 | _=>none
def Ew (i:Nat):List SV->List (Nat × SV)
 | []=>[]
 | x :: r=>(i,x) :: Ew (i + 1) r
def Ww (ts:List Sh) (x:HL ts):St3:=⟨Ew 0 (Eh ts x),[]⟩
end Go.Ev

/- DERIVED. Code over shapes is what the code does. -/
namespace Go.Ev
open Go
variable {P:Program} {T:Ty} {α:Type}
theorem App {f:SV->S} {t:Nat} {x y:SV} (hxy:f x = f y):∀ {l:List (Nat × SV)},A0 t l = some y->Ag f (Z9 t x l) = Ag f l
 | [],h=>by cases h
 | (j,z) :: r,h=>by
  simp only [A0] at h;simp only [Z9]
  cases hb:Nat.beq j t with
  | true =>
   rw [hb] at h;simp only [cond,QD] at h;subst h;simp [Ag,hxy]
  | false =>
   rw [hb] at h;have:=App hxy h;simp only [Ag] at this;simp [Ag,this]
theorem Oo {nt:Nat}:∀ {l:List (Nat × Sh)} {s:St3} {k:St3->Option α} {r:α},Hf l s k = some r->∃ s' fz ob,Ej fz (s.st nt) = some (s'.st nt,ob) /\ (∀ p ∈ ob,p) /\ k s' = some r /\ (l = []->fz = [] /\ s' = s)
 | [],s,k,r,h=>⟨s,[],[],rfl,by simp,h,fun _=>⟨rfl,rfl⟩⟩
 | (t,sh) :: l,s,k,r,h=>by
  simp only [Hf] at h;split at h
  . rename_i g s1 hs
    cases g with
    | false=>cases h
    | true =>
     obtain ⟨x',ob,h1,h2⟩:=Qp (nt:=nt) hs rfl;obtain ⟨s2,fz,ob2,h3,h4,h5,_⟩:=Oo (nt:=nt) (l:=l) h
     refine ⟨s2,(t,x') :: fz,ob ++ ob2,by simp only [Ej,h1,h3],fun p hp=>?_,h5,fun e=>by cases e⟩
     rcases QF.1 hp with hp | hp
     . exact h2 p hp
     . exact h4 p hp
  . cases h
theorem Am0 {o:Oper} {s:St3} {nt:Nat} {A:Option Sh} {r:R3} (h:K4 T A o s = some r) (hg:r.g = true) (he:r.eff = .none) :
  ∃ D obs,(∀ p ∈ obs,p) /\ quiet P T o D (s.st nt) = some (r.val.s (A3 s.boxes),obs):=by
 obtain ⟨hnt,q,h1,h2,h3⟩:=Ah9 (nt:=nt) h hg;unfold Hz at h3;rw [he] at h3
 refine ⟨{ cells:=hnt },q.ob ++ [],by simpa using h2,?_⟩
 unfold quiet;simp only [h1,h3.1,Option.getD_none,h3.2]
theorem Aws {K:Ak} {o:Oper} {D:F8} {s:St} (fz:List (Nat × V)):C9 P T K o { D with fz:=fz } s = C9 P T K o D s:=rfl
def OA.S (P:Program) (a:OA):Prop:=(∀ E,a.ent = some E->E.Sound P) /\ (∀ E,a.entB = some E->E.Sound P) /\ ∀ E,E ∈ a.alt->E.Sound P
theorem Ahf (hT:As P T) {K:Ak} {A:OA} {o:Oper} {s s':St3} {nt:Nat} {g:Bool} (h:Yy T K A o s = some (g,s')) (hg:g = true) :
  ∃ D obs,C9 P T K o D (s.st nt) = some (s'.st nt,obs) /\ ∀ p ∈ obs,p:=by
 unfold Yy at h;split at h
 . rename_i q hq;split at h
   . rename_i s1 he;split at h
     . rename_i s2 hp
       have key:q.g = true->∃ D obs,C9 P T K o D (s.st nt) = some (s2.st nt,obs) /\ ∀ p ∈ obs,p:=fun hg=>by
        obtain ⟨hnt,r1,h1,h2,h3⟩:=Ah9 (nt:=nt) hq hg;obtain ⟨h4,h5⟩:=B4z (nt:=nt) he h3;have h6:=P8 (nt:=nt) hp;rw [<- h5] at h6
        refine ⟨{ cells:=hnt },r1.ob ++ [] ++ [],?_,by simpa using h2⟩
        unfold C9;simp only [h1,h4,Option.getD_none,h6,QP]
       split at h
       . simp only [QD,QG] at h;obtain ⟨rfl,rfl⟩:=h;exact key hg
       . split at h
         . simp only [QB,QG] at h;obtain ⟨s3,h3,rfl,rfl⟩:=h;obtain ⟨D,obs,k1,k2⟩:=key hg
           exact ⟨{ own:=some (s3.st nt) },_,rfl,fun p hp=>by
            rw [QQ.1 hp]
            exact (Cm hT k1 k2).weak (Ai0 h3)⟩
         . cases h
     . cases h
   . cases h
 . split at h
   . rename_i q hq;obtain rfl:=QA h
     exact ⟨{ own:=some (s'.st nt) },_,rfl,fun p hp=>by rw [QQ.1 hp];exact Abb hT hq hg⟩
   . exact ⟨{ own:=some (s'.st nt) },_,rfl,fun p hp=>by rw [QQ.1 hp];exact Ai1 hT h hg⟩
theorem A92 (hT:As P T) {K:Ak} {A:OA} {o:Oper} {s:St3} {nt:Nat} {k:St3->Option α} {r:α} (h:P7 T K A o s k = some r) (hE:A.S P) :
  ∃ s' D obs,C9 P T K o D (s.st nt) = some (s'.st nt,obs) /\ (∀ p ∈ obs,p) /\ k s' = some r:=by
 unfold P7 at h;split at h
 . rename_i E hal;exact Ug h (hE.2.2 E (Ahk hal))
 split at h
 . rename_i E hent;split at h
   . rename_i g x hc
     cases g with
     | false=>cases h
     | true =>
      simp only [cond,ob] at h;split at h
      . rename_i y hm;split at h
        . rename_i s' hp;obtain ⟨obs,h1,h2⟩:=A3a (T:=T) (nt:=nt) hc hm (hE.1 E hent);have:=P8 (nt:=nt) hp;rw [A6e] at this;obtain ⟨D',obs',h3,h4⟩:=Qt h2 this;exact ⟨s',D',obs',h3,h4 h1,h⟩
        . cases h
      . cases h
   . split at h
     . rename_i F hF;exact Ug h (hE.2.1 F hF)
     . cases h
 split at h
 . rename_i E hent;exact Ug h (hE.2.1 E hent)
 . split at h
   . rename_i g s' hq
     cases g with
     | false=>cases h
     | true =>
      obtain ⟨D,obs,h1,h2⟩:=Ahf (nt:=nt) hT hq rfl;exact ⟨s',D,obs,h1,h2,h⟩
   . cases h
theorem Awr (hT:As P T) {K:Ak} {A:OA} {o:Oper} {s:St3} {nt:Nat} {k:St3->Option α} {r:α} (h:Qn T K A o s k = some r) (hE:A.S P) :
  ∃ s' D obs,C9 P T K o D (s.st nt) = some (s'.st nt,obs) /\ (∀ p ∈ obs,p) /\ k s' = some r:=by
 unfold Qn at h;split at h
 . obtain ⟨s',h1,h2⟩:=B51 (nt:=nt) hT h
   exact ⟨s',{ own:=some (s'.st nt) },_,rfl,fun p hp=>by rw [QQ.1 hp];exact h1,h2⟩
 . split at h
   . exact A92 hT h hE
   . obtain ⟨s1,D,obs,h1,h2,h3⟩:=A92 (nt:=nt) hT h hE;split at h3
     . rename_i g s2 hs
       cases g with
       | false=>cases h3
       | true=>exact ⟨s2,{ own:=some (s2.st nt) },_,rfl,fun p hp=>by rw [QQ.1 hp];exact (Cm hT h1 h2).weak (Awt hs rfl),h3⟩
     . cases h3
theorem Aqb {K:Ak} {A:OA} {o:Oper} {s:St3} {nt:Nat} {k:St3->Option α} {r:α} (h:Qn T K A o s k = some r) (hq:A.quiet T o s = true) (hE:A.S P) :
  ∃ t s' D x obs,o.dst = some t /\ Nat.blt t K.N = true /\ quiet P T o D (s.st nt) = some (x,obs) /\ (∀ p ∈ obs,p) /\ k s' = some r /\ s'.st nt = { s.st nt with slots:=Ah t x (s.st nt).slots }:=by
 unfold OA.quiet at hq;simp only [QE] at hq;obtain ⟨⟨⟨⟨⟨⟨_,hqt⟩,hqa⟩,hqb,hqc⟩,hq0⟩,hq1⟩,hq2⟩:=hq
 have putI:∀ {s s':St3} {y:SV},s.put3 K o.dst y = some s'->∃ t,o.dst = some t /\ Nat.blt t K.N = true /\ s'.st nt = { s.st nt with slots:=Ah t (y.s (A3 s.boxes)) (s.st nt).slots }:=by
  intro s s' y hp;unfold St3.put3 at hp
  cases hd:o.dst with
  | none=>rw [hd] at hq1;cases hq1
  | some t =>
   rw [hd] at hp;simp only at hp
   cases hb:Nat.blt t K.N with
   | false=>rw [hb] at hp;cases hp
   | true =>
    rw [hb] at hp;obtain rfl:=QA hp
    exact ⟨t,rfl,hb,by simp only [St3.st,Cz]⟩
 unfold Qn at h
 rw [show A.bor = none by simpa using hqb,show A.shut = none by simpa using hqc] at h
 simp only at h;unfold P7 at h;split at h
 . rename_i E hal;rw [YF.1 hqa] at hal;cases hal
 split at h
 . rename_i E hent;split at h
   . rename_i g x hc
     cases g with
     | false=>cases h
     | true =>
      simp only [cond,ob] at h;split at h
      . rename_i y hm;split at h
        . rename_i s' hp;obtain ⟨obs,h1,h2⟩:=A3a (T:=T) (nt:=nt) hc hm (hE.1 E hent);obtain ⟨t,p1,p2,p3⟩:=putI hp;rw [A6e] at p3;exact ⟨t,s',_,_,obs,p1,p2,h2,h1,h,p3⟩
        . cases h
      . cases h
   . split at h
     . rename_i F hF;rw [hF] at hq0;cases hq0
     . cases h
 split at h
 . rename_i E hB;rw [hB] at hq0;cases hq0
 . rename_i hent _ _;rw [hent] at hq2;simp only at hq2
   cases hcq:K4 T A.sh o s with
   | none=>rw [hcq] at hq2;cases hq2
   | some q =>
    rw [hcq] at hq2;simp only at hq2
    have he:q.eff = .none:=by
     cases e:q.eff <;> first | rfl | (rw [e] at hq2;cases hq2)
    have htr:A.tr = none:=by
     cases e:A.tr with
     | none=>rfl
     | some _=>rw [e] at hqt;cases hqt
    unfold Yy at h;rw [hcq] at h;simp only [he,St3.eff3,htr] at h;split at h
    . rename_i g s' hb;split at hb
      . rename_i s2 hp;simp only [QD,QG] at hb;obtain ⟨hg,rfl⟩:=hb
        cases g with
        | false=>cases h
        | true =>
         simp only [cond] at h;obtain ⟨D,obs,h1,h2⟩:=Am0 (P:=P) (nt:=nt) hcq hg he;obtain ⟨t,p1,p2,p3⟩:=putI hp;exact ⟨t,_,D,_,obs,p1,p2,h2,h1,h,p3⟩
      . cases hb
    . cases h
theorem A95 {s:St3} {nt t:Nat} {b:Bool} (h:A0 t s.slots = some (.d .bool b)):A0 t (s.st nt).slots = some (.v (.one (.i (.lit (.bool b))))):=by
 simp only [St3.st,Ac,h];rfl
theorem J1 {s:St3} {nt t:Nat} {b:Bool} (h:A0 t s.slots = some (.d .bool b)):(({ s with slots:=Z9 t (.d .bool b) s.slots }:St3).st nt) = s.st nt:=by
 simp only [St3.st];rw [App rfl h]
theorem A9j {ops:List Oper} {o:Oper} {s:St3} {nt:Nat} {f g:St3->Option α} {r:α} (h:V5 ops o s f g = some r) :
  ∃ s0,s0.st nt = s.st nt /\ ((Gu (s.st nt) ops o = some true /\ f s0 = some r) \/ (Gu (s.st nt) ops o = some false /\ g s0 = some r)):=by
 unfold V5 at h;unfold Gu;split at h
 . rename_i hg;rw [hg]
   exact ⟨s,rfl,.inl ⟨by first | rfl | trivial,h⟩⟩
 . rename_i j want hg;rw [hg];simp only;split at h
   . rename_i p hp;simp only [hp];split at h
     . rename_i t ht;simp only [ht];split at h
       . rename_i b hl;simp only [A95 (nt:=nt) hl]
         cases b <;> cases want <;> simp only [cond] at h
         . exact ⟨_,J1 hl,.inl ⟨by first | rfl | trivial,h⟩⟩
         . exact ⟨_,J1 hl,.inr ⟨by first | rfl | trivial,h⟩⟩
         . exact ⟨_,J1 hl,.inr ⟨by first | rfl | trivial,h⟩⟩
         . exact ⟨_,J1 hl,.inl ⟨by first | rfl | trivial,h⟩⟩
       . rename_i hl
         have:A0 t (s.st nt).slots = some (.tup []):=by
          simp only [St3.st,Ac,hl];rfl
         simp only [this]
         exact ⟨s,rfl,.inr ⟨by first | rfl | trivial,h⟩⟩
       . cases h
     . cases h
   . cases h
theorem Aco {K:Ak} {o:Oper} {s:St3} {nt:Nat} {k:St3->Option α} {r:α} (h:Abp K o s k = some r):∃ s',(s.st nt).putD K o.dst (.tup []) = some (s'.st nt) /\ k s' = some r:=by
 unfold Abp at h;split at h
 . rename_i s' hp;exact ⟨s',P8 (nt:=nt) hp,h⟩
 . cases h
theorem I3 {K:Ak} {ops:List Oper} {Ds Ds':List (Nat × F8)}:∀ (l:List (Nat × Oper)) (s:St),(∀ p ∈ l,A0 p.1 Ds = A0 p.1 Ds')->D2 P T K ops Ds l s = D2 P T K ops Ds' l s
 | [],_,_=>rfl
 | (i,o) :: r,s,h=>by
  have h0:=h (i,o) (by simp)
  have ih:=fun s=>I3 (K:=K) (ops:=ops) r s fun p hp=>h p (by simp [hp])
  simp only [D2];rw [show A0 i Ds = A0 i Ds' from h0];simp only [ih]
theorem I2 {K:Ak} {ops:List Oper} {Ds Ds':List (Nat × F8)}:∀ (l:List (Nat × Oper)) (xs:List (Nat × Nat × S)) (s:St),(∀ p ∈ l,A0 p.1 Ds = A0 p.1 Ds')->Fl P T K ops Ds l xs s = Fl P T K ops Ds' l xs s
 | [],_,_,_=>rfl
 | (i,o) :: r,xs,s,h=>by
  have h0:=h (i,o) (by simp)
  have ih:=fun xs s=>I2 (K:=K) (ops:=ops) r xs s fun p hp=>h p (by simp [hp])
  simp only [Fl];rw [show A0 i Ds = A0 i Ds' from h0];simp only [ih]
theorem Az {β:Type} {i j:Nat} {x:β} {l:List (Nat × β)} (h:i ≠ j):A0 j ((i,x) :: l) = A0 j l:=by
 simp only [A0]
 have:Nat.beq i j = false:=by cases e:Nat.beq i j with | false=>rfl | true=>exact absurd (QC e) h
 rw [this];rfl
theorem Be {β:Type} {i:Nat} {x:β} {l:List (Nat × β)}:A0 i ((i,x) :: l) = some x:=by
 simp only [A0,XA];rfl
theorem X8 (hT:As P T) {K:Ak} {ops:List Oper} {A:List (Nat × OA)} {nt:Nat} (hE:∀ i a,A0 i A = some a->a.S P):∀ (l:List (Nat × Oper)) (s:St3) (k:St3->Option α) (r:α),(l.map (·.1)).Nodup->Hg T K ops A l s k = some r ->
  ∃ s' Ds obs,k s' = some r /\ D2 P T K ops Ds l (s.st nt) = some (s'.st nt,obs) /\ ∀ p ∈ obs,p
 | [],s,k,r,_,h=>⟨s,[],[],h,rfl,by simp⟩
 | (i,o) :: l,s,k,r,hn,h=>by
  simp only [QX,YV] at hn;simp only [Hg] at h;obtain ⟨s0,fz,ob0,h1,h2,h3,_⟩:=Oo (nt:=nt) h;obtain ⟨s00,e1,hg⟩:=A9j (nt:=nt) h3
  have hEi:((A0 i A).getD {}).S P:=by
   cases hl:A0 i A with
   | none=>exact ⟨(fun E h=>by cases h),(fun E h=>by cases h),(fun E h=>by cases h)⟩
   | some a=>exact hE i a hl
  rcases hg with ⟨g1,g2⟩ | ⟨g1,g2⟩
  . obtain ⟨s1,D,ob1,h4,h5,h6⟩:=Awr (P:=P) (nt:=nt) hT g2 hEi;obtain ⟨s',Ds,ob2,h7,h8,h9⟩:=X8 hT hE l s1 k r hn.2 h6;refine ⟨s',(i,{ D with fz:=fz }) :: Ds,ob0 ++ (ob1 ++ ob2),h7,?_,fun p hp=>?_⟩
    . simp only [D2,Be,XP,h1];rw [e1] at h4;simp only [X5,g1,Aws,h4]
      rw [I3 (Ds':=Ds) l _ fun p hp=>Az fun e=>hn.1 (by rw [e];exact ZS.2 ⟨p,hp,rfl⟩),h8]
    . rcases QF.1 hp with hp | hp
      . exact h2 p hp
      . rcases QF.1 hp with hp | hp
        . exact h5 p hp
        . exact h9 p hp
  . obtain ⟨s1,h4,h6⟩:=Aco (nt:=nt) g2;obtain ⟨s',Ds,ob2,h7,h8,h9⟩:=X8 hT hE l s1 k r hn.2 h6;refine ⟨s',(i,{ fz:=fz }) :: Ds,ob0 ++ ([] ++ ob2),h7,?_,fun p hp=>?_⟩
    . simp only [D2,Be,XP,h1];rw [e1] at h4;simp only [X5,g1,h4,QP]
      rw [I3 (Ds':=Ds) l _ fun p hp=>Az fun e=>hn.1 (by rw [e];exact ZS.2 ⟨p,hp,rfl⟩),h8]
    . rcases QF.1 hp with hp | hp
      . exact h2 p hp
      . exact h9 p (by simpa using hp)
theorem A9c {β:Type} {i:Nat} {d:β} {Ds:List (Nat × β)} {ks:List Nat} (h:∀ j,(A0 j Ds).isSome = true ↔ j ∈ ks):∀ j,(A0 j ((i,d) :: Ds)).isSome = true ↔ j ∈ i :: ks:=by
 intro j;by_cases e:i = j
 . subst e;rw [Be];simp
 . rw [Az e,h j];simp [Ne.symm e]
theorem Tz {β:Type} {j:Nat}:∀ {a b:List (Nat × β)},(A0 j a).isSome = true->A0 j (a ++ b) = A0 j a
 | [],_,h=>by cases h
 | (i,x) :: r,b,h=>by
  by_cases e:i = j
  . subst e;rw [YK,Be,Be]
  . rw [Az e] at h;rw [YK,Az e,Az e,Tz h]
theorem U0 {β:Type} {j:Nat}:∀ {a b:List (Nat × β)},A0 j a = none->A0 j (a ++ b) = A0 j b
 | [],_,_=>rfl
 | (i,x) :: r,b,h=>by
  by_cases e:i = j
  . subst e;rw [Be] at h
    cases h
  . rw [Az e] at h;rw [YK,Az e,U0 h]
theorem A6i {K:Ak} {ops:List Oper} {A:List (Nat × OA)} {nt:Nat} (hE:∀ i a,A0 i A = some a->a.S P):∀ (l:List (Nat × Oper)) (s:St3) (k:St3->Option α) (r:α),(l.map (·.1)).Nodup->Ad4 T K ops A l s k = some r ->
  ∃ s' Ds obs,k s' = some r /\ (∀ xs,∃ ys,Fl P T K ops Ds l xs (s.st nt) = some (ys,s'.st nt,obs)) /\ (∀ p ∈ obs,p) /\ ∀ j,(A0 j Ds).isSome = true ↔ j ∈ l.map (·.1)
 | [],s,k,r,_,h=>⟨s,[],[],h,fun xs=>⟨xs,rfl⟩,by simp,fun j=>by simp [A0]⟩
 | (i,o) :: l,s,k,r,hn,h=>by
  simp only [QX,YV] at hn;simp only [Ad4] at h
  have hEi:((A0 i A).getD {}).S P:=by
   cases hl:A0 i A with
   | none=>exact ⟨(fun E h=>by cases h),(fun E h=>by cases h),(fun E h=>by cases h)⟩
   | some a=>exact hE i a hl
  obtain ⟨s00,e1,hg⟩:=A9j (nt:=nt) h;rcases hg with ⟨g1,g2⟩ | ⟨g1,g2⟩
  . cases hq:OA.quiet T ((A0 i A).getD {}) o s00 with
    | false=>rw [hq] at g2;cases g2
    | true =>
     rw [hq] at g2;simp only [cond] at g2;obtain ⟨t,s1,D,x,ob1,d1,d2,d3,d4,d5,d6⟩:=Aqb (P:=P) (nt:=nt) g2 hq hEi;obtain ⟨s',Ds,ob2,h7,h8,h9,h10⟩:=A6i hE l s1 k r hn.2 d5;refine ⟨s',(i,D) :: Ds,ob1 ++ ob2,h7,fun xs=>?_,fun p hp=>?_,A9c h10⟩
     . obtain ⟨ys,h8⟩:=h8 ((i,t,x) :: xs);refine ⟨ys,?_⟩;rw [e1] at d3 d6;simp only [Fl,d1,Be,XP,Qu,g1,d3,d2,cond]
       rw [<- d6,I2 (Ds':=Ds) l _ _ fun p hp=>Az fun e=>hn.1 (by rw [e];exact ZS.2 ⟨p,hp,rfl⟩),h8]
     . rcases QF.1 hp with hp | hp
       . exact d4 p hp
       . exact h9 p hp
  . cases hd:o.dst with
    | none=>rw [hd] at g2;cases g2
    | some t =>
     rw [hd] at g2;simp only [Option.isSome_some,cond] at g2;obtain ⟨s1,h4,h6⟩:=Aco (nt:=nt) g2;rw [hd] at h4;simp only [St.putD] at h4
     cases hb:Nat.blt t K.N with
     | false=>rw [hb] at h4;cases h4
     | true =>
      rw [hb] at h4;simp only [cond,QD] at h4;obtain ⟨s',Ds,ob2,h7,h8,h9,h10⟩:=A6i hE l s1 k r hn.2 h6
      refine ⟨s',(i,{}) :: Ds,[] ++ ob2,h7,fun xs=>?_,fun p hp=>h9 p (by simpa using hp),A9c h10⟩
      obtain ⟨ys,h8⟩:=h8 ((i,t,.tup []) :: xs);refine ⟨ys,?_⟩;rw [e1] at h4;simp only [Fl,hd,Be,XP,Qu,g1,hb,cond]
      rw [h4,I2 (Ds':=Ds) l _ _ fun p hp=>Az fun e=>hn.1 (by rw [e];exact ZS.2 ⟨p,hp,rfl⟩),h8]
theorem F3 (l:List Oper):((A8 l).map (·.1)).Nodup:=by
 have:(A8 l).map (·.1) = List.range l.length:=by
  apply KT;intro j;simp only [A8,XH,QL,YR];by_cases hj:j < l.length
  . simp [hj]
  . simp [hj]
 rw [this];exact Qak
theorem B1k (hT:As P T) (hfol:P.follows .mixedOrders = true) {K:Ak} {A:RA} {id:Nat} {ops:Array Oper} {draw:Bool} {s:St3} {nt:Nat} {k:St3->Option α} {r:α}
  (hE:∀ i a,A0 i A.ops = some a->a.S P) (h:Awx P T K A ops draw s k = some r) :
  ∃ s',Code.Den P K (.region id ops draw) (s.st nt) .normal (s'.st nt) /\ k s' = some r:=by
 unfold Awx at h
 cases draw with
 | true =>
  simp only [cond] at h
  cases hok:Dv ops A.m with
  | false=>rw [hok] at h;cases h
  | true =>
   rw [hok] at h;obtain ⟨s0,fz,ob0,h1,h2,h3,_⟩:=Oo (nt:=nt) h;obtain ⟨s1,Ds1,ob1,h4,h5,h6,h6'⟩:=A6i (P:=P) (nt:=nt) hE _ s0 _ _ ((F3 ops.toList).sublist ((List.take_sublist _ _).map _)) h3;obtain ⟨s2,Ds2,ob2,h7,h8,h9⟩:=X8 (P:=P) (nt:=nt) hT hE _ s1 _ _ ((F3 ops.toList).sublist ((List.drop_sublist _ _).map _)) h4;refine ⟨s2,?_,h7⟩;have hnd:=F3 ops.toList
   have e1:∀ p ∈ (A8 ops.toList).take A.m,A0 p.1 (Ds1 ++ Ds2) = A0 p.1 Ds1:=fun p hp=>by
    have:=(h6' p.1).2 (ZS.2 ⟨p,hp,rfl⟩);exact Tz this
   have e2:∀ p ∈ (A8 ops.toList).drop A.m,A0 p.1 (Ds1 ++ Ds2) = A0 p.1 Ds2:=fun p hp=>by
    refine U0 ?_
    cases hl:A0 p.1 Ds1 with
    | none=>rfl
    | some d =>
     exfalso
     have hm:=(h6' p.1).1 (by rw [hl];rfl)
     have hd:p.1 ∈ ((A8 ops.toList).drop A.m).map (·.1):=ZS.2 ⟨p,hp,rfl⟩;rw [<- JL A.m (A8 ops.toList),JZ,List.nodup_append] at hnd;exact hnd.2.2 _ hm _ hd rfl
   obtain ⟨ys,h5⟩:=h5 []
   have:Uo P T K ops A.m (Ds1 ++ Ds2) fz (s.st nt) = some (s2.st nt,(P.follows .mixedOrders = true) :: (ob0 ++ (ob1 ++ ob2))):=by
    unfold Uo;rw [hok];simp only [cond,h1];rw [I2 _ _ _ e1,h5];simp only;rw [I3 _ _ e2,h8]
   refine Acy hT this fun p hp=>?_;rcases QT.1 hp with rfl | hp
   . exact hfol
   . rcases QF.1 hp with hp | hp
     . exact h2 p hp
     . rcases QF.1 hp with hp | hp
       . exact h6 p hp
       . exact h9 p hp
 | false =>
  simp only [cond] at h;obtain ⟨s2,Ds2,ob2,h7,h8,h9⟩:=X8 (P:=P) (nt:=nt) hT hE _ s _ _ (F3 ops.toList) h;refine ⟨s2,?_,h7⟩
  have:K9 P T K ops { ds:=Ds2,drop:=[] } (s.st nt) = some ((s2.st nt).forget [],ob2):=by
   unfold K9;simp only [h8]
  have:=Ad2 (id:=id) hT this h9
  have e:(s2.st nt).forget [] = s2.st nt:=by
   have:Ac5 [] (s2.st nt).slots = (s2.st nt).slots:=JU.2 fun _ _=>rfl;unfold St.forget;rw [this]
  rw [e] at this;exact this
end Go.Ev
