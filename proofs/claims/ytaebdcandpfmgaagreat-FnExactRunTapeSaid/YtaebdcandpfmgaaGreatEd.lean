/- DERIVED. The evaluator over shapes of data: calls, trees, all paths. -/
import Derived.Test.YtaebdcandpfmgaaGreatEc

set_option linter.all false
set_option linter.unusedVariables false
set_option linter.unusedSimpArgs false

/- DERIVED. What is settled, and results, over shapes; templates of states. -/
namespace Go.Ev
open Go
variable {P:Program} {T:Ty}
theorem Va {bs:List (Nat × B3)} {t:Sh} {v:SV} {g:Bool} {x:t.den} {ks:List Nat} (ht:t.one = true) (h:E8 bs t v = some (g,x,ks)) (hg:g = true) :
  v.cellB = true /\ (∃ ob,Ko (A0 · (Ae (B3.box (A3 bs)) bs)) (v.c (A3 bs)) (.i (hd1 (t.cells x))) = some (ob,ks) /\ ∀ p ∈ ob,p) /\ ∀ k ∈ ks,k < 1000 /\ (A0 k bs).isSome = true:=by
 unfold E8 at h;split at h
 . rename_i hh;split at h
   . rename_i t0;split at h
     . rename_i e sh fz xs hl
       cases hk:Nat.blt hh 1000 with
       | false=>rw [hk] at h;cases h
       | true =>
        rw [hk] at h;simp only [cond,QB,QG] at h;obtain ⟨y,hy,rfl,rfl,rfl⟩:=h;obtain ⟨rfl,rfl⟩:=Da hy
        have hle:A3 bs hh = xs.length:=by simp [A3,hl,B3.len]
        refine ⟨rfl,⟨[0 + A3 bs hh <= (xs.map fun y=>(sh.cells y).map C.i).length,((xs.map fun y=>(sh.cells y).map C.i).drop 0).take (A3 bs hh) = (xs.map sh.cells).map (·.map .i)],?_,?_⟩,?_⟩
        . simp only [Ko,SV.c,Bi,hl,QP,B3.box,Sh.cells,hd1,XD,XI,XU,ZF,cond]
        . simp only [QT,YH,or_false,forall_eq_or_imp,forall_eq]
          refine ⟨by simp [hle],?_⟩
          rw [ZR,hle,XM (by simp),XG]
          rfl
        . intro k hk';simp only [QR] at hk';subst hk'
          exact ⟨by simpa [ZO] using hk,by rw [hl];rfl⟩
     . cases h
   . cases h
 . rename_i hh off len;split at h
   . rename_i t0;split at h
     . rename_i e sh fz xs hl
       cases hk:Nat.blt hh 1000 with
       | false=>rw [hk] at h;cases h
       | true =>
        rw [hk] at h;simp only [cond,QB,QG] at h;obtain ⟨y,hy,rfl,rfl,rfl⟩:=h;obtain ⟨rfl,rfl⟩:=Da hy;simp only [QQ] at hg;refine ⟨rfl,⟨[off + len <= (xs.map fun y=>(sh.cells y).map C.i).length,((xs.map fun y=>(sh.cells y).map C.i).drop off).take len = (((xs.drop off).take len).map sh.cells).map (·.map .i)],?_,?_⟩,?_⟩
        . simp only [Ko,SV.c,Bi,hl,QP,B3.box,Sh.cells,hd1,XD,XI,XU,ZF,cond]
        . simp only [QT,YH,or_false,forall_eq_or_imp,forall_eq]
          refine ⟨by simpa using hg,?_⟩
          rw [XG,JI,KI];rfl
        . intro k hk';simp only [QR] at hk';subst hk'
          exact ⟨by simpa [ZO] using hk,by rw [hl];rfl⟩
     . cases h
   . cases h
 . rename_i cs;split at h
   . rename_i t0
     cases hd:cs.all SV.isD with
     | false=>rw [hd] at h;cases h
     | true =>
      rw [hd] at h;simp only [cond,QB,QG] at h;obtain ⟨y,hy,rfl,rfl,rfl⟩:=h;obtain ⟨_,_,h3,_⟩:=C6 hy
      refine ⟨hd,⟨[C.i (.ref 0 (cs.map SV.i0)) = C.i (.ref 0 (t0.cells y))],rfl,by simp [h3 hd]⟩,by simp⟩
   . cases h
 . rename_i h1 h2 h3;rw [ht] at h;simp only [cond,QB,QG] at h;obtain ⟨y,hy,rfl,rfl,rfl⟩:=h;obtain ⟨q1,ob,q2,q3⟩:=Pa (L:=A3 bs) ht hy
   refine ⟨Mv q1,⟨ob,?_,q3⟩,by simp⟩
   have hI:Bt (v.c (A3 bs)) = true:=Ky (A4k q1);unfold Ko;split
   . rename_i he _;rw [he] at hI;cases hI
   . rw [q2];rfl
def Ml (bs:List (Nat × B3)) (cs:List SV) (ds:List I) (ks:List Nat):Prop :=
 (∃ ob,E7 (A0 · (Ae (B3.box (A3 bs)) bs)) (cs.map (SV.c (A3 bs))) (ds.map .i) = some (ob,ks) /\ ∀ p ∈ ob,p) /\ ∀ k ∈ ks,k < 1000 /\ (A0 k bs).isSome = true
theorem Ml.app {bs:List (Nat × B3)}:∀ {cs cs':List SV} {ds ds':List I} {ks ks':List Nat},Ml bs cs ds ks->Ml bs cs' ds' ks'->Ml bs (cs ++ cs') (ds ++ ds') (ks ++ ks')
 | [],cs',[],ds',ks,ks',h,h'=>by
  obtain ⟨⟨ob,h,_⟩,_⟩:=h;simp only [YU,E7,QD,QG] at h;obtain ⟨_,rfl⟩:=h;exact h'
 | [],cs',d :: ds,ds',_,_,h,_=>by obtain ⟨⟨ob,h,_⟩,_⟩:=h;simp [E7] at h
 | c :: cs,cs',[],ds',_,_,h,_=>by obtain ⟨⟨ob,h,_⟩,_⟩:=h;simp [E7] at h
 | c :: cs,cs',d :: ds,ds',ks,ks',h,h'=>by
  obtain ⟨⟨ob,h,ho⟩,hk⟩:=h;simp only [QV,E7] at h;split at h
  . rename_i p k q l h1 h2;simp only [QD,QG] at h;obtain ⟨rfl,rfl⟩:=h;obtain ⟨⟨ob2,h3,ho2⟩,hk2⟩:=Ml.app (cs:=cs) (ds:=ds) (ks:=l) ⟨⟨q,h2,fun x hx=>ho x (QF.2 (.inr hx))⟩,fun k hk'=>hk k (QF.2 (.inr hk'))⟩ h';refine ⟨⟨p ++ ob2,?_,fun x hx=>?_⟩,fun j hj=>?_⟩
    . simp only [YG,QV,E7,h1,h3,ZM]
    . rcases QF.1 hx with hx | hx
      . exact ho x (QF.2 (.inl hx))
      . exact ho2 x hx
    . rw [ZM] at hj;rcases QF.1 hj with hj | hj
      . exact hk j (QF.2 (.inl hj))
      . exact hk2 j hj
  . cases h
theorem Az1 {bs:List (Nat × B3)}:∀ (t:Sh) (cs:List SV) (g:Bool) (x:t.den) (ks:List Nat) (r:List SV),t.impB bs cs = some (g,x,ks,r)->g = true->∃ pre,cs = pre ++ r /\ Ml bs pre (t.cells x) ks /\ pre.all SV.cellB = true:=by
 have cell:∀ (t:Sh) (c:SV) (r q:List SV) (g:Bool) (x:t.den) (ks:List Nat),t.one = true->(E8 bs t c).map (fun p=>(p.1,p.2.1,p.2.2,r)) = some (g,x,ks,q)->g = true->∃ pre,c :: r = pre ++ q /\ Ml bs pre (t.cells x) ks /\ pre.all SV.cellB = true:=by
  intro t c r q g x ks ht h hg;simp only [QB,QG] at h;obtain ⟨⟨g',x',k'⟩,h1,rfl,rfl,rfl,rfl⟩:=h;obtain ⟨hc,⟨ob,h2,h3⟩,h4⟩:=Va ht h1 hg
  refine ⟨[c],rfl,⟨⟨ob ++ [],?_,by simpa using h3⟩,h4⟩,by simp [hc]⟩
  rw [P7 t x' ht];simp only [QV,YU,E7,h2,XA]
 intro t
 induction t with
 | pair a b iha ihb =>
  intro cs g x ks r h hg;simp only [Sh.impB] at h;split at h
  . rename_i g1 y k1 q h1;split at h
    . rename_i g2 z k2 q' h2;simp only [QD,QG] at h;obtain ⟨rfl,rfl,rfl,rfl⟩:=h;simp only [QE] at hg;obtain ⟨p1,e1,c1,i1⟩:=iha _ _ _ _ _ h1 hg.1;obtain ⟨p2,e2,c2,i2⟩:=ihb _ _ _ _ _ h2 hg.2
      exact ⟨p1 ++ p2,by rw [e1,e2,ZM],c1.app c2,by simp [i1,i2]⟩
    . cases h
  . cases h
 | st t ih=>intro cs g x ks r h hg;exact ih _ _ _ _ _ h hg
 | unit =>
  intro cs g x ks r h _;simp only [Sh.impB,QD,QG] at h;obtain ⟨_,_,rfl,rfl⟩:=h
  exact ⟨[],rfl,⟨⟨[],rfl,by simp⟩,by simp⟩,rfl⟩
 | int k=>intro cs g x ks r h hg;cases cs with | nil=>simp [Sh.impB] at h | cons c cs=>exact cell _ _ _ _ _ _ _ rfl h hg
 | bool=>intro cs g x ks r h hg;cases cs with | nil=>simp [Sh.impB] at h | cons c cs=>exact cell _ _ _ _ _ _ _ rfl h hg
 | str=>intro cs g x ks r h hg;cases cs with | nil=>simp [Sh.impB] at h | cons c cs=>exact cell _ _ _ _ _ _ _ rfl h hg
 | nil=>intro cs g x ks r h hg;cases cs with | nil=>simp [Sh.impB] at h | cons c cs=>exact cell _ _ _ _ _ _ _ rfl h hg
 | fn f=>intro cs g x ks r h hg;cases cs with | nil=>simp [Sh.impB] at h | cons c cs=>exact cell _ _ _ _ _ _ _ rfl h hg
 | sl t _=>intro cs g x ks r h hg;cases cs with | nil=>simp [Sh.impB] at h | cons c cs=>exact cell _ _ _ _ _ _ _ rfl h hg
 | ref t _=>intro cs g x ks r h hg;cases cs with | nil=>simp [Sh.impB] at h | cons c cs=>exact cell _ _ _ _ _ _ _ rfl h hg
 | clo f c _=>intro cs g x ks r h hg;cases cs with | nil=>simp [Sh.impB] at h | cons v cs=>exact cell _ _ _ _ _ _ _ rfl h hg
theorem F0 {L:Nat->Nat} {v:SV} (h:v.cellB = true):v.s L = .v (.one (v.c L)) /\ v.v L = .one (v.c L):=by cases v <;> first | exact ⟨rfl,rfl⟩ | cases h
theorem Nb {bs:List (Nat × B3)} {t:Sh} {v:SV} {g:Bool} {x:t.den} {ks:List Nat} (h:V8 bs t v = some (g,x,ks)) (hg:g = true) :
  v.s (A3 bs) = .v (v.v (A3 bs)) /\ (∃ ob,Hu (A0 · (Ae (B3.box (A3 bs)) bs)) (v.v (A3 bs)) (t.v x) = some (ob,ks) /\ ∀ p ∈ ob,p) /\ ∀ k ∈ ks,k < 1000 /\ (A0 k bs).isSome = true:=by
 unfold V8 at h
 cases ht:t.one with
 | true =>
  rw [ht] at h;obtain ⟨hc,⟨ob,h1,h2⟩,h3⟩:=Va ht h hg;obtain ⟨e1,e2⟩:=F0 (L:=A3 bs) hc
  refine ⟨by rw [e1,e2],⟨ob,?_,h2⟩,h3⟩
  simp only [e2,Sh.v,ht,cond,Hu,h1]
 | false =>
  rw [ht] at h;simp only [cond] at h;split at h
  . rename_i cs;split at h
    . rename_i g1 y k1 hi;simp only [QD,QG] at h;obtain ⟨rfl,rfl,rfl⟩:=h;obtain ⟨pre,e,⟨⟨ob,h1,h2⟩,h3⟩,_⟩:=Az1 _ _ _ _ _ _ hi hg;rw [XA] at e;subst e;refine ⟨rfl,⟨ob,?_,h2⟩,h3⟩;simp only [SV.v,Sh.v,ht,cond,Hu,h1]
    . cases h
  . cases h
theorem S7 {bs:List (Nat × B3)} {L:Nat->Nat} {ks:List Nat} (h:∀ k ∈ ks,k < 1000 /\ (A0 k bs).isSome = true):Fs (Ae (B3.box L) bs) ks = true:=by
 unfold Fs;refine QM.2 fun k hk=>?_;obtain ⟨h1,h2⟩:=h k hk;rw [Ac,JC,h2];simpa [ZO] using h1
theorem Pj {s s':St3} {nt:Nat} {t:Nat} {sh:Sh} {g:Bool} (h:Kv s t sh = some (g,s')) (hg:g = true) :
  ∃ (x':V) (ob:List Prop),T9 (s.st nt) t x' = some (s'.st nt,ob) /\ ∀ p ∈ ob,p:=by
 unfold Kv at h;split at h
 . rename_i v hv;split at h
   . rename_i g1 x ks hc;simp only [QD,QG] at h;obtain ⟨rfl,rfl⟩:=h;obtain ⟨h1,⟨ob,h2,h3⟩,h4⟩:=Nb hc hg;refine ⟨sh.v x,ob,?_,h3⟩
     have hl:A0 t (s.st nt).slots = some (.v (v.v (A3 s.boxes))):=by
      simp only [St3.st,Ac,hv,QP,h1]
     have h2':Hu (A0 · (s.st nt).boxes) (v.v (A3 s.boxes)) (sh.v x) = some (ob,ks):=h2;have hz:Fs (s.st nt).boxes ks = true:=S7 h4;simp only [T9,hl,h2',hz,cond,QD,QG,and_true];simp only [St3.st];congr 1
     . rw [Ci,<- (Ha (L:=A3 s.boxes) sh x).2,Co]
     . rw [Ci];exact Fn _ _ _
   . cases h
 . cases h
inductive TS where
 | d (t:Sh)
 | ag (t:Sh)
 | k (v:SV)
 | hs (h:Nat)
@[reducible] def TS.den:TS->Type
 | .d t=>t.den
 | .ag t=>t.den
 | .k _=>Unit
 | .hs _=>Nat × Nat
def TS.enc:(t:TS)->t.den->SV
 | .d t,x=>.d t x
 | .ag t,x=>.agg (t.exp x)
 | .k v,_=>v
 | .hs h,x=>.hs h x.1 x.2
def SV.same:SV->SV->Bool
 | .hw h,.hw h'=>Nat.beq h h'
 | .hp h r c,.hp h' r' c'=>Nat.beq h h' && Nat.beq r r' && Nat.beq c c'
 | .dead,_=>true
 | .d t _,.d t' _=>(match t with
  | .nil=>true
  | .fn _=>true
  | _=>false) && t.eqb t'
 | _,_=>false
def TS.dec:(t:TS)->SV->Option t.den
 | .d t,v=>match v with
  | .rf cs=>match t with
   | .ref t0=>bif cs.all SV.isD then t0.all false cs else none
   | _=>none
  | v=>bif t.one then v.as true t else none
 | .ag t,v=>match v with
  | .agg cs=>t.all true cs
  | _=>none
 | .k c,v=>bif c.same v then some () else none
 | .hs h,v=>match v with
  | .hs h' o l=>bif Nat.beq h h' then some (o,l) else none
  | _=>none
inductive TB where
 | arr (e:TypeId) (t:Sh) (fz:Bool)
 | var (e:TypeId) (hf fz:Bool) (cs:List TS)
 | tree (e:TypeId) (t:Sh) (fz:Bool)
@[reducible] def DL:List TS->Type
 | []=>Unit
 | t :: r=>t.den × DL r
def Ht:(l:List TS)->DL l->List SV
 | [],_=>[]
 | t :: r,x=>t.enc x.1 :: Ht r x.2
def A6a:(l:List TS)->List SV->Option (DL l)
 | [],[]=>some ()
 | t :: r,v :: vs=>match t.dec v,A6a r vs with
  | some x,some xs=>some (x,xs)
  | _,_=>none
 | _,_=>none
@[reducible] def TB.den:TB->Type
 | .arr _ t _=>List t.den
 | .var _ _ _ cs=>DL cs
 | .tree _ t _=>List t.den
def TB.enc:(b:TB)->b.den->B3
 | .arr e t fz,xs=>.arr e t fz xs
 | .var e hf fz cs,xs=>.var e hf fz (Ht cs xs)
 | .tree e t fz,xs=>.tree e t fz xs
def TB.dec:(b:TB)->B3->Option b.den
 | .arr e t fz,b=>match b with
  | .arr e' t' fz' xs=>bif Nat.beq e e' && (fz == fz') then (Sh.sl t').to (.sl t) xs else none
  | .rep e' fz' n cs=>bif Nat.beq e e' && (fz == fz') then (t.all true cs).map fun x=>List.replicate n x else none
  | _=>none
 | .var e hf fz cs,b=>match b with
  | .var e' hf' fz' vs=>bif Nat.beq e e' && (hf == hf') && (fz == fz') && vs.all SV.cellB then (match A6a cs vs with
   | some x=>bif (Ht cs x).all SV.cellB && (!hf || (Ht cs x).all SV.imm) then some x else none
   | none=>none) else none
  | _=>none
 | .tree e t fz,b=>match b with
  | .tree e' t' fz' xs=>bif Nat.beq e e' && (fz == fz') then (Sh.sl t').to (.sl t) xs else none
  | _=>none
@[reducible] def DK (β:Type) (den:β->Type):List (Nat × β)->Type
 | []=>Unit
 | (_,t) :: r=>den t × DK β den r
def Aei:(l:List (Nat × TS))->DK TS TS.den l->List (Nat × SV)
 | [],_=>[]
 | (k,t) :: r,x=>(k,t.enc x.1) :: Aei r x.2
def A69:(l:List (Nat × TS))->List (Nat × SV)->Option (DK TS TS.den l)
 | [],[]=>some ()
 | (k,t) :: r,(j,v) :: vs=>bif Nat.beq k j then (match t.dec v,A69 r vs with
  | some x,some xs=>some (x,xs)
  | _,_=>none) else none
 | _,_=>none
def Rn:(l:List (Nat × TB))->DK TB TB.den l->List (Nat × B3)
 | [],_=>[]
 | (k,t) :: r,x=>(k,t.enc x.1) :: Rn r x.2
def A6b:(l:List (Nat × TB))->List (Nat × B3)->Option (DK TB TB.den l)
 | [],[]=>some ()
 | (k,t) :: r,(j,v) :: vs=>bif Nat.beq k j then (match t.dec v,A6b r vs with
  | some x,some xs=>some (x,xs)
  | _,_=>none) else none
 | _,_=>none
structure Tm where
 slots:List (Nat × TS)
 boxes:List (Nat × TB):=[]
 drop:List Nat:=[]
 fz:List (Nat × Sh):=[]
@[reducible] def Tm.den (X:Tm):Type:=DK TS TS.den X.slots × DK TB TB.den X.boxes
def Tm.enc (X:Tm) (x:X.den):St3:=⟨Aei X.slots x.1,Rn X.boxes x.2⟩
def Pv:List (Nat × TS)->List (Nat × SV)->List (Nat × SV)
 | X,sl=>sl.filter fun p=>X.any fun q=>Nat.beq q.1 p.1
def Aa1:List Nat->St3->Option St3
 | [],s=>some s
 | h :: r,s=>bif Nat.blt h 1000 && s.clean h then Aa1 r { s with boxes:=Bp h s.boxes } else none
def I7:List (Nat × Sh)->St3->Option St3
 | [],s=>some s
 | (t,sh) :: r,s=>match A0 t s.slots with
  | some (.d _ _)=>I7 r s
  | _=>match Kv s t sh with
   | some (g,s1)=>bif g then I7 r s1 else none
   | none=>none
def Tm.dec1 (X:Tm) (s:St3):Option X.den :=
 match Aa1 X.drop { s with slots:=Pv X.slots s.slots } with
 | some s2=>match A69 X.slots s2.slots,A6b X.boxes s2.boxes with
  | some x,some y=>some (x,y)
  | _,_=>none
 | none=>none
def Tm.dec (X:Tm) (s:St3):Option X.den :=
 match I7 X.fz s with
 | some s1=>X.dec1 s1
 | none=>none
end Go.Ev

/- DERIVED. Calls that are handed boxes or hand out boxes, over shapes. -/
namespace Go.Ev
open Go
variable {P:Program} {T:Ty}
inductive CK where
 | im (t:Sh)
 | own (e:TypeId) (t:Sh)
 | ptr (e:TypeId) (t:Sh)
 | back (k:Nat)
 | win (e:TypeId) (t:Sh)
 | tree (e:TypeId) (t:Sh)
 | emp (t:Sh)
@[reducible] def CK.den:CK->Type
 | .im t=>t.den
 | .own _ t=>List t.den
 | .ptr _ t=>t.den
 | .back _=>Unit
 | .win _ t=>List t.den × Nat × Nat
 | .tree _ t=>List t.den
 | .emp _=>Unit
@[reducible] def DC:List CK->Type
 | []=>Unit
 | [c]=>c.den
 | c :: d :: r=>c.den × DC (d :: r)
inductive PK where
 | im (t:Sh)
 | one (c:CK)
 | mix (cs:List CK)
@[reducible] def PK.den:PK->Type
 | .im t=>t.den
 | .one c=>c.den
 | .mix cs=>DC cs
@[reducible] def HP:List PK->Type
 | []=>Unit
 | [p]=>p.den
 | p :: q :: r=>p.den × HP (q :: r)
def CK.sv (k:Nat):(c:CK)->c.den->SV
 | .im t,x=>.d t x
 | .own _ _,_=>.hw k
 | .ptr _ _,_=>.hp k 0 0
 | .back j,_=>.hw j
 | .win _ _,x=>.hs k x.2.1 x.2.2
 | .tree _ _,_=>.hw k
 | .emp t,_=>.d (.sl t) []
def CK.bx (k:Nat):(c:CK)->c.den->List (Nat × B3)
 | .own e t,xs=>[(k,.arr e t false xs)]
 | .ptr e t,x=>[(k,.var e true false (t.exp x))]
 | .win e t,x=>[(k,.arr e t false x.1)]
 | .tree e t,xs=>[(k,.tree e t false xs)]
 | _,_=>[]
def T5 (k:Nat):(cs:List CK)->DC cs->List SV
 | [],_=>[]
 | [c],x=>[c.sv k x]
 | c :: d :: r,x=>c.sv k x.1 :: T5 (k + 1) (d :: r) x.2
def K3 (k:Nat):(cs:List CK)->DC cs->List (Nat × B3)
 | [],_=>[]
 | [c],x=>c.bx k x
 | c :: d :: r,x=>c.bx k x.1 ++ K3 (k + 1) (d :: r) x.2
def PK.n:PK->Nat
 | .mix cs=>cs.length
 | _=>1
def PK.isIm:PK->Bool
 | .im _=>true
 | _=>false
def PK.sv (k:Nat):(p:PK)->p.den->SV
 | .im t,x=>t.sv x
 | .one c,x=>c.sv k x
 | .mix cs,x=>.agg (T5 k cs x)
def PK.bx (k:Nat):(p:PK)->p.den->List (Nat × B3)
 | .im _,_=>[]
 | .one c,x=>c.bx k x
 | .mix cs,x=>K3 k cs x
def Bl (k:Nat):(ps:List PK)->HP ps->List SV
 | [],_=>[]
 | [p],x=>[p.sv k x]
 | p :: q :: r,x=>p.sv k x.1 :: Bl (k + p.n) (q :: r) x.2
def Ck (k:Nat):(ps:List PK)->HP ps->List (Nat × B3)
 | [],_=>[]
 | [p],x=>p.bx k x
 | p :: q :: r,x=>p.bx k x.1 ++ Ck (k + p.n) (q :: r) x.2
def CK.owns (k:Nat):CK->List (Nat × CK)
 | .own e t=>[(k,.own e t)]
 | .ptr e t=>[(k,.ptr e t)]
 | .win e t=>[(k,.own e t)]
 | .tree e t=>[(k,.tree e t)]
 | _=>[]
def Ajs (k:Nat):List CK->List (Nat × CK)
 | []=>[]
 | c :: r=>c.owns k ++ Ajs (k + 1) r
def PK.owns (k:Nat):PK->List (Nat × CK)
 | .im _=>[]
 | .one c=>c.owns k
 | .mix cs=>Ajs k cs
def Aj (k:Nat):List PK->List (Nat × CK)
 | []=>[]
 | p :: r=>p.owns k ++ Aj (k + p.n) r
@[reducible] def DO:List (Nat × CK)->Type
 | []=>Unit
 | [p]=>p.2.den
 | p :: q :: r=>p.2.den × DO (q :: r)
def bxO:(os:List (Nat × CK))->DO os->List (Nat × B3)
 | [],_=>[]
 | [p],x=>p.2.bx p.1 x
 | p :: q :: r,x=>p.2.bx p.1 x.1 ++ bxO (q :: r) x.2
@[reducible] def HR (rs:List PK):List (Nat × CK)->Type
 | []=>HP rs
 | p :: r=>HP rs × DO (p :: r)
def Kd {rs:List PK}:{os:List (Nat × CK)}->HR rs os->HP rs
 | [],y=>y
 | _ :: _,y=>y.1
def Axn {rs:List PK}:{os:List (Nat × CK)}->HR rs os->DO os
 | [],_=>()
 | _ :: _,y=>y.2
structure I3 where
 f:Nat
 ts:List PK
 rs:List PK
def If (E:I3) (x:HP E.ts):List (Nat × B3):=Ck 1000 E.ts x
def Av (E:I3) (y:HR E.rs (Aj 1000 E.ts)):List (Nat × B3):=Ck 0 E.rs (Kd y) ++ bxO (Aj 1000 E.ts) (Axn y)
def Bm (bs:List (Nat × B3)):List (Nat × Box):=Ae (B3.box (A3 bs)) bs
def I3.Den (P:Program) (E:I3) (nt:Nat) (x:HP E.ts) (y:HR E.rs (Aj 1000 E.ts)):Prop :=
 I2 P E.f nt [] (Bm (If E x)) ((Bl 1000 E.ts x).map (SV.v (A3 (If E x)))) ((G2 (Bl 0 E.rs (Kd y))).s (A3 (Av E y))) nt (Bm (Av E y))
@[reducible] def HF (os:List (Nat × CK)):List (List PK)->Type
 | []=>Unit
 | [rs]=>HR rs os
 | rs :: r :: q=>HR rs os ⊕ HF os (r :: q)
def Gj {A B α:Type} (z:A ⊕ B) (f:A->Option α) (g:B->Option α):Option α:=match z with
 | .inl a=>f a
 | .inr b=>g b
def Hx {α:Type} (os:List (Nat × CK)):(fs:List (List PK))->HF os fs->((rs:List PK)->HR rs os->Option α)->Option α
 | [],_,_=>none
 | [rs],y,k=>k rs y
 | rs :: r :: q,z,k=>Gj z (fun y=>k rs y) (fun z=>Hx os (r :: q) z k)
def A6l (os:List (Nat × CK)):(fs:List (List PK))->HF os fs->((rs:List PK)->HR rs os->Prop)->Prop
 | [],_,_=>True
 | [rs],y,k=>k rs y
 | rs :: _ :: _,.inl y,k=>k rs y
 | _ :: r :: q,.inr z,k=>A6l os (r :: q) z k
theorem Kp {α:Type} {os:List (Nat × CK)} {p:(rs:List PK)->HR rs os->Prop}:∀ {fs:List (List PK)} {z:HF os fs} {k:(rs:List PK)->HR rs os->Option α} {r:α},Hx os fs z k = some r->A6l os fs z p->∃ rs y,k rs y = some r /\ p rs y
 | [],_,_,_,h,_=>by cases h
 | [rs],y,k,r,h,hp=>⟨rs,y,h,hp⟩
 | rs :: _ :: _,.inl y,k,r,h,hp=>⟨rs,y,h,hp⟩
 | _ :: r :: q,.inr z,k,_,h,hp=>Kp (fs:=r :: q) h hp
structure Ent3 where
 f:Nat
 ts:List PK
 forms:List (List PK)
 m:HP ts->Option (HF (Aj 1000 ts) forms)
def Ent3.Sound (P:Program) (E:Ent3):Prop:=∀ (nt:Nat) (x:HP E.ts) (z:HF (Aj 1000 E.ts) E.forms),E.m x = some z->A6l (Aj 1000 E.ts) E.forms z fun rs y=>I3.Den P ⟨E.f,E.ts,rs⟩ nt x y
def Hk (rn:List (Nat × Nat)) (k:Nat):Nat:=match A0 k rn with
 | some h=>h
 | none=>0
def Hz:List (Nat × Nat)->Nat->Option Nat
 | [],_=>none
 | (k,h') :: r,h=>bif Nat.beq h' h then some k else Hz r h
def Dz:List (Nat × Nat)->Bool
 | []=>true
 | (k,h) :: r=>r.all (fun p=>!Nat.beq p.1 k && !Nat.beq p.2 h) && Dz r
def Br {β:Type}:List (Nat × β)->List (Nat × Nat)->Bool
 | [],[]=>true
 | (k,_) :: B,(k',_) :: R=>Nat.beq k k' && Br B R
 | _,_=>false
def Tv:List (Nat × B3)->List (Nat × Nat)->List (Nat × B3)->List (Nat × B3)
 | (_,b) :: B,(_,h) :: R,bs=>Ag h b (Tv B R bs)
 | _,_,bs=>bs
theorem Jr {a b:Nat} (h:Nat.beq a b = false):a ≠ b:=fun e=>by subst e;simp at h
theorem G1 {a b:Nat} (h:a ≠ b):Nat.beq a b = false:=by cases hb:Nat.beq a b with | false=>rfl | true=>exact absurd (QC hb) h
theorem J6 {k h:Nat} {r:List (Nat × Nat)} (hg:Dz ((k,h) :: r) = true):(∀ p ∈ r,p.1 ≠ k /\ p.2 ≠ h) /\ Dz r = true:=by
 simp only [Dz,QE,QM,ZJ] at hg;exact ⟨fun p hp=>⟨Jr (hg.1 p hp).1,Jr (hg.1 p hp).2⟩,hg.2⟩
theorem C5 {β:Type}:∀ {rn:List (Nat × β)} {k:Nat} {h:β},A0 k rn = some h->(k,h) ∈ rn
 | [],_,_,e=>by cases e
 | (k',h') :: r,k,h,e=>by
  simp only [A0] at e
  cases hb:Nat.beq k' k with
  | true=>rw [hb] at e;obtain rfl:=QA e;rw [QC hb];exact YO
  | false=>rw [hb] at e;exact ZU _ (C5 e)
theorem X8:∀ {rn:List (Nat × Nat)} {k h:Nat},Hz rn h = some k->(k,h) ∈ rn
 | [],_,_,e=>by cases e
 | (k',h') :: r,k,h,e=>by
  simp only [Hz] at e
  cases hb:Nat.beq h' h with
  | true=>rw [hb] at e;obtain rfl:=QA e;rw [QC hb];exact YO
  | false=>rw [hb] at e;exact ZU _ (X8 e)
theorem Lo:∀ {rn:List (Nat × Nat)} {k h:Nat},Dz rn = true->(k,h) ∈ rn->A0 k rn = some h /\ Hz rn h = some k
 | [],_,_,_,e=>by cases e
 | (k',h') :: r,k,h,hg,e=>by
  obtain ⟨h1,h2⟩:=J6 hg;simp only [A0,Hz];rcases QT.1 e with e | e
  . obtain ⟨rfl,rfl⟩:=KE e;simp only [XD,cond];exact ⟨trivial,trivial⟩
  . obtain ⟨e1,e2⟩:=Lo h2 e;rw [G1 (h1 _ e).1.symm,G1 (h1 _ e).2.symm];exact ⟨e1,e2⟩
theorem Eh {β:Type}:∀ {B:List (Nat × β)} {R:List (Nat × Nat)},Br B R = true->∀ k,(A0 k B).isSome = (A0 k R).isSome
 | [],[],_,_=>rfl
 | (k1,b) :: B,(k2,h) :: R,e,k=>by
  simp only [Br,QE] at e;obtain rfl:=QC e.1;simp only [A0]
  cases Nat.beq k1 k with
  | true=>rfl
  | false=>exact Eh e.2 k
 | [],_ :: _,e,_=>by simp [Br] at e
 | _ :: _,[],e,_=>by simp [Br] at e
theorem Tn {β:Type}:∀ {B:List (Nat × β)} {R:List (Nat × Nat)} {k:Nat} {b:β},Br B R = true->Dz R = true->(k,b) ∈ B->A0 k B = some b
 | [],_,_,_,_,_,e=>by cases e
 | (k1,b1) :: B,(k2,h) :: R,k,b,hs,hg,e=>by
  simp only [Br,QE] at hs;obtain rfl:=QC hs.1;obtain ⟨h1,h2⟩:=J6 hg;simp only [A0];rcases QT.1 e with e | e
  . obtain ⟨rfl,rfl⟩:=KE e;simp only [XD,cond]
  . have:=Tn hs.2 h2 e
    have hk:(A0 k R).isSome = true:=by rw [<- Eh hs.2 k,this];rfl
    obtain ⟨h',hh⟩:=ZB.1 hk;rw [G1 (h1 _ (C5 hh)).1.symm];exact this
 | _ :: _,[],_,_,hs,_,_=>by simp [Br] at hs
theorem Xw:∀ {B:List (Nat × B3)} {R:List (Nat × Nat)} {bs:List (Nat × B3)},Br B R = true->Dz R = true->∀ h,A0 h (Tv B R bs) = match Hz R h with | some k=>A0 k B | none=>A0 h bs
 | [],[],_,_,_,h=>rfl
 | (k1,b) :: B,(k2,h2) :: R,bs,hs,hg,h=>by
  simp only [Br,QE] at hs;obtain rfl:=QC hs.1;obtain ⟨g1,g2⟩:=J6 hg;simp only [Tv,Hz]
  cases hb:Nat.beq h2 h with
  | true =>
   obtain rfl:=QC hb;simp only [cond,A7,A0,XD]
  | false =>
   simp only [cond];rw [A8 _ _ (Jr hb).symm,Xw hs.2 g2 h]
   cases hw:Hz R h with
   | none=>rfl
   | some k =>
    simp only [A0];rw [G1 (g1 _ (X8 hw)).1.symm];rfl
 | [],_ :: _,_,e,_,_=>by simp [Br] at e
 | _ :: _,[],_,e,_,_=>by simp [Br] at e
def P9 (bs:List (Nat × B3)) (k:Nat):(c:CK)->SV->Option (c.den × List (Nat × Nat))
 | .im t,v=>bif t.one then (v.as true t).map fun x=>(x,[]) else none
 | .own e t,.hw h=>match A0 h bs with
  | some (.arr e' sh false xs)=>bif Nat.beq e e' then ((Sh.sl sh).to (.sl t) xs).map fun x=>(x,[(k,h)]) else none
  | _=>none
 | .ptr e t,.hp h 0 0=>match A0 h bs with
  | some (.var e' true false cs)=>bif Nat.beq e e' && cs.all SV.isD then (t.all false cs).map fun x=>(x,[(k,h)]) else none
  | _=>none
 | .tree e t,.hw h=>match A0 h bs with
  | some (.tree e' sh false xs)=>bif Nat.beq e e' then ((Sh.sl sh).to (.sl t) xs).map fun x=>(x,[(k,h)]) else none
  | _=>none
 | .win e t,.hs h off len=>match A0 h bs with
  | some (.arr e' sh false xs)=>bif Nat.beq e e' then ((Sh.sl sh).to (.sl t) xs).map fun x=>((x,off,len),[(k,h)]) else none
  | _=>none
 | _,_=>none
def Fd (bs:List (Nat × B3)) (k:Nat):(cs:List CK)->List SV->Option (DC cs × List (Nat × Nat))
 | [],[]=>some ((),[])
 | [c],[v]=>P9 bs k c v
 | c :: d :: r,v :: vs=>match P9 bs k c v,Fd bs (k + 1) (d :: r) vs with
  | some (x,q),some (y,q')=>some ((x,y),q ++ q')
  | _,_=>none
 | _,_=>none
def A6d (bs:List (Nat × B3)) (k:Nat):(p:PK)->SV->Option (Bool × p.den × List Nat × List (Nat × Nat))
 | .im t,v=>(A1z bs t v).map fun q=>(q.1,q.2.1,q.2.2,[])
 | .one c,v=>(P9 bs k c v).map fun q=>(true,q.1,[],q.2)
 | .mix cs,.agg vs=>(Fd bs k cs vs).map fun q=>(true,q.1,[],q.2)
 | _,_=>none
def Kr (bs:List (Nat × B3)) (k:Nat):(ps:List PK)->List SV->Option (Bool × HP ps × List Nat × List (Nat × Nat))
 | [],[]=>some (true,(),[],[])
 | [p],[v]=>A6d bs k p v
 | p :: q :: r,v :: vs=>match A6d bs k p v,Kr bs (k + p.n) (q :: r) vs with
  | some (g,x,l,n),some (g',y,l',n')=>some (g && g',(x,y),l ++ l',n ++ n')
  | _,_=>none
 | _,_=>none
def Fj (bs B:List (Nat × B3)) (q:List (Nat × Nat)):Prop :=
 ∀ k b,(k,b) ∈ B->∃ h b',(k,h) ∈ q /\ A0 h bs = some b' /\ b'.len = b.len /\ (∀ L L',b'.box L = b.box L') /\ ∀ L,(b.box L).fz = false /\ (b.box L).hf = true
theorem Fj.app {bs B B':List (Nat × B3)} {q q':List (Nat × Nat)} (h:Fj bs B q) (h':Fj bs B' q'):Fj bs (B ++ B') (q ++ q'):=by
 intro k b hb;rcases QF.1 hb with hb | hb
 . obtain ⟨x,y,h1,h2⟩:=h k b hb;exact ⟨x,y,QF.2 (.inl h1),h2⟩
 . obtain ⟨x,y,h1,h2⟩:=h' k b hb;exact ⟨x,y,QF.2 (.inr h1),h2⟩
theorem S4 {bs:List (Nat × B3)} {hd:Nat->Nat->Bool} {L:Nat->Nat} {k:Nat} {c:CK} {v:SV} {x:c.den} {q:List (Nat × Nat)} (h:P9 bs k c v = some (x,q))
  (hq:∀ p ∈ q,hd p.1 p.2 = true) (hL:∀ k' b,(k',b) ∈ c.bx k x->L k' = b.len) :
  v.cellB = true /\ (∃ ob,Nr hd (A0 · (Ae (B3.box (A3 bs)) bs)) (v.c (A3 bs)) ((c.sv k x).c L) = some (ob,[]) /\ ∀ p ∈ ob,p) /\ (c.sv k x).cellB = true /\ Fj bs (c.bx k x) q:=by
 unfold P9 at h;split at h
 . rename_i t
   cases ht:t.one with
   | false=>rw [ht] at h;cases h
   | true =>
    rw [ht] at h;simp only [cond,QB,QG] at h;obtain ⟨y,hy,rfl,rfl⟩:=h;obtain ⟨q1,ob,q2,q3⟩:=Pa (L:=A3 bs) ht hy
    refine ⟨Mv q1,⟨ob,?_,q3⟩,ht,fun k b hb=>by cases hb⟩
    have hc:=Axv (L:=A3 bs) q1;rw [hc] at q2 ⊢;simp only [CK.sv,SV.c,Nr,Fx,V.noH,Bt,ZF,cond,Yf,q2,QP]
 . rename_i e t hh;split at h
   . rename_i e' sh xs hl
     cases he:Nat.beq e e' with
     | false=>rw [he] at h;cases h
     | true =>
      rw [he] at h;simp only [cond,QB,QG] at h;obtain ⟨y,hy,rfl,rfl⟩:=h;obtain ⟨rfl,rfl⟩:=Da hy;obtain rfl:=QC he
      have hle:A3 bs hh = xs.length:=by simp [A3,hl,B3.len]
      have hk:L k = xs.length:=hL k (.arr e sh false xs) (by simp [CK.bx])
      refine ⟨rfl,⟨[0 = 0,A3 bs hh = L k],?_,by simp [hle,hk]⟩,rfl,fun k' b hb=>?_⟩
      . simp only [CK.sv,SV.c,Nr,hq (k,hh) (by simp),cond]
      . simp only [CK.bx,QR,QG] at hb;obtain ⟨rfl,rfl⟩:=hb
        exact ⟨hh,_,by simp,hl,rfl,fun _ _=>rfl,fun _=>⟨rfl,rfl⟩⟩
   . cases h
 . rename_i e t hh;split at h
   . rename_i e' cs hl
     cases he:(Nat.beq e e' && cs.all SV.isD) with
     | false=>rw [he] at h;cases h
     | true =>
      rw [he] at h;simp only [cond,QB,QG] at h;obtain ⟨y,hy,rfl,rfl⟩:=h;simp only [QE] at he;obtain rfl:=QC he.1;obtain ⟨a1,_,_,a4⟩:=C6 hy
      refine ⟨rfl,⟨[0 = 0,0 = 0],?_,by simp⟩,rfl,fun k' b hb=>?_⟩
      . simp only [CK.sv,SV.c,Nr,hq (k,hh) (by simp),cond]
      . simp only [CK.bx,QR,QG] at hb;obtain ⟨rfl,rfl⟩:=hb
        refine ⟨hh,_,by simp,hl,rfl,fun L1 L2=>?_,fun _=>⟨rfl,rfl⟩⟩
        simp only [B3.box,a1,Hs,A65,a4]
   . cases h
 . rename_i e t hh;split at h
   . rename_i e' sh xs hl
     cases he:Nat.beq e e' with
     | false=>rw [he] at h;cases h
     | true =>
      rw [he] at h;simp only [cond,QB,QG] at h;obtain ⟨y,hy,rfl,rfl⟩:=h;obtain ⟨rfl,rfl⟩:=Da hy;obtain rfl:=QC he
      have hle:A3 bs hh = xs.length:=by simp [A3,hl,B3.len]
      have hk:L k = xs.length:=hL k (.tree e sh false xs) (by simp [CK.bx])
      refine ⟨rfl,⟨[0 = 0,A3 bs hh = L k],?_,by simp [hle,hk]⟩,rfl,fun k' b hb=>?_⟩
      . simp only [CK.sv,SV.c,Nr,hq (k,hh) (by simp),cond]
      . simp only [CK.bx,QR,QG] at hb;obtain ⟨rfl,rfl⟩:=hb
        exact ⟨hh,_,by simp,hl,rfl,fun _ _=>rfl,fun _=>⟨rfl,rfl⟩⟩
   . cases h
 . rename_i e t hh off len;split at h
   . rename_i e' sh xs hl
     cases he:Nat.beq e e' with
     | false=>rw [he] at h;cases h
     | true =>
      rw [he] at h;simp only [cond,QB,QG] at h;obtain ⟨y,hy,rfl,rfl⟩:=h;obtain ⟨rfl,rfl⟩:=Da hy;obtain rfl:=QC he
      refine ⟨rfl,⟨[off = off,len = len],?_,by simp⟩,rfl,fun k' b hb=>?_⟩
      . simp only [CK.sv,SV.c,Nr,hq (k,hh) (by simp),cond]
      . simp only [CK.bx,QR,QG] at hb;obtain ⟨rfl,rfl⟩:=hb
        exact ⟨hh,_,by simp,hl,rfl,fun _ _=>rfl,fun _=>⟨rfl,rfl⟩⟩
   . cases h
 . cases h
theorem Y3 {bs:List (Nat × B3)} {hd:Nat->Nat->Bool} {L:Nat->Nat}:∀ {cs:List CK} {k:Nat} {vs:List SV} {x:DC cs} {q:List (Nat × Nat)},Fd bs k cs vs = some (x,q) ->
  (∀ p ∈ q,hd p.1 p.2 = true)->(∀ k' b,(k',b) ∈ K3 k cs x->L k' = b.len) ->
  (∃ ob,Kt hd (A0 · (Ae (B3.box (A3 bs)) bs)) (vs.map (SV.c (A3 bs))) ((T5 k cs x).map (SV.c L)) = some (ob,[]) /\ ∀ p ∈ ob,p) /\ Fj bs (K3 k cs x) q
 | [],k,[],x,q,h,_,_=>⟨⟨[],rfl,by simp⟩,fun k b hb=>by cases hb⟩
 | [],k,_ :: _,_,_,h,_,_=>by simp [Fd] at h
 | [c],k,[],_,_,h,_,_=>by simp [Fd] at h
 | [c],k,[v],x,q,h,hq,hL=>by
  obtain ⟨_,⟨ob,h1,h2⟩,_,h3⟩:=S4 (hd:=hd) (L:=L) (x:=x) h hq hL
  refine ⟨⟨ob ++ [],?_,by simpa using h2⟩,h3⟩
  simp only [T5,QV,YU,Kt,h1,XA]
 | [c],k,v :: w :: r,_,_,h,_,_=>by simp [Fd] at h
 | c :: d :: r,k,[],_,_,h,_,_=>by simp [Fd] at h
 | c :: d :: r,k,v :: vs,x,q,h,hq,hL=>by
  simp only [Fd] at h;split at h
  . rename_i x1 q1 y1 q2 h1 h2;simp only [QD,QG] at h;obtain ⟨rfl,rfl⟩:=h
    obtain ⟨_,⟨ob,a1,a2⟩,_,a3⟩:=S4 (hd:=hd) (L:=L) h1 (fun p hp=>hq p (QF.2 (.inl hp))) (fun k' b hb=>hL k' b (by simp only [K3];exact QF.2 (.inl hb)))
    obtain ⟨⟨ob',b1,b2⟩,b3⟩:=Y3 (hd:=hd) (L:=L) h2 (fun p hp=>hq p (QF.2 (.inr hp))) (fun k' b hb=>hL k' b (by simp only [K3];exact QF.2 (.inr hb)))
    refine ⟨⟨ob ++ ob',?_,fun p hp=>(QF.1 hp).elim (a2 p) (b2 p)⟩,a3.app b3⟩;simp only [T5,QV,Kt,a1,b1,XA]
  . cases h
theorem Aj7 {bs:List (Nat × B3)} {hd:Nat->Nat->Bool} {L:Nat->Nat} {k:Nat} {p:PK} {v:SV} {g:Bool} {x:p.den} {bor:List Nat} {q:List (Nat × Nat)} (h:A6d bs k p v = some (g,x,bor,q)) (hg:g = true)
  (hq:∀ p ∈ q,hd p.1 p.2 = true) (hL:∀ k' b,(k',b) ∈ p.bx k x->L k' = b.len) :
  (∃ ob,A1y hd (A0 · (Ae (B3.box (A3 bs)) bs)) p.isIm (v.s (A3 bs)) ((p.sv k x).v L) = some (ob,bor) /\ ∀ p ∈ ob,p) /\ (∀ k ∈ bor,∃ b,A0 k (Ae (B3.box (A3 bs)) bs) = some b /\ b.fz = false) /\ Fj bs (p.bx k x) q /\ v.alive = true:=by
 cases p with
 | im t =>
  simp only [A6d,QB,QG] at h;obtain ⟨⟨g',y,b⟩,h1,rfl,rfl,rfl,rfl⟩:=h;obtain ⟨ob,a1,a2,a3⟩:=A6e h1 hg
  refine ⟨⟨ob,?_,a2⟩,a3,(fun k b hb=>by cases hb),Sc h1⟩
  simp only [A1y,PK.isIm,cond,PK.sv,(Ha t y).1];exact a1
 | one c =>
  simp only [A6d,QB,QG] at h;obtain ⟨⟨y,b⟩,h1,rfl,rfl,rfl,rfl⟩:=h;obtain ⟨c1,⟨ob,a1,a2⟩,c2,a3⟩:=S4 (hd:=hd) (L:=L) h1 hq hL
  refine ⟨⟨ob,?_,a2⟩,by simp,a3,B0 fun e=>by subst e;cases c1⟩
  simp only [A1y,PK.isIm,cond,PK.sv,(F0 c1).1,(F0 c2).2];exact a1
 | mix cs =>
  cases v with
  | agg vs =>
   simp only [A6d] at h;simp only [QB,QG] at h;obtain ⟨⟨y,b⟩,h1,rfl,rfl,rfl,rfl⟩:=h;obtain ⟨⟨ob,a1,a2⟩,a3⟩:=Y3 (hd:=hd) (L:=L) h1 hq hL
   refine ⟨⟨ob,?_,a2⟩,by simp,a3,rfl⟩
   simp only [A1y,PK.isIm,cond,PK.sv,SV.s,SV.v];exact a1
  | _=>cases h
theorem Af1 {bs:List (Nat × B3)} {hd:Nat->Nat->Bool} {L:Nat->Nat}:∀ {ps:List PK} {k:Nat} {vs:List SV} {g:Bool} {x:HP ps} {bor:List Nat} {q:List (Nat × Nat)},Kr bs k ps vs = some (g,x,bor,q)->g = true ->
  (∀ p ∈ q,hd p.1 p.2 = true)->(∀ k' b,(k',b) ∈ Ck k ps x->L k' = b.len) ->
  (∃ ob,Gl hd (A0 · (Ae (B3.box (A3 bs)) bs)) (ps.map PK.isIm) (vs.map (SV.s (A3 bs))) ((Bl k ps x).map (SV.v L)) = some (ob,bor) /\ ∀ p ∈ ob,p) /\ (∀ k ∈ bor,∃ b,A0 k (Ae (B3.box (A3 bs)) bs) = some b /\ b.fz = false) /\ Fj bs (Ck k ps x) q /\ ∀ v ∈ vs,v.alive = true
 | [],k,[],g,x,bor,q,h,_,_,_=>by
  simp only [Kr,QD,QG] at h;obtain ⟨_,_,rfl,rfl⟩:=h
  exact ⟨⟨[],rfl,by simp⟩,by simp,(fun k b hb=>by cases hb),by simp⟩
 | [],k,_ :: _,_,_,_,_,h,_,_,_=>by simp [Kr] at h
 | [p],k,[],_,_,_,_,h,_,_,_=>by simp [Kr] at h
 | [p],k,[v],g,x,bor,q,h,hg,hq,hL=>by
  obtain ⟨⟨ob,h1,h2⟩,h3,h4,h5⟩:=Aj7 (hd:=hd) (L:=L) (x:=x) h hg hq hL
  refine ⟨⟨ob ++ [],?_,by simpa using h2⟩,h3,h4,by simpa using h5⟩
  simp only [Bl,QV,YU,Gl,h1,XA]
 | [p],k,v :: w :: r,_,_,_,_,h,_,_,_=>by simp [Kr] at h
 | p :: p2 :: r,k,[],_,_,_,_,h,_,_,_=>by simp [Kr] at h
 | p :: p2 :: r,k,v :: vs,g,x,bor,q,h,hg,hq,hL=>by
  simp only [Kr] at h;split at h
  . rename_i g1 x1 l1 q1 g2 y1 l2 q2 h1 h2;simp only [QD,QG] at h;obtain ⟨rfl,rfl,rfl,rfl⟩:=h;simp only [QE] at hg
    obtain ⟨⟨ob,a1,a2⟩,a3,a4,a5⟩:=Aj7 (hd:=hd) (L:=L) h1 hg.1 (fun p hp=>hq p (QF.2 (.inl hp))) (fun k' b hb=>hL k' b (by simp only [Ck];exact QF.2 (.inl hb)))
    obtain ⟨⟨ob',b1,b2⟩,b3,b4,b5⟩:=Af1 (hd:=hd) (L:=L) h2 hg.2 (fun p hp=>hq p (QF.2 (.inr hp))) (fun k' b hb=>hL k' b (by simp only [Ck];exact QF.2 (.inr hb)))
    refine ⟨⟨ob ++ ob',?_,fun p hp=>(QF.1 hp).elim (a2 p) (b2 p)⟩,fun j hj=>(QF.1 hj).elim (a3 j) (b3 j),a4.app b4,by simpa using ⟨a5,b5⟩⟩
    simp only [QV] at b1;simp only [Bl,QV,Gl,a1,b1]
  . cases h
end Go.Ev

/- DERIVED. A state that a template takes may be read as the template's. -/
namespace Go.Ev
open Go
variable {P:Program} {T:Ty}
def Fy (x x':S):Prop:=∀ (w:World) (E:Env) (v:Value),Rs w E v x->Rs w E v x'
def Ea (c c':C):Prop:=∀ (w:World) (E:Env) (v:Value),Rc w E v c->Rc w E v c'
structure Af9 (b b':Box):Prop where
 e:b'.e = b.e
 sz:b'.sz = b.sz
 fz:b'.fz = b.fz
 tr:b'.tr = b.tr
 trr:b'.tr = true->b'.rows = b.rows
 len:b'.rows.length = b.rows.length
 rows:∀ (i:Nat) (r':List C),b'.rows[i]? = some r'->∃ r,b.rows[i]? = some r /\ r'.length = r.length /\ ∀ (j:Nat) (c':C),r'[j]? = some c'->∃ c,r[j]? = some c /\ Ea c c'
 hf:b'.hf = true->∀ (i:Nat) (r:List C) (j:Nat) (c:C),b'.rows[i]? = some r->r[j]? = some c->∃ x,c = .i x
theorem Bw.sub {w:World} {E:Env} {b b':Box} {g cap:Nat} (h:Bw w E b g cap) (hb:Af9 b b'):Bw w E b' g cap:=by
 obtain ⟨arr,a1,a2,a3,a4,a5,a6,a7,a8,a9⟩:=h
 refine ⟨arr,by rw [hb.e];exact a1,by rw [hb.sz];exact a2,by rw [hb.len];exact a3,a4,fun i r hi=>?_,fun i r j c hi hj=>?_,fun hf i r j c hi hj=>hb.hf hf i r j c hi hj,fun hf=>a8 (by rw [<- hb.fz];exact hf),a9⟩
 . obtain ⟨r0,h1,h2,_⟩:=hb.rows i r hi;rw [h2,hb.sz];exact a5 i r0 h1
 . obtain ⟨r0,h1,_,h3⟩:=hb.rows i r hi;obtain ⟨c0,h4,h5⟩:=h3 j c hj;obtain ⟨v,h6,h7⟩:=a6 i r0 j c0 h1 h4
   exact ⟨v,by rw [hb.sz];exact h6,h5 _ _ _ h7⟩
theorem A6.sub {Γ:Ctx} {w:World} {E:Env} {s s':St} {tmps:Array Value} (hs:A6 Γ w E s tmps) (hnt:s'.nt = s.nt)
  (h1:∀ t x',A0 t s'.slots = some x'->∃ x,A0 t s.slots = some x /\ Fy x x')
  (h2:∀ h b',A0 h s'.boxes = some b'->∃ b,A0 h s.boxes = some b /\ Af9 b b')
  (h3:∀ h b,A0 h s.boxes = some b->(A0 h s'.boxes).isSome = true):A6 Γ w E s' tmps where
 fr:=hs.fr
 held:=hs.held
 tow:=hs.tow
 wf:=by rw [hnt];exact hs.wf
 old:=hs.old
 nt:=by rw [hnt];exact hs.nt
 tag:=hs.tag
 new:=hs.new
 boxes:=fun h b' hb'=>by
  obtain ⟨b,hb,hsub⟩:=h2 h b' hb';obtain ⟨g,cap,hβ,hat,hω,hS⟩:=hs.boxes h b hb
  refine ⟨g,cap,by rw [hsub.sz];exact hβ,by rw [hsub.tr];exact hat.sub hsub,hω,fun e=>?_⟩
  have h5:=hS (by rw [<- hsub.tr];exact e)
  unfold Sep at h5 ⊢;rw [hsub.trr e,hsub.sz];exact h5
 inj:=fun h h' b b' g g' z z' hb hb' hz hz' hne=>by
  obtain ⟨b0,hb0,_⟩:=h2 h b hb;obtain ⟨b1,hb1,_⟩:=h2 h' b' hb';exact hs.inj h h' b0 b1 g g' z z' hb0 hb1 hz hz' hne
 own:=fun h b' g z hb' hz=>by
  obtain ⟨b,hb,hsub⟩:=h2 h b' hb';rw [hsub.fz];exact hs.own h b g z hb hz
 slots:=fun t x' hx'=>by
  obtain ⟨x,hx,hsub⟩:=h1 t x' hx';exact hsub _ _ _ (hs.slots t x hx)
 tsize:=hs.tsize
 dom:=fun h x hx=>by
  obtain ⟨b,hb⟩:=ZB.1 (hs.dom h x hx);exact h3 h b hb
 stay:=hs.stay
 fzn:=fun h b' g z hb' hz hf=>by
  obtain ⟨b,hb,hsub⟩:=h2 h b' hb'
  exact hs.fzn h b g z hb hz (by rw [<- hsub.fz];exact hf)
theorem Ea.refl (c:C):Ea c c:=fun _ _ _ h=>h
theorem Fy.refl (x:S):Fy x x:=fun _ _ _ h=>h
theorem Fy.dead (x:S):Fy x .dead:=fun _ _ _ _=>.dead
theorem Aah {c c':C} (h:∃ ob,Pg c c' = some ob /\ ∀ p ∈ ob,p):Ea c c':=by
 obtain ⟨ob,h1,h2⟩:=h;exact fun w E v hv=>Ka hv h1 h2
def Af8 (cs cs':List C):Prop:=cs'.length = cs.length /\ ∀ (j:Nat) (c':C),cs'[j]? = some c'->∃ c,cs[j]? = some c /\ Ea c c'
theorem A6o:∀ (cs cs':List C) (ob:List Prop),Du cs cs' = some ob->(∀ p ∈ ob,p)->Af8 cs cs'
 | [],[],_,_,_=>⟨rfl,fun j c hj=>by simp at hj⟩
 | [],_ :: _,_,h,_=>by simp [Du] at h
 | _ :: _,[],_,h,_=>by simp [Du] at h
 | c :: cs,c' :: cs',ob,h,ho=>by
  simp only [Du] at h;split at h
  . rename_i p q h1 h2;obtain rfl:=QA h;obtain ⟨i1,i2⟩:=A6o cs cs' q h2 (fun x hx=>ho x (QF.2 (.inr hx)))
    refine ⟨by simp [i1],fun j d hj=>?_⟩
    cases j with
    | zero =>
     simp at hj;subst hj;exact ⟨c,rfl,Aah ⟨p,h1,fun x hx=>ho x (QF.2 (.inl hx))⟩⟩
    | succ j=>exact i2 j d (by simpa using hj)
  . cases h
theorem F3.subL {L:Nat->Nat} {cs:List SV} {ds:List I} (h:F3 L cs ds):Af8 (cs.map (SV.c L)) (ds.map .i):=by
 obtain ⟨ob,h1,h2⟩:=h;exact A6o _ _ _ h1 h2
theorem Af8.agg {cs cs':List C} (h:Af8 cs cs'):Fy (.v (.agg cs)) (.v (.agg cs')):=by
 intro w E v hv
 cases hv with
 | v hv =>
  cases hv with
  | agg hv =>
   refine .v (.agg ⟨by rw [h.1];exact hv.1,fun j v c hv' hc=>?_⟩)
   obtain ⟨c0,h1,h2⟩:=h.2 j c hc;exact h2 _ _ _ (hv.2 j v c0 hv' h1)
theorem Ea.one {c c':C} (h:Ea c c'):Fy (.v (.one c)) (.v (.one c')):=by
 intro w E v hv
 cases hv with
 | v hv=>cases hv with | one hv=>exact .v (.one (h _ _ _ hv))
theorem Aj2 {L:Nat->Nat} {t:TS} {v:SV} {x:t.den} (h:t.dec v = some x):Fy (v.s L) ((t.enc x).s L) /\ (v.cellB = true->(t.enc x).cellB = true->Ea (v.c L) ((t.enc x).c L)):=by
 cases t with
 | d t =>
  simp only [TS.dec] at h;split at h
  . rename_i cs;split at h
    . rename_i t0
      cases hd:cs.all SV.isD with
      | false=>rw [hd] at h;cases h
      | true =>
       rw [hd] at h;simp only [cond] at h;obtain ⟨_,_,h3,_⟩:=C6 h
       have e:(SV.rf cs).c L = (SV.d (.ref t0) x).c L:=by
        simp only [SV.c,h3 hd,Sh.cells,hd1]
       have hc:Ea ((SV.rf cs).c L) ((TS.enc (.d (.ref t0)) x).c L):=by
        show Ea _ ((SV.d (.ref t0) x).c L);rw [<- e];exact Ea.refl _
       exact ⟨hc.one,fun _ _=>hc⟩
    . cases h
  . rename_i hnr
    cases ht:t.one with
    | false=>rw [ht] at h;cases h
    | true =>
     rw [ht] at h;obtain ⟨q1,q2⟩:=Pa (L:=L) ht h;have hc:Ea (v.c L) ((TS.enc (.d t) x).c L):=Aah q2
     have e:v.s L = .v (.one (v.c L)):=by cases v <;> first | rfl | cases q1
     refine ⟨?_,fun _ _=>hc⟩;rw [e];exact hc.one
 | ag t =>
  simp only [TS.dec] at h;split at h
  . rename_i cs;obtain ⟨h1,h2⟩:=A22 (L:=L) h
    refine ⟨?_,fun hc=>by cases hc⟩
    show Fy (.v (.agg (cs.map (SV.c L)))) (.v (.agg ((t.exp x).map (SV.c L))));rw [Hs];exact h1.subL.agg
  . cases h
 | k c =>
  simp only [TS.dec] at h
  cases hs:c.same v with
  | false=>rw [hs] at h;cases h
  | true =>
   show Fy (v.s L) (c.s L) /\ (v.cellB = true->c.cellB = true->Ea (v.c L) (c.c L));unfold SV.same at hs;split at hs
   . obtain rfl:=QC hs;exact ⟨Fy.refl _,fun _ _=>Ea.refl _⟩
   . simp only [QE] at hs;obtain rfl:=QC hs.1.1;obtain rfl:=QC hs.1.2;obtain rfl:=QC hs.2;exact ⟨Fy.refl _,fun _ _=>Ea.refl _⟩
   . exact ⟨Fy.dead _,fun _ h=>by cases h⟩
   . rename_i t x' t' y;simp only [QE] at hs;obtain rfl:=Sh.eqb_eq hs.2
     have:SV.d t x' = SV.d t y:=by
      split at hs
      . rfl
      . rfl
      . exact absurd hs.1 (by simp)
     rw [this];exact ⟨Fy.refl _,fun _ _=>Ea.refl _⟩
   . cases hs
 | hs h' =>
  simp only [TS.dec] at h;split at h
  . rename_i k o l
    cases hk:Nat.beq h' k with
    | false=>rw [hk] at h;cases h
    | true =>
     rw [hk] at h;obtain rfl:=QC hk;simp only [cond,QD] at h;subst h;exact ⟨Fy.refl _,fun _ _=>Ea.refl _⟩
  . cases h
theorem Aeq:∀ {l:List (Nat × TS)} {sl:List (Nat × SV)} {x:DK TS TS.den l},A69 l sl = some x->∀ (L:Nat->Nat) (k:Nat) (y:S),A0 k (Ae (SV.s L) (Aei l x)) = some y->∃ z,A0 k (Ae (SV.s L) sl) = some z /\ Fy z y
 | [],[],_,_,_,k,y,h=>by simp [Aei,Ae,A0] at h
 | [],_ :: _,_,h,_,_,_,_=>by simp [A69] at h
 | _ :: _,[],_,h,_,_,_,_=>by simp [A69] at h
 | (k,t) :: r,(j,v) :: vs,x,h,L,i,y,hy=>by
  simp only [A69] at h
  cases hk:Nat.beq k j with
  | false=>rw [hk] at h;cases h
  | true =>
   rw [hk] at h;obtain rfl:=QC hk;simp only [cond] at h;split at h
   . rename_i a as h1 h2;obtain rfl:=QA h;simp only [Aei,Ae,QV,A0] at hy ⊢
     cases hb:Nat.beq k i with
     | true =>
      rw [hb] at hy;simp only [cond,QD] at hy;subst hy;exact ⟨_,rfl,(Aj2 h1).1⟩
     | false =>
      rw [hb] at hy;exact Aeq h2 L i y hy
   . cases h
theorem Aer {L:Nat->Nat}:∀ {l:List TS} {vs:List SV} {x:DL l},A6a l vs = some x->vs.all SV.cellB = true->(Ht l x).all SV.cellB = true->Af8 (vs.map (SV.c L)) ((Ht l x).map (SV.c L))
 | [],[],_,_,_,_=>⟨rfl,fun j c h=>by simp [Ht] at h⟩
 | [],_ :: _,_,h,_,_=>by simp [A6a] at h
 | _ :: _,[],_,h,_,_=>by simp [A6a] at h
 | t :: r,v :: vs,x,h,hc,hc'=>by
  simp only [A6a] at h;split at h
  . rename_i a as h1 h2;obtain rfl:=QA h;simp only [YA,QE,Ht] at hc hc';obtain ⟨i1,i2⟩:=Aer (L:=L) h2 hc.2 hc'.2
    refine ⟨by simpa [Ht] using i1,fun j c hj=>?_⟩
    cases j with
    | zero =>
     simp [Ht] at hj;subst hj;exact ⟨_,rfl,(Aj2 h1).2 hc.1 hc'.1⟩
    | succ j=>exact i2 j c (by simpa [Ht] using hj)
  . cases h
theorem A3v {L:Nat->Nat} {t:TB} {b:B3} {x:t.den} (h:t.dec b = some x):Af9 (b.box L) ((t.enc x).box L) /\ (t.enc x).len = b.len:=by
 cases t with
 | tree e t fz =>
  simp only [TB.dec] at h;split at h
  . rename_i e' t' fz' xs
    cases hc:(Nat.beq e e' && (fz == fz')) with
    | false=>rw [hc] at h;cases h
    | true =>
     rw [hc] at h;simp only [QE] at hc;obtain rfl:=QC hc.1;obtain rfl:=eq_of_beq hc.2;obtain ⟨rfl,rfl⟩:=Da h;refine ⟨⟨rfl,rfl,rfl,rfl,fun _=>rfl,rfl,fun i r hi=>⟨r,hi,rfl,fun j c hj=>⟨c,hj,Ea.refl c⟩⟩,fun _ i r j c hi hj=>?_⟩,rfl⟩;simp only [TB.enc,B3.box,QJ] at hi;obtain ⟨x,_,rfl⟩:=QB.1 hi;rw [QJ] at hj;obtain ⟨y,_,rfl⟩:=QB.1 hj;exact ⟨y,rfl⟩
  . cases h
 | arr e t fz =>
  simp only [TB.dec] at h;split at h
  . rename_i e' t' fz' xs
    cases hc:(Nat.beq e e' && (fz == fz')) with
    | false=>rw [hc] at h;cases h
    | true =>
     rw [hc] at h;simp only [QE] at hc;obtain rfl:=QC hc.1;obtain rfl:=eq_of_beq hc.2;obtain ⟨rfl,rfl⟩:=Da h;refine ⟨⟨rfl,rfl,rfl,rfl,fun _=>rfl,rfl,fun i r hi=>⟨r,hi,rfl,fun j c hj=>⟨c,hj,Ea.refl c⟩⟩,fun _ i r j c hi hj=>?_⟩,rfl⟩;simp only [TB.enc,B3.box,QJ] at hi;obtain ⟨y,_,rfl⟩:=QB.1 hi;rw [QJ] at hj;obtain ⟨z,_,rfl⟩:=QB.1 hj;exact ⟨z,rfl⟩
  . rename_i e' fz' n cs
    cases hc:(Nat.beq e e' && (fz == fz')) with
    | false=>rw [hc] at h;cases h
    | true =>
     rw [hc] at h;simp only [cond,QB] at h;obtain ⟨y,hy,rfl⟩:=h;simp only [QE] at hc;obtain rfl:=QC hc.1;obtain rfl:=eq_of_beq hc.2;obtain ⟨h1,h2⟩:=A22 (L:=L) hy;have hL:=h1.subL
     have hz:cs.length = t.size:=by have:=hL.1;simp [Sh.cells_len] at this;omega
     refine ⟨⟨rfl,by simp [TB.enc,B3.box,hz],rfl,rfl,fun e=>(by cases e),by simp [TB.enc,B3.box],fun i r hi=>?_,fun _ i r j c hi hj=>?_⟩,by simp [TB.enc,B3.len]⟩
     . simp only [TB.enc,B3.box,List.map_replicate,XS] at hi;split at hi
       . rename_i hlt;obtain rfl:=QA hi
         exact ⟨cs.map (SV.c L),by simp [B3.box,XS,hlt],hL.1,hL.2⟩
       . cases hi
     . simp only [TB.enc,B3.box,List.map_replicate,XS] at hi;split at hi
       . obtain rfl:=QA hi;rw [QJ] at hj;obtain ⟨z,_,rfl⟩:=QB.1 hj;exact ⟨z,rfl⟩
       . cases hi
  . cases h
 | var e hf fz cs =>
  simp only [TB.dec] at h;split at h
  . rename_i e' hf' fz' vs
    cases hc:(Nat.beq e e' && (hf == hf') && (fz == fz') && vs.all SV.cellB) with
    | false=>rw [hc] at h;cases h
    | true =>
     rw [hc] at h;simp only [cond] at h;simp only [QE] at hc;obtain rfl:=QC hc.1.1.1;obtain rfl:=eq_of_beq hc.1.1.2;obtain rfl:=eq_of_beq hc.1.2;split at h
     . rename_i y hy
       cases he:((Ht cs y).all SV.cellB && (!hf || (Ht cs y).all SV.imm)) with
       | false=>rw [he] at h;cases h
       | true =>
        rw [he] at h;obtain rfl:=QA h;simp only [QE,XL,ZJ] at he;have hL:=Aer (L:=L) hy hc.2 he.1
        refine ⟨⟨rfl,by have:=hL.1;simpa [TB.enc,B3.box] using this,rfl,rfl,fun e=>(by cases e),rfl,fun i r hi=>?_,fun hf' i r j c hi hj=>?_⟩,rfl⟩
        . cases i with
          | zero =>
           simp [TB.enc,B3.box] at hi;subst hi;exact ⟨vs.map (SV.c L),rfl,hL.1,hL.2⟩
          | succ i=>simp [TB.enc,B3.box] at hi
        . have hf'':hf = true:=hf'
          have hi':(Ht cs y).all SV.imm = true:=by
           rcases he.2 with h0 | h0
           . rw [hf''] at h0;cases h0
           . exact h0
          cases i with
          | zero =>
           simp [TB.enc,B3.box] at hi;subst hi;rw [QJ] at hj;obtain ⟨z,hz,rfl⟩:=QB.1 hj;have:=Ky (L:=L) (QM.1 hi' z (QU hz))
           cases hzc:z.c L with
           | i q=>exact ⟨q,rfl⟩
           | hs=>rw [hzc] at this;cases this
           | hp=>rw [hzc] at this;cases this
          | succ i=>simp [TB.enc,B3.box] at hi
     . cases h
  . cases h
theorem Aes {L:Nat->Nat}:∀ {l:List (Nat × TB)} {bs:List (Nat × B3)} {x:DK TB TB.den l},A6b l bs = some x ->
  (∀ k b',A0 k (Ae (B3.box L) (Rn l x)) = some b'->∃ b,A0 k (Ae (B3.box L) bs) = some b /\ Af9 b b') /\ (∀ k b,A0 k (Ae (B3.box L) bs) = some b->(A0 k (Ae (B3.box L) (Rn l x))).isSome = true) /\ A3 (Rn l x) = A3 bs
 | [],[],_,_=>⟨fun k b h=>by simp [Rn,Ae,A0] at h,fun k b h=>by simp [Ae,A0] at h,rfl⟩
 | [],_ :: _,_,h=>by simp [A6b] at h
 | _ :: _,[],_,h=>by simp [A6b] at h
 | (k,t) :: r,(j,v) :: vs,x,h=>by
  simp only [A6b] at h
  cases hk:Nat.beq k j with
  | false=>rw [hk] at h;cases h
  | true =>
   rw [hk] at h;obtain rfl:=QC hk;simp only [cond] at h;split at h
   . rename_i a as h1 h2;obtain rfl:=QA h;obtain ⟨i1,i2,i3⟩:=Aes (L:=L) h2;obtain ⟨b1,b2⟩:=A3v (L:=L) h1;refine ⟨fun i b hb=>?_,fun i b hb=>?_,?_⟩
     . simp only [Rn,Ae,QV,A0] at hb ⊢
       cases hc:Nat.beq k i with
       | true=>rw [hc] at hb;simp only [cond,QD] at hb;subst hb;exact ⟨_,rfl,b1⟩
       | false=>rw [hc] at hb;exact i1 i b hb
     . simp only [Rn,Ae,QV,A0] at hb ⊢
       cases hc:Nat.beq k i with
       | true=>rfl
       | false=>rw [hc] at hb;exact i2 i b hb
     . funext i;have e:=congrFun i3 i;simp only [A3,Rn,A0] at e ⊢
       cases hc:Nat.beq k i with
       | true=>exact b2
       | false=>exact e
   . cases h
theorem Tt {X:List (Nat × TS)}:∀ {sl:List (Nat × SV)} {k:Nat} {x:SV},A0 k (Pv X sl) = some x->A0 k sl = some x
 | [],k,x,h=>by cases h
 | (j,y) :: r,k,x,h=>by
  simp only [Pv,YR] at h
  have gone:(X.any fun q=>Nat.beq q.1 j) = false->∀ q:List (Nat × SV),A0 j (q.filter fun p=>X.any fun z=>Nat.beq z.1 p.1) = none:=by
   intro hc q
   induction q with
   | nil=>rfl
   | cons p' r' ih' =>
    simp only [YR];split
    . rename_i hc';simp only [A0]
      cases hb':Nat.beq p'.1 j with
      | true=>have:=QC hb';rw [this,hc] at hc';cases hc'
      | false=>exact ih'
    . exact ih'
  simp only [A0]
  cases hb:Nat.beq j k with
  | true =>
   have:=QC hb;subst this
   cases hc:(X.any fun q=>Nat.beq q.1 j) with
   | true =>
    rw [QL hc] at h;simp only [A0,hb,cond] at h;exact h
   | false =>
    rw [QK (by rw [hc];exact Bool.false_ne_true),gone hc] at h
    cases h
  | false =>
   simp only [cond];split at h
   . simp only [A0,hb,cond] at h;exact Tt h
   . exact Tt h
theorem Aep {α β:Type} (f:α->β) (h:Nat):∀ l:List (Nat × α),Bp h (Ae f l) = Ae f (Bp h l)
 | []=>rfl
 | (j,x) :: r=>by
  have ih:=Aep f h r
  show (bif Nat.beq j h then Bp h (Ae f r) else (j,f x) :: Bp h (Ae f r)) = Ae f (bif Nat.beq j h then Bp h r else (j,x) :: Bp h r)
  cases Nat.beq j h with
  | true=>exact ih
  | false =>
   show (j,f x) :: Bp h (Ae f r) = (j,f x) :: Ae f (Bp h r);rw [ih]
theorem Aeo {nt:Nat}:∀ (l:List Nat) {s s':St3},Aa1 l s = some s'->Ix l (s.st nt) = some (s'.st nt)
 | [],s,s',h=>by obtain rfl:=QA h;rfl
 | k :: r,s,s',h=>by
  simp only [Aa1] at h
  cases hc:(Nat.blt k 1000 && s.clean k) with
  | false=>rw [hc] at h;cases h
  | true =>
   rw [hc] at h;simp only [cond] at h;simp only [QE] at hc;have hcl:=hc.2;unfold St3.clean at hcl;simp only [QE,QM] at hcl;have ih:=Aeo (nt:=nt) r h
   have hd:(s.st nt).delBox k = some (({ s with boxes:=Bp k s.boxes }:St3).st nt):=by
    unfold St.delBox
    have h1:(s.st nt).slots.all (fun p=>!p.2.men k) = true:=by
     simp only [St3.st,Ae,YP,QM,Function.comp,Ps];exact hcl.1
    have h2:Mi k (s.st nt).boxes = true:=by
     simp only [Mi,St3.st,Ae,YP,QM,Function.comp,XL,ZJ];intro p hp
     exact .inr (Aj3 (by simpa using hcl.2 p hp))
    rw [hc.1,h1,h2]
    have hL:∀ j,j ≠ k->A3 s.boxes j = A3 (Bp k s.boxes) j:=fun j hj=>by
     unfold A3;rw [Ap hj]
    simp only [ZF,cond,QD,St3.st];congr 1
    . exact Kf fun p hp=>Vg hL (by simpa using hcl.1 p hp)
    . rw [<- Aep];congr 1
      exact Kf fun p hp=>Jq hL (by simpa using hcl.2 p hp)
   simp only [Ix,hd];exact ih
theorem Tm.dec1_ok {X:Tm} {s:St3} {x:X.den} (h:X.dec1 s = some x) {nt:Nat} {Γ:Ctx} {w:World} {E:Env} {tmps:Array Value} (hs:A6 Γ w E (s.st nt) tmps):∃ E',A6 Γ w E' ((X.enc x).st nt) tmps:=by
 unfold Tm.dec1 at h;split at h
 . rename_i s2 hd;split at h
   . rename_i a b h1 h2;obtain rfl:=QA h
     have hs1:A6 Γ w E (({ s with slots:=Pv X.slots s.slots }:St3).st nt) tmps:=hs.less fun t y hy=>by
      simp only [St3.st,Ac] at hy ⊢;obtain ⟨z,hz,rfl⟩:=QB.1 hy;rw [Tt hz];rfl
     obtain ⟨E',hs2⟩:=P5 _ hs1 (Aeo _ hd);obtain ⟨b1,b2,b3⟩:=Aes (L:=A3 s2.boxes) h2;refine ⟨E',hs2.sub rfl (fun t y hy=>?_) (fun k b' hb=>?_) (fun k b hb=>?_)⟩
     . simp only [Tm.enc,St3.st] at hy;rw [b3] at hy;exact Aeq h1 _ t y hy
     . simp only [Tm.enc,St3.st] at hb;rw [b3] at hb;exact b1 k b' hb
     . simp only [Tm.enc,St3.st];rw [b3];exact b2 k b hb
   . cases h
 . cases h
theorem Pi {nt:Nat} {Γ:Ctx} {w:World} {tmps:Array Value}:∀ {l:List (Nat × Sh)} {s s':St3} {E:Env},I7 l s = some s'->A6 Γ w E (s.st nt) tmps->∃ E',A6 Γ w E' (s'.st nt) tmps
 | [],s,s',E,h,hs=>by
  simp only [I7,QD] at h;subst h;exact ⟨E,hs⟩
 | (t,sh) :: r,s,s',E,h,hs=>by
  have go:∀ {q},Kv s t sh = some q->(bif q.1 then I7 r q.2 else none) = some s'->∃ E',A6 Γ w E' (s'.st nt) tmps:=by
   rintro ⟨g,s1⟩ h1 h2
   cases g with
   | false=>cases h2
   | true =>
    obtain ⟨x',ob,q1,q2⟩:=Pj (nt:=nt) h1 rfl
    obtain ⟨E1,hs1⟩:=D8 [(t,x')] (s':=s1.st nt) (obs:=ob ++ []) hs (by simp only [Dx,q1]) (fun p hp=>by simp only [XA] at hp;exact q2 p hp)
    exact Pi (l:=r) h2 hs1
  simp only [I7] at h;split at h
  . exact Pi (l:=r) h hs
  . split at h
    . rename_i hq;exact go hq h
    . cases h
theorem Tm.dec_ok {X:Tm} {s:St3} {x:X.den} (h:X.dec s = some x) {nt:Nat} {Γ:Ctx} {w:World} {E:Env} {tmps:Array Value} (hs:A6 Γ w E (s.st nt) tmps):∃ E',A6 Γ w E' ((X.enc x).st nt) tmps:=by
 unfold Tm.dec at h;split at h
 . rename_i s1 h1;obtain ⟨E1,hs1⟩:=Pi h1 hs;exact Tm.dec1_ok h hs1
 . cases h
end Go.Ev

/- DERIVED. A call that is handed boxes or hands out boxes, decided. -/
namespace Go.Ev
open Go
variable {P:Program} {T:Ty}
def SV.renC (σ:Nat->Nat):SV->SV
 | .hw h=>.hw (σ h)
 | .hs h o l=>.hs (σ h) o l
 | .hp h r c=>.hp (σ h) r c
 | x=>x
def SV.renV (σ:Nat->Nat):SV->SV
 | .agg cs=>.agg (cs.map (SV.renC σ))
 | x=>x.renC σ
def SV.ren3 (σ:Nat->Nat):SV->SV
 | .tup cs=>.tup (cs.map (SV.renV σ))
 | x=>x.renV σ
def SV.okC (p:Nat->Bool):SV->Bool
 | .hw h=>p h
 | .hs h _ _=>p h
 | .hp h _ _=>p h
 | _=>true
def SV.okV (p:Nat->Bool):SV->Bool
 | .agg cs=>cs.all (SV.okC p)
 | x=>x.okC p
def SV.ok3 (p:Nat->Bool):SV->Bool
 | .tup cs=>cs.all (SV.okV p)
 | x=>x.okV p
def SV.clC:SV->Bool
 | .d (.sl _) []=>true
 | .d t _=>t.closed
 | .rf _=>false
 | .dead=>false
 | _=>true
def SV.clV:SV->Bool
 | .agg cs=>cs.all SV.clC
 | x=>x.clC
def SV.cl3:SV->Bool
 | .tup cs=>cs.all SV.clV
 | x=>x.clV
def B3.cl:B3->Bool
 | .arr _ t _ _=>t.closed
 | .rep _ _ _ cs=>cs.all SV.clC
 | .var _ _ _ cs=>cs.all SV.clC
 | .tree _ t _ _=>t.flat
 | .hole _ _ _ _ _ _ _=>false
def B3.plain:B3->Bool
 | .arr _ _ _ _=>true
 | .var _ hf _ cs=>hf && cs.all SV.isD
 | .tree _ _ _ _=>true
 | _=>false
section
variable {L L':Nat->Nat} {σ:Nat->Nat} {p:Nat->Bool}
theorem Ane (hL:∀ k,p k = true->L (σ k) = L' k) {x:SV} (ho:x.okC p = true):(x.renC σ).c L = (x.c L').ren σ:=by
 cases x <;> first | rfl | skip;simp only [SV.renC,SV.c,C.ren];rw [hL _ ho]
theorem Aaw (hL:∀ k,p k = true->L (σ k) = L' k) {x:SV} (ho:x.okV p = true):(x.renV σ).v L = (x.v L').ren σ:=by
 cases x with
 | agg cs =>
  simp only [SV.renV,SV.v,V.ren,XG];congr 1;exact ZE fun y hy=>Ane hL (QM.1 ho y hy)
 | hw h=>exact XR V.one (Ane (x:=.hw h) hL ho)
 | _=>rfl
theorem Anf (hL:∀ k,p k = true->L (σ k) = L' k) {x:SV} (ho:x.ok3 p = true):(x.ren3 σ).s L = (x.s L').ren σ:=by
 cases x with
 | tup cs =>
  simp only [SV.ren3,SV.s,S.ren,XG];congr 1;exact ZE fun y hy=>Aaw hL (QM.1 ho y hy)
 | hw h=>exact XR S.v (Aaw (x:=.hw h) hL ho)
 | agg cs=>exact XR S.v (Aaw (x:=.agg cs) hL ho)
 | _=>rfl
theorem B7t {x:SV} (ho:x.okC p = true):(x.c L).okH p = true:=by cases x <;> first | rfl | exact ho
theorem Axo {x:SV} (ho:x.okV p = true):(x.v L).okH p = true:=by
 cases x with
 | agg cs =>
  simp only [SV.v,V.okH,YP,QM,Function.comp];exact fun y hy=>B7t (QM.1 ho y hy)
 | hw h=>exact ho
 | hs h o l=>exact ho
 | hp h r c=>exact ho
 | _=>rfl
theorem B7u {x:SV} (ho:x.ok3 p = true):(x.s L).okH p = true:=by
 cases x with
 | tup cs =>
  simp only [SV.s,S.okH,YP,QM,Function.comp];exact fun y hy=>Axo (QM.1 ho y hy)
 | agg cs=>exact Axo (x:=.agg cs) ho
 | hw h=>exact ho
 | hs h o l=>exact ho
 | hp h r c=>exact ho
 | _=>rfl
theorem hd1_closed {l:List I} (h:∀ c ∈ l,IClosed c):IClosed (hd1 l):=by
 cases l with
 | nil=>exact .lit _
 | cons c r=>exact h c (by simp)
theorem Jb {x:SV} (h:x.clC = true):(x.c L).allI IClosed:=by
 cases x with
 | d t y =>
  cases t with
  | sl t =>
   cases y with
   | nil=>exact .nil _ _ _
   | cons a b=>exact hd1_closed (Mh (.sl t) (a :: b) h)
  | _=>exact hd1_closed (Mh _ y h)
 | rf=>cases h
 | dead=>cases h
 | hw=>trivial
 | hs=>trivial
 | hp=>trivial
 | _=>exact .lit _
theorem Rz {x:SV} (h:x.clV = true):(x.v L).allI IClosed:=by
 cases x with
 | agg cs =>
  simp only [SV.v,V.allI,QJ];intro j c hc;obtain ⟨y,hy,rfl⟩:=QB.1 hc;exact Jb (E9 h hy)
 | d t y=>exact Jb (L:=L) (x:=.d t y) h
 | rf cs=>exact Jb (L:=L) (x:=.rf cs) h
 | hw k=>exact Jb (L:=L) (x:=.hw k) h
 | hs k o l=>exact Jb (L:=L) (x:=.hs k o l) h
 | hp k o l=>exact Jb (L:=L) (x:=.hp k o l) h
 | tup cs=>exact Jb (L:=L) (x:=.tup cs) h
 | dead=>exact Jb (L:=L) (x:=.dead) h
theorem B8s {x:SV} (h:x.cl3 = true):(x.s L).allI IClosed:=by
 cases x with
 | tup cs =>
  simp only [SV.s,S.allI,QJ];intro j c hc;obtain ⟨y,hy,rfl⟩:=QB.1 hc;exact Rz (E9 h hy)
 | dead=>trivial
 | d t y=>exact Rz (L:=L) (x:=.d t y) h
 | rf cs=>exact Rz (L:=L) (x:=.rf cs) h
 | hw k=>exact Rz (L:=L) (x:=.hw k) h
 | hs k o l=>exact Rz (L:=L) (x:=.hs k o l) h
 | hp k o l=>exact Rz (L:=L) (x:=.hp k o l) h
 | agg cs=>exact Rz (L:=L) (x:=.agg cs) h
theorem B7c {b:B3} (h:b.cl = true):∀ (i:Nat) (q:List C) (j:Nat) (c:C),(b.box L).rows[i]? = some q->q[j]? = some c->c.allI fun y=>IClosed y \/ ((b.box L).tr = true /\ Sg y):=by
 intro i q j c hq hc
 cases b with
 | hole=>cases h
 | tree e t fz xs =>
  simp only [B3.box,QJ] at hq;obtain ⟨y,hy,rfl⟩:=QB.1 hq;rw [QJ] at hc;obtain ⟨z,hz,rfl⟩:=QB.1 hc;exact .inr ⟨rfl,Aod t y h z (QU hz)⟩
 | arr e t fz xs =>
  simp only [B3.box,QJ] at hq;obtain ⟨y,hy,rfl⟩:=QB.1 hq;rw [QJ] at hc;obtain ⟨z,hz,rfl⟩:=QB.1 hc;exact .inl (Mh t y h z (QU hz))
 | rep e fz n cs =>
  simp only [B3.box,XS] at hq;split at hq
  . obtain rfl:=QA hq;rw [QJ] at hc;obtain ⟨z,hz,rfl⟩:=QB.1 hc;exact C.allI_mono (fun _ h=>.inl h) (Jb (E9 h hz))
  . cases hq
 | var e hf fz cs =>
  simp only [B3.box] at hq
  cases i with
  | zero =>
   obtain rfl:=QA hq;rw [QJ] at hc;obtain ⟨z,hz,rfl⟩:=QB.1 hc;exact C.allI_mono (fun _ h=>.inl h) (Jb (E9 h hz))
  | succ i=>simp at hq
theorem A6x {b:B3} (h:b.plain = true):b.box L = b.box L' /\ (b.box L).hf = true:=by
 cases b with
 | hole=>cases h
 | tree=>exact ⟨rfl,rfl⟩
 | arr=>exact ⟨rfl,rfl⟩
 | rep=>cases h
 | var e hf fz cs =>
  simp only [B3.plain,QE] at h
  exact ⟨by simp only [B3.box];rw [Aob h.2],h.1⟩
end
theorem S8 {L L':Nat->Nat} {x:SV} (hL:∀ k,x.menC k = true->L k = L' k):x.c L = x.c L':=by
 cases x <;> first | rfl | skip;rename_i k;simp only [SV.c]
 rw [hL k (by simp [SV.menC])]
theorem Yc {L L':Nat->Nat} {x:SV} (hL:∀ k,x.menV k = true->L k = L' k):x.v L = x.v L':=by
 cases x with
 | agg cs =>
  simp only [SV.v];congr 1;exact ZE fun y hy=>S8 fun k hk=>hL k (ZW.2 ⟨y,hy,hk⟩)
 | hw k=>exact XR V.one (S8 (x:=.hw k) hL)
 | _=>rfl
theorem Aar {L L':Nat->Nat} {x:SV} (hL:∀ k,x.men k = true->L k = L' k):x.s L = x.s L':=by
 cases x with
 | tup cs =>
  simp only [SV.s];congr 1;exact ZE fun y hy=>Yc fun k hk=>hL k (ZW.2 ⟨y,hy,hk⟩)
 | hw k=>exact XR S.v (Yc (x:=.hw k) hL)
 | agg cs=>exact XR S.v (Yc (x:=.agg cs) hL)
 | _=>rfl
theorem S9 {L L':Nat->Nat} {b:B3} (hL:∀ k,b.men k = true->L k = L' k):b.box L = b.box L':=by
 cases b with
 | hole e t fz xs row col k=>simp only [B3.box];rw [hL k (by simp [B3.men])]
 | tree=>rfl
 | arr=>rfl
 | rep e fz n cs =>
  simp only [B3.box];rw [ZE fun y hy=>S8 fun k hk=>hL k (ZW.2 ⟨y,hy,hk⟩)]
 | var e hf fz cs =>
  simp only [B3.box];rw [ZE fun y hy=>S8 fun k hk=>hL k (ZW.2 ⟨y,hy,hk⟩)]
def CK.backs:CK->List Nat
 | .back j=>[j]
 | _=>[]
def PK.backs:PK->List Nat
 | .im _=>[]
 | .one c=>c.backs
 | .mix cs=>cs.flatMap CK.backs
def Hy (f0:Nat) (ts:List PK) (o:Oper) (s:St3):Option (Bool × HP ts × List Nat × List (Nat × Nat)) :=
 match o.op with
 | .call c=>match c.callee with
  | .value f=>match X7 (s.val f) with
   | some (fid,caps)=>bif Nat.beq fid f0 then Kr s.boxes 1000 ts (c.args.toList.map s.val ++ caps) else none
   | none=>none
  | _=>none
 | _=>none
def Vn (rs:List PK):List Nat:=(Aj 0 rs).map (·.1)
def He (E:I3) (hb:Nat) (q:List (Nat × Nat)):List (Nat × Nat):=(Vn E.rs).map (fun k=>(k,hb + k)) ++ q
def Cs (E:I3) (rn:List (Nat × Nat)):List Nat:=(E.rs.flatMap PK.backs).map (Hk rn)
def F2 (B bs:List (Nat × B3)) (kill:List Nat):List (Nat × Nat)->Bool
 | []=>true
 | p :: r=>bif kill.any (Nat.beq p.2) then F2 B bs kill r else Nat.beq (A3 B p.1) (A3 bs p.2) && F2 B bs kill r
def Fb (E:I3) (hb:Nat) (s:St3) (x:HP E.ts) (bor:List Nat) (q:List (Nat × Nat)) (y:HR E.rs (Aj 1000 E.ts)):Bool :=
 Dz (He E hb q) && Br (Av E y) (He E hb q) && Br (If E x) q && (If E x).all (fun p=>Nat.ble 1000 p.1) && (Av E y).all (fun p=>p.2.plain) &&
 (Vn E.rs).all (fun k=>Nat.blt (hb + k) 1000 && (A0 (hb + k) s.boxes).isNone && s.clean (hb + k)) && q.all (fun p=>!bor.any (Nat.beq p.2)) &&
 (bor.isEmpty || ((G2 (Bl 0 E.rs (Kd y))).cl3 && (Av E y).all (fun p=>p.2.cl))) && (G2 (Bl 0 E.rs (Kd y))).ok3 (fun k=>(A0 k (Av E y)).isSome) &&
 (Cs E (He E hb q)).all (fun h=>s.boxes.all (fun p=>!p.2.men h))
def B1 (E:I3) (hb:Nat) (s:St3) (q:List (Nat × Nat)) (y:HR E.rs (Aj 1000 E.ts)):SV × St3 :=
 ((G2 (Bl 0 E.rs (Kd y))).ren3 (Hk (He E hb q)),
  ⟨Ae (fun x=>bif (Cs E (He E hb q)).any (fun h=>x.men h) then .dead else x) s.slots,Tv (Av E y) (He E hb q) s.boxes⟩)
theorem Tz:∀ {a b:List (Nat × Nat)},Dz (a ++ b) = true->Dz b = true
 | [],_,h=>h
 | (k,h') :: r,b,h=>Tz (J6 h).2
theorem Tr {B bs:List (Nat × B3)} {kill:List Nat}:∀ {q:List (Nat × Nat)},F2 B bs kill q = true->∀ p ∈ q,kill.any (Nat.beq p.2) = true \/ A3 B p.1 = A3 bs p.2
 | [],_,p,hp=>by cases hp
 | a :: r,h,p,hp=>by
  simp only [F2] at h
  cases hk:kill.any (Nat.beq a.2) with
  | true =>
   rw [hk] at h;rcases QT.1 hp with rfl | hp
   . exact .inl hk
   . exact Tr h p hp
  | false =>
   rw [hk] at h;simp only [cond,QE] at h;rcases QT.1 hp with rfl | hp
   . exact .inr (QC h.1)
   . exact Tr h.2 p hp
theorem Bz {β:Type} {k:Nat} {b:β} {l:List (Nat × β)} (h:A0 k l = some b):(k,b) ∈ l:=C5 h
theorem A93 {E:I3} {hb:Nat} {o:Oper} {s s':St3} {nt:Nat} {x:HP E.ts} {bor:List Nat} {q:List (Nat × Nat)} {y:HR E.rs (Aj 1000 E.ts)} {K:Ai}
  (h:Hy E.f E.ts o s = some (true,x,bor,q)) (hc:Fb E hb s x bor q y = true) (hg:F2 (Av E y) s.boxes (Cs E (He E hb q)) q = true) (hF:E.Den P nt x y)
  (hp:(B1 E hb s q y).2.put3 K o.dst (B1 E hb s q y).1 = some s') :
  ∃ D obs,C1 P T K o D (s.st nt) = some (s'.st nt,obs) /\ ∀ p ∈ obs,p:=by
 obtain ⟨dst,op,type,pos,aft,guard⟩:=o;unfold Hy at h;simp only at h;split at h
 case h_2=>cases h
 rename_i c;split at h
 case h_2=>cases h
 rename_i f hf;split at h
 case h_2=>cases h
 rename_i fid caps hcal
 cases hcf:Nat.beq fid E.f with
 | false=>rw [hcf] at h;cases h
 | true =>
 rw [hcf] at h;simp only [cond] at h;obtain rfl:=QC hcf;generalize hrn:He E hb q = rn at *;unfold Fb at hc;rw [hrn] at hc;simp only [QE] at hc;obtain ⟨⟨⟨⟨⟨⟨⟨⟨⟨c1,c2⟩,c3⟩,c4⟩,c5⟩,c6⟩,c7⟩,c8⟩,c9⟩,c10⟩:=hc;have hrn':rn = (Vn E.rs).map (fun k=>(k,hb + k)) ++ q:=hrn.symm
 have c1q:Dz q = true:=Tz (by rw [<- hrn'];exact c1)
 have qrn:∀ p ∈ q,p ∈ rn:=fun p hp=>by rw [hrn'];exact QF.2 (.inr hp)
 have fwdm:∀ k h,(k,h) ∈ rn->Hk rn k = h /\ Hz rn h = some k /\ A0 k rn = some h:=fun k h hm=>by
  obtain ⟨e1,e2⟩:=Lo c1 hm
  exact ⟨by unfold Hk;rw [e1],e2,e1⟩
 have outS:∀ k,(A0 k (Bm (Av E y))).isSome = (A0 k rn).isSome:=fun k=>by
  unfold Bm;rw [Ac,JC,Eh c2 k]
 have inS:∀ k,(A0 k (Bm (If E x))).isSome = (A0 k q).isSome:=fun k=>by
  unfold Bm;rw [Ac,JC,Eh c3 k]
 obtain ⟨⟨ob,a1,a2⟩,a3,a4,a5⟩:=Af1 (hd:=fun k h=>q.any fun p=>Nat.beq p.1 k && Nat.beq p.2 h) (L:=A3 (If E x)) h rfl
  (fun p hp=>ZW.2 ⟨p,hp,by simp⟩) (fun k b hb=>by
   have:=Tn c3 c1q hb;simp only [A3]
   show (match A0 k (If E x) with | some b=>b.len | none=>0) = b.len
   rw [this])
 obtain ⟨cs,k1,k2⟩:=A3t (L:=A3 s.boxes) hcal
 have hfa:(s.val f).alive = true:=B0 fun e=>by rw [e] at hcal;cases hcal
 have hfv:=B5 (nt:=nt) rfl hfa
 have hmap:c.args.toList.map (s.st nt).val ++ cs.map (fun x=>S.v (V.one (C.i x))) = (c.args.toList.map s.val ++ caps).map (SV.s (A3 s.boxes)):=by
  rw [JL,k2,XG];congr 1;exact ZE fun z hz=>B5 rfl (a5 _ (QF.2 (.inl (ZN.2 ⟨z,hz,rfl⟩))))
 have blook:∀ h,A0 h (B1 E hb s q y).2.boxes = match Hz rn h with | some k=>A0 k (Av E y) | none=>A0 h s.boxes:=fun h=>by
  have:=Xw (bs:=s.boxes) c2 c1 h;rw [<- hrn] at this ⊢;exact this
 have lenk:∀ k h,(k,h) ∈ rn->A3 (B1 E hb s q y).2.boxes h = A3 (Av E y) k:=fun k h hm=>by
  unfold A3;rw [blook h,(fwdm k h hm).2.1]
 have lenS:∀ h,s.clean h = true \/ (∀ k,Hz rn h = some k->(k,h) ∈ q /\ (Cs E rn).any (Nat.beq h) = false)->s.clean h = true \/ A3 (B1 E hb s q y).2.boxes h = A3 s.boxes h:=by
  intro h hh;rcases hh with hh | hh
  . exact .inl hh
  . cases hw:Hz rn h with
    | none =>
     right;unfold A3;rw [blook h,hw]
    | some k =>
     obtain ⟨h1,h2⟩:=hh k hw;right;rw [lenk k h (qrn _ h1)];rcases Tr hg _ h1 with h3 | h3
     . rw [h3] at h2;cases h2
     . exact h3
 have newC:∀ k h,(k,h) ∈ rn->(k,h) ∈ q \/ (h < 1000 /\ A0 h s.boxes = none /\ s.clean h = true):=fun k h hm=>by
  rw [hrn'] at hm;rcases QF.1 hm with hm | hm
  . obtain ⟨k',hk',e⟩:=ZN.1 hm;obtain ⟨rfl,rfl⟩:=KE e;have:=QM.1 c6 k' hk';simp only [QE] at this
    exact .inr ⟨by simpa [ZO] using this.1.1,by simpa using this.1.2,this.2⟩
  . exact .inl hm
 have lenM:∀ h,(Cs E rn).any (Nat.beq h) = false->s.clean h = true \/ A3 (B1 E hb s q y).2.boxes h = A3 s.boxes h:=fun h hk=>by
  cases hw:Hz rn h with
  | none=>exact lenS h (.inr fun k e=>by rw [hw] at e;cases e)
  | some k =>
   rcases newC k h (X8 hw) with h1 | h1
   . exact lenS h (.inr fun k' e=>by rw [hw] at e;obtain rfl:=QA e;exact ⟨h1,hk⟩)
   . exact .inl h1.2.2
 have cleanS:∀ {t:Nat} {z:SV} {h:Nat},A0 t s.slots = some z->s.clean h = true->z.men h = false:=fun {t z h} hz hcl=>by
  unfold St3.clean at hcl;simp only [QE,QM,ZJ] at hcl;exact hcl.1 _ (Bz hz)
 have Mi:∀ {t:Nat} {z:B3} {h:Nat},A0 t s.boxes = some z->s.clean h = true->z.men h = false:=fun {t z h} hz hcl=>by
  unfold St3.clean at hcl;simp only [QE,QM,ZJ] at hcl;exact hcl.2 _ (Bz hz)
 have hval:(B1 E hb s q y).1.s (A3 (B1 E hb s q y).2.boxes) = ((G2 (Bl 0 E.rs (Kd y))).s (A3 (Av E y))).ren (Hk rn):=by
  have:(B1 E hb s q y).1 = (G2 (Bl 0 E.rs (Kd y))).ren3 (Hk rn):=by rw [<- hrn];rfl
  rw [this];refine Anf (p:=fun k=>(A0 k (Av E y)).isSome) (fun k hk=>?_) c9;rw [Eh c2 k] at hk;obtain ⟨h',hh'⟩:=ZB.1 hk;have hm':=C5 hh';rw [(fwdm k h' hm').1,lenk k h' hm']
 have hput:=Nz (nt:=nt) hp;rw [hval] at hput
 let cb:CallB:=⟨E.ts.map PK.isIm,(Bl 1000 E.ts x).map (SV.v (A3 (If E x))),(G2 (Bl 0 E.rs (Kd y))).s (A3 (Av E y)),Bm (If E x),Bm (Av E y),Hk rn,Hz rn,fun k h=>q.any fun p=>Nat.beq p.1 k && Nat.beq p.2 h,(B1 E hb s q y).2.st nt⟩
 have hok:cb.OK P E.f (s.st nt) bor:=by
  refine ⟨hF,fun k h hq=>?_,fun k hk=>?_,fun h k hk=>?_,fun k b hb=>?_,fun k b hb=>?_,?_,?_,a3,fun h=>?_,fun t z hz=>?_⟩
  . obtain ⟨p,hp1,hp2⟩:=ZW.1 hq;simp only [QE] at hp2;have e1:=QC hp2.1;have e2:=QC hp2.2
    have hm':(k,h) ∈ q:=by rw [<- e1,<- e2];exact hp1
    refine ⟨(fwdm k h (qrn _ hm')).1,?_⟩;show (A0 k (Bm (If E x))).isSome = true;rw [inS k,(Lo c1q hm').1];rfl
  . have hk:(A0 k (Bm (Av E y))).isSome = true:=hk;rw [outS k] at hk;obtain ⟨h',hh'⟩:=ZB.1 hk;obtain ⟨e1,e2,_⟩:=fwdm k h' (C5 hh');show Hz rn (Hk rn k) = some k;rw [e1,e2]
  . have hk:Hz rn h = some k:=hk;obtain ⟨e1,e2,e3⟩:=fwdm k h (X8 hk);refine ⟨e1,?_⟩;show (A0 k (Bm (Av E y))).isSome = true;rw [outS k,e3];rfl
  . have hb:A0 k (Bm (If E x)) = some b:=hb;unfold Bm at hb;rw [Ac] at hb;obtain ⟨b3,hb3,rfl⟩:=QB.1 hb;have hmem:=Bz hb3;obtain ⟨h',b',i1,i2,i3,i4,i5⟩:=a4 k b3 hmem;obtain ⟨e1,e2,e3⟩:=fwdm k h' (qrn _ i1);have hk:=QM.1 c4 _ hmem;have hnb:=QM.1 c7 _ i1
    refine ⟨by simpa using hk,?_,(i5 _).1,(i5 _).2,?_,?_⟩
    . show A0 (Hk rn k) (Ae (B3.box (A3 s.boxes)) s.boxes) = _;rw [e1,Ac,i2];exact XR some (i4 _ _)
    . show Hk rn k ∉ bor;rw [e1];intro hmb
      have:(bor.any (Nat.beq h')) = true:=ZW.2 ⟨h',hmb,by simp⟩
      simp only [this,ZX] at hnb
      cases hnb
    . show (A0 k (Bm (Av E y))).isSome = true;rw [outS k,e3];rfl
  . have hb:A0 k (Bm (Av E y)) = some b:=hb
    have hS:(A0 k (Bm (Av E y))).isSome = true:=by rw [hb];rfl
    rw [outS k] at hS;obtain ⟨h',hh'⟩:=ZB.1 hS;obtain ⟨e1,e2,e3⟩:=fwdm k h' (C5 hh');unfold Bm at hb;rw [Ac] at hb;obtain ⟨b3,hb3,rfl⟩:=QB.1 hb;refine ⟨(A6x (L':=fun _=>0) (QM.1 c5 _ (Bz hb3))).2,fun hn=>?_⟩;have hn:A0 k (Bm (If E x)) = none:=hn;rcases newC k h' (C5 hh') with h1 | ⟨h1,h2,_⟩
    . have:(A0 k (Bm (If E x))).isSome = true:=by rw [inS k,(Lo c1q h1).1];rfl
      rw [hn] at this;cases this
    . show A0 (Hk rn k) (Ae _ s.boxes) = none /\ Hk rn k < 1000;rw [e1,Ac,h2];exact ⟨rfl,h1⟩
  . simp only [XL,YI,QE] at c8;rcases c8 with c8 | ⟨c8,c8'⟩
    . exact .inl c8
    . refine .inr ⟨B8s c8,fun k b hb=>?_⟩;have hb:A0 k (Bm (Av E y)) = some b:=hb;unfold Bm at hb;rw [Ac] at hb;obtain ⟨b3,hb3,rfl⟩:=QB.1 hb;exact B7c (QM.1 c8' _ (Bz hb3))
  . have : (fun k => (A0 k (Bm (Av E y))).isSome) = fun k => (A0 k (Av E y)).isSome := by
     funext k;unfold Bm;rw [Ac,JC]
    show S.okH (fun k=>(A0 k (Bm (Av E y))).isSome) _ = true;rw [this];exact B7u c9
  . show A0 h (Ae (B3.box (A3 (B1 E hb s q y).2.boxes)) (B1 E hb s q y).2.boxes) = match Hz rn h with | some k=>A0 k (Bm (Av E y)) | none=>A0 h (Ae (B3.box (A3 s.boxes)) s.boxes)
    rw [Ac,blook h]
    cases hw:Hz rn h with
    | some k =>
     simp only;unfold Bm;rw [Ac]
     cases hb:A0 k (Av E y) with
     | none=>rfl
     | some b3=>exact XR some (A6x (QM.1 c5 _ (Bz hb))).1
    | none =>
     simp only;rw [Ac]
     cases hb:A0 h s.boxes with
     | none=>rfl
     | some b3 =>
      refine XR some (S9 fun k hk=>?_)
      cases hki:(Cs E rn).any (Nat.beq k) with
      | true =>
       obtain ⟨k2,hk2,hk3⟩:=ZW.1 hki;obtain rfl:=QC hk3;have:=QM.1 (QM.1 c10 _ hk2) _ (Bz hb);simp only [hk,ZX] at this
       cases this
      | false =>
       rcases lenM k hki with h1 | h1
       . rw [Mi hb h1] at hk;cases hk
       . exact h1
  . have hz:A0 t (Ae (SV.s (A3 (B1 E hb s q y).2.boxes)) (Ae (fun x=>bif (Cs E (He E hb q)).any (fun h=>x.men h) then .dead else x) s.slots)) = some z:=hz
    rw [hrn,Ac,Ac,Option.map_map] at hz;obtain ⟨z0,hz0,rfl⟩:=QB.1 hz;simp only [Function.comp]
    cases hki:(Cs E rn).any (fun h=>z0.men h) with
    | true=>exact .inl rfl
    | false =>
     right;show A0 t (Ae (SV.s (A3 s.boxes)) s.slots) = _;rw [Ac,hz0];refine XR some (Aar fun k hk=>?_)
     cases hki':(Cs E rn).any (Nat.beq k) with
     | true =>
      obtain ⟨k2,hk2,hk3⟩:=ZW.1 hki';obtain rfl:=QC hk3;have:=XB.1 hki _ hk2;rw [hk] at this;exact absurd rfl this
     | false =>
      rcases lenM k hki' with h1 | h1
      . rw [cleanS hz0 h1] at hk;cases hk
      . exact h1.symm
 refine ⟨{ callB:=some cb },cb.OK P E.f (s.st nt) bor :: ob,?_,fun p hp=>?_⟩
 . have a1' : Gl cb.hd (s.st nt).box cb.ims (c.args.toList.map (s.st nt).val ++ cs.map fun x => S.v (V.one (C.i x))) cb.args = some (ob, bor) := by
    rw [hmap];exact a1
   simp only [C1,A9o,hf,hfv,k1,a1'];have:cb.s'.putD K dst (cb.r.ren cb.σ) = some (s'.st nt):=hput;rw [this];rfl
 . rcases QT.1 hp with rfl | hp
   . exact hok
   . exact a2 p hp
def onB {α:Type} (K:Ai) (E:I3) (hb:Nat) (o:Oper) (s:St3) (x:HP E.ts) (bor:List Nat) (q:List (Nat × Nat)) (y:HR E.rs (Aj 1000 E.ts)) (k:St3->Option α):Option α :=
 bif Fb E hb s x bor q y then bif F2 (Av E y) s.boxes (Cs E (He E hb q)) q then (match (B1 E hb s q y).2.put3 K o.dst (B1 E hb s q y).1 with
  | some s'=>k s'
  | none=>none) else none else none
def Nx {α:Type} (K:Ai) (E:Ent3) (hb:Nat) (o:Oper) (s:St3) (k:St3->Option α):Option α :=
 match Hy E.f E.ts o s with
 | some (g,x,bor,q)=>bif g then (match E.m x with
  | some z=>Hx (Aj 1000 E.ts) E.forms z fun rs y=>onB K ⟨E.f,E.ts,rs⟩ hb o s x bor q y k
  | none=>none) else none
 | none=>none
theorem T7 {α:Type} {K:Ai} {E:Ent3} {hb:Nat} {o:Oper} {s:St3} {nt:Nat} {k:St3->Option α} {r:α} (h:Nx K E hb o s k = some r) (hE:E.Sound P) :
  ∃ s' D obs,C1 P T K o D (s.st nt) = some (s'.st nt,obs) /\ (∀ p ∈ obs,p) /\ k s' = some r:=by
 unfold Nx at h;split at h
 . rename_i g x bor q hc
   cases g with
   | false=>cases h
   | true =>
    simp only [cond] at h;split at h
    . rename_i z hm;obtain ⟨rs,y,h1,h2⟩:=Kp h (hE nt x z hm);unfold onB at h1
      cases hck:Fb ⟨E.f,E.ts,rs⟩ hb s x bor q y with
      | false=>rw [hck] at h1;cases h1
      | true =>
       rw [hck] at h1;simp only [cond] at h1
       cases hl:F2 (Av ⟨E.f,E.ts,rs⟩ y) s.boxes (Cs ⟨E.f,E.ts,rs⟩ (He ⟨E.f,E.ts,rs⟩ hb q)) q with
       | false=>rw [hl] at h1;cases h1
       | true =>
        rw [hl] at h1;simp only at h1;split at h1
        . rename_i s' hp;obtain ⟨D,obs,q1,q2⟩:=A93 (T:=T) (E:=⟨E.f,E.ts,rs⟩) hc hck hl h2 hp;exact ⟨s',D,obs,q1,q2,h1⟩
        . cases h1
    . cases h
 . cases h
end Go.Ev

/- DERIVED. Trees over shapes: the function's own boxes stored into a tree, or appended to it. -/
namespace Go.Ev
open Go
variable {P:Program} {T:Ty}
def Ajd (bs:List (Nat × B3)) (h:Nat):SV->Option (Bool × SV × List Nat)
 | .hw k=>match A0 k bs with
  | some (.arr e sh false ys)=>bif Nat.blt k 1000 && !Nat.beq k h && sh.lits && (Nat.beq e Ct && Nat.beq sh.size 1) then some (true,.d (.sl sh) ys,[k]) else none
  | _=>none
 | .d (.sl sh) ys=>some (ys.isEmpty,.d (.sl sh) ys,[])
 | .d t x=>bif t.one && t.lits then some (true,.d t x,[]) else none
 | _=>none
def Lh (bs:List (Nat × B3)) (h:Nat):List SV->Option (Bool × List SV × List Nat)
 | []=>some (true,[],[])
 | c :: r=>match Ajd bs h c,Lh bs h r with
  | some (g,c',ks),some (g',r',ks')=>some (g && g',c' :: r',ks ++ ks')
  | _,_=>none
def A4a (bs:List (Nat × B3)) (k:Nat):I:=match A0 k bs with
 | some (.arr _ sh _ ys)=>.sl 0 false sh.size (ys.map sh.cells)
 | _=>.any
structure B7d (bs:List (Nat × B3)) (h k:Nat):Prop where
 lt:k < 1000
 ne:k ≠ h
 at_:∃ e sh ys,A0 k bs = some (.arr e sh false ys) /\ sh.lits = true /\ e = Ct /\ sh.size = 1
theorem Aug {L:Nat->Nat} {bs:List (Nat × B3)} {h:Nat} {c c':SV} {g:Bool} {ks:List Nat} (hc:Ajd bs h c = some (g,c',ks)) (hg:g = true) :
  (c.c L).okT = true /\ c.cellB = true /\ c'.isD = true /\ (c.c L).men h = false /\ ((ks = [] /\ (∀ k,c.menC k = false) /\ c'.c L = c.c L /\ ∃ y,c.c L = .i y) \/ ∃ k,ks = [k] /\ c = .hw k /\ B7d bs h k /\ c'.c L = .i (A4a bs k)):=by
 unfold Ajd at hc;split at hc
 . rename_i k;split at hc
   . rename_i e sh ys hl
     cases hb:(Nat.blt k 1000 && !Nat.beq k h && sh.lits && (Nat.beq e Ct && Nat.beq sh.size 1)) with
     | false=>rw [hb] at hc;cases hc
     | true =>
      rw [hb] at hc;simp only [cond,QD,QG] at hc;obtain ⟨_,rfl,rfl⟩:=hc;simp only [QE,ZJ] at hb;have hne:k ≠ h:=Jr hb.1.1.2
      refine ⟨rfl,rfl,rfl,G1 hne,.inr ⟨k,rfl,rfl,⟨by have:=hb.1.1.1;simpa [ZO] using this,hne,e,sh,ys,hl,hb.1.2,QC hb.2.1,QC hb.2.2⟩,?_⟩⟩
      simp only [A4a,hl,SV.c,Sh.cells,hd1]
   . cases hc
 . rename_i sh ys;simp only [QD,QG] at hc;obtain ⟨h1,rfl,rfl⟩:=hc
   have:ys = []:=by rw [<- h1] at hg;simpa using hg
   subst this;exact ⟨rfl,rfl,rfl,rfl,.inl ⟨rfl,fun _=>rfl,rfl,_,rfl⟩⟩
 . rename_i t x _
   cases hb:(t.one && t.lits) with
   | false=>rw [hb] at hc;cases hc
   | true =>
    rw [hb] at hc;simp only [cond,QD,QG] at hc;obtain ⟨_,rfl,rfl⟩:=hc;simp only [QE] at hb
    have:∃ v,hd1 (t.cells x) = .lit v:=by
     cases hx:t.cells x with
     | nil=>have:=t.cells_len x;rw [hx] at this;exact ⟨_,rfl⟩
     | cons y r=>obtain ⟨v,hv⟩:=A2e t x hb.2 y (by rw [hx];simp);exact ⟨v,hv⟩
    obtain ⟨v,hv⟩:=this
    refine ⟨by simp only [SV.c,hv];rfl,hb.1,hb.1,rfl,.inl ⟨rfl,fun _=>rfl,rfl,_,rfl⟩⟩
 . cases hc
theorem Mn {L:Nat->Nat} {bs:List (Nat × B3)} {h:Nat}:∀ {cs cs':List SV} {g:Bool} {ks:List Nat},Lh bs h cs = some (g,cs',ks)->g = true->ks.Nodup ->
  (cs.map (SV.c L)).all C.okT = true /\ cs.all SV.cellB = true /\ (∀ c ∈ cs.map (SV.c L),c.men h = false) /\ (∀ k ∈ ks,B7d bs h k /\ ∃ col,cs[col]? = some (.hw k) /\ ∀ (j:Nat) (c:SV),cs[j]? = some c->j ≠ col->c.menC k = false) /\
  (∀ ks',(∀ k ∈ ks,k ∈ ks')->(cs.map (SV.c L)).map (Ns ks' (A4a bs)) = cs'.map (SV.c L)) /\ (∀ k,k ∉ ks->∀ c ∈ cs,c.menC k = false)
 | [],cs',g,ks,hc,_,_=>by
  simp only [Lh,QD,QG] at hc;obtain ⟨_,rfl,rfl⟩:=hc
  exact ⟨rfl,rfl,fun c h=>by simp at h,fun k h=>by simp at h,fun _ _=>rfl,fun k _ c h=>by simp at h⟩
 | c :: r,cs',g,ks,hc,hg,hn=>by
  simp only [Lh] at hc;split at hc
  . rename_i g1 c1 k1 g2 r2 k2 h1 h2;simp only [QD,QG] at hc;obtain ⟨rfl,rfl,rfl⟩:=hc;simp only [QE] at hg;obtain ⟨a1,a2,a3,a4,a5⟩:=Aug (L:=L) h1 hg.1;obtain ⟨n1,n2,n3⟩:=List.nodup_append.1 hn;obtain ⟨b1,b2,b3,b4,b5,b6⟩:=Mn (L:=L) h2 hg.2 n2
    refine ⟨by simp only [QV,YA,a1,b1,ZF],by simp only [YA,a2,b2,ZF],fun x hx=>?_,fun k hk=>?_,fun ks' hks=>?_,fun k hk x hx=>?_⟩
    . rcases QT.1 hx with rfl | hx
      . exact a4
      . exact b3 x hx
    . rcases QF.1 hk with hk1 | hk3
      . rcases a5 with ⟨rfl,_⟩ | ⟨k0,rfl,rfl,t0,_⟩
        . simp at hk1
        . obtain rfl:k = k0:=by simpa using hk1
          refine ⟨t0,0,rfl,fun j x hj hne=>?_⟩
          cases j with
          | zero=>exact absurd rfl hne
          | succ j =>
           have hj:r[j]? = some x:=by simpa using hj
           exact b6 k (fun hk2=>n3 k (by simp) k hk2 rfl) x (QU hj)
      . obtain ⟨t0,col,q1,q2⟩:=b4 k hk3
        refine ⟨t0,col + 1,by simpa using q1,fun j x hj hne=>?_⟩
        cases j with
        | zero =>
         obtain rfl:c = x:=by simpa using hj
         rcases a5 with ⟨_,hm,_⟩ | ⟨k0,rfl,rfl,_,_⟩
         . exact hm k
         . exact G1 fun e=>n3 k0 (by simp) k hk3 e
        | succ j=>exact q2 j x (by simpa using hj) (by omega)
    . simp only [QV]
      rw [b5 ks' fun k hk=>hks k (by simp [hk])]
      congr 1;rcases a5 with ⟨_,_,e1,y,e2⟩ | ⟨k0,rfl,rfl,_,e1⟩
      . rw [e1,e2];rfl
      . rw [e1]
        have:ks'.any (Nat.beq k0) = true:=ZW.2 ⟨k0,hks k0 (by simp),XD k0⟩
        simp only [SV.c,Ns,this,cond]
    . rcases QT.1 hx with rfl | hx
      . rcases a5 with ⟨_,hm,_⟩ | ⟨k0,rfl,rfl,_,_⟩
        . exact hm k
        . exact G1 fun e=>hk (by simp [e])
      . exact b6 k (fun h=>hk (by simp [h])) x hx
  . cases hc
def Jh:List Nat->Bool
 | []=>true
 | k :: r=>!r.any (Nat.beq k) && Jh r
theorem Jg:∀ {l:List Nat},Jh l = true->l.Nodup
 | [],_=>List.nodup_nil
 | k :: r,h=>by
  simp only [Jh,QE,ZJ] at h
  exact YZ.2 ⟨fun hk=>by have:=XB.1 h.1 k hk;simp at this,Jg h.2⟩
def F7 (ks:List Nat) (sl:List (Nat × SV)):List (Nat × SV):=Ae (fun x=>bif ks.any (fun k=>x.men k) then .dead else x) sl
def P6 (h:Nat) (skip ks:List Nat) (bs:List (Nat × B3)):Bool:=bs.all fun p=>Nat.beq p.1 h || skip.any (Nat.beq p.1) || ks.all fun k=>!p.2.men k
def Pc (T:Ty) (o:Oper) (s:St3):Option (Bool × St3) :=
 match o.op,o.dst with
 | .store t a x,none=>match T t,s.val a,s.val x with
  | some ti,.hp h row 0,.agg cs=>match A0 h s.boxes with
   | some (.tree e sh false xs)=>match Lh s.boxes h cs with
    | some (g,cs',ks)=>match sh.all false cs' with
     | some y=>bif Nat.beq ti.size sh.size && SV.fits3 ti (.agg cs) && Jh ks && P6 h [] (h :: ([] ++ ks)) s.boxes then
       some (g && decide (row < xs.length),{ slots:=F7 ks s.slots,boxes:=Ag h (.tree e sh false (xs.set row y)) (Gx ks s.boxes) }) else none
     | none=>none
    | none=>none
   | _=>none
  | _,_,_=>none
 | _,_=>none
theorem H6 {L:Nat->Nat} {b:B3} {k:Nat} (hb:b.men k = false):∀ (i:Nat) (r:List C) (j:Nat) (c:C),(b.box L).rows[i]? = some r->r[j]? = some c->c.men k = false:=by
 have lst:∀ (cs:List SV),cs.any (SV.menC k) = false->∀ (j:Nat) (c:C),(cs.map (SV.c L))[j]? = some c->c.men k = false:=by
  intro cs h j c hj;rw [QJ] at hj;obtain ⟨x,hx,rfl⟩:=QB.1 hj;rw [O2];exact Ff h hx
 intro i r j c hi hj
 cases b with
 | hole e t fz xs row col k0 =>
  have hm:(B3.hole e t fz xs row col k0 |>.box L).men k = false:=Aj3 hb;simp only [Box.men] at hm;have:=XB.1 hm r (QU hi);simp only [ZW,not_exists,not_and,Qal] at this;exact this c (QU hj)
 | arr e t fz xs =>
  simp only [B3.box,QJ] at hi;obtain ⟨x,_,rfl⟩:=QB.1 hi;rw [QJ] at hj;obtain ⟨y,_,rfl⟩:=QB.1 hj;rfl
 | tree e t fz xs =>
  simp only [B3.box,QJ] at hi;obtain ⟨x,_,rfl⟩:=QB.1 hi;rw [QJ] at hj;obtain ⟨y,_,rfl⟩:=QB.1 hj;rfl
 | rep e fz n cs =>
  simp only [B3.box,XS] at hi;split at hi
  . obtain rfl:=QA hi;exact lst cs hb j c hj
  . cases hi
 | var e hf fz cs =>
  simp only [B3.box] at hi
  cases i with
  | zero=>obtain rfl:=QA hi;exact lst cs hb j c hj
  | succ i=>simp at hi
theorem Jp {h:Nat} {skip ks:List Nat} {bs:List (Nat × B3)} (hc:P6 h skip ks bs = true) {j:Nat} {b:B3} (hj:A0 j bs = some b) (h1:j ≠ h) (h2:j ∉ skip):∀ k ∈ ks,b.men k = false:=by
 intro k hk;have:=QM.1 hc _ (Bz hj);simp only [XL,QM,ZJ] at this;rcases this with (h3 | h3) | h3
 . exact absurd (QC h3) h1
 . obtain ⟨x,hx,he⟩:=ZW.1 h3;exact absurd (QC he ▸ hx) h2
 . exact h3 k hk
theorem Xl {s s':St3} {nt:Nat} {S1:St} {h row:Nat} {e:TypeId} {sh:Sh} {xs':List sh.den} {y:sh.den} {cs cs':List SV} {g0:Bool} {ks dl:List Nat} {hf1:Bool} {rows1:List (List C)}
  (hn:S1.nt = nt) (hsl:∀ t x,A0 t (s'.st nt).slots = some x->x = .dead \/ A0 t S1.slots = some x) (hm:∀ k ∈ dl ++ ks,∀ t x,A0 t (s'.st nt).slots = some x->x.men k = false)
  (hb1:A0 h S1.boxes = some ⟨e,sh.size,hf1,false,rows1,true⟩) (hrow:rows1[row]? = some (cs.map (SV.c (A3 s.boxes))))
  (hoth:∀ (i:Nat) (q:List C) (j:Nat) (c:C),i ≠ row->rows1[i]? = some q->q[j]? = some c->∃ y,c = .i y)
  (hj:∀ j,j ≠ h->A0 j S1.boxes = (A0 j s.boxes).map (B3.box (A3 s.boxes)))
  (ht:Lh s.boxes h cs = some (g0,cs',ks)) (hg:g0 = true) (hnd:Jh ks = true) (hy:sh.all false cs' = some y)
  (hdl:∀ k ∈ dl,k < 1000 /\ k ≠ h /\ k ∉ ks) (hd1:dl.length <= 1) (hcl:P6 h dl (h :: (dl ++ ks)) s.boxes = true)
  (hs':s'.boxes = Ag h (.tree e sh false xs') (Gx (dl ++ ks) s.boxes)) (hxs:rows1.set row ((sh.cells y).map .i) = xs'.map fun x=>(sh.cells x).map .i)
  (hself:∀ (i:Nat) (r:List C) (j:Nat) (c:C),rows1[i]? = some r->r[j]? = some c->∀ k ∈ dl,c.men k = false):Bs S1 (s'.st nt):=by
 obtain ⟨f1,f2,f3,f4,f5,f6⟩:=Mn (L:=A3 s.boxes) ht hg (Jg hnd);obtain ⟨y1,_,_,_⟩:=C6 hy
 let b1:Box:=⟨e,sh.size,hf1,false,rows1,true⟩
 let S2:St:={ S1 with slots:=(s'.st nt).slots }
 have w1:Bs S1 S2:=Cf rfl hsl fun _=>rfl
 have w2:Bs S2 { S2 with boxes:=Gx dl S1.boxes }:=by
  rcases dl with _ | ⟨k,_ | ⟨k2,r⟩⟩
  . exact Cf rfl (fun t x hx=>.inr hx) fun _=>rfl
  . refine Aa7 (s:=S2) (hdl k (by simp)).1 (fun t x hx=>hm k (by simp) t x hx) (fun j b hjk hb=>?_)
    by_cases e1:j = h
    . subst e1;rw [show A0 j S2.boxes = some b1 from hb1] at hb;obtain rfl:=QA hb
      exact fun i r j' c hi hc=>hself i r j' c hi hc k (by simp)
    . rw [show A0 j S2.boxes = _ from hj j e1] at hb;obtain ⟨b3,hb3,rfl⟩:=QB.1 hb
      exact H6 (Jp hcl hb3 e1 (by simpa using hjk) k (by simp))
  . simp at hd1
 let S3:St:={ S2 with boxes:=Gx dl S1.boxes }
 have hdl':∀ k ∈ dl,∀ j,j ∈ ks->j ≠ k:=fun k hk j hj e=>(hdl k hk).2.2 (e ▸ hj)
 have l3:∀ j,A0 j S3.boxes = bif dl.any (Nat.beq j) then none else A0 j S1.boxes:=fun j=>Dd dl _ j
 have nodl:∀ j,j ∉ dl->dl.any (Nat.beq j) = false:=fun j hj=>XB.2 fun x hx=>by
  intro e;exact hj (QC e ▸ hx)
 have hdlh:h ∉ dl:=fun hh=>(hdl h hh).2.1 rfl
 have ok:Amv S3 h row b1 (cs.map (SV.c (A3 s.boxes))) ks (A4a s.boxes):=by
  refine ⟨by rw [l3,nodl h hdlh];exact hb1,rfl,hrow,hoth,Jg hnd,fun k hk=>?_,fun k hk=>hm k (by simp [hk]),fun k hk i b' h1 h2 hl=>?_⟩
  . obtain ⟨⟨t1,t2,e',sh',ys,t3,t4,t5,t6⟩,col,q1,q2⟩:=f4 k hk;have hkd:k ∉ dl:=fun hh=>hdl' k hh k hk rfl
    refine ⟨t2,t1,(B3.arr e' sh' false ys).box (A3 s.boxes),ys.map sh'.cells,col,A3 s.boxes k,by rw [l3,nodl k hkd];show A0 k S1.boxes = _;rw [hj k t2,t3];rfl,rfl,rfl,by rw [QJ,q1];rfl,by simp [A3,t3,B3.len,B3.box],by simp only [B3.box,XG];rfl,fun i q j z hi hz=>?_,by simp only [A4a,t3,B3.box],(fun j c hjj hne=>?_),t5,t6⟩
    . rw [QJ] at hi;obtain ⟨u,_,rfl⟩:=QB.1 hi;exact A2e sh' u t4 z (QU hz)
    . rw [QJ] at hjj;obtain ⟨u,hu,rfl⟩:=QB.1 hjj;rw [O2];exact q2 j u hu hne
  . rw [l3] at hl;by_cases e1:i ∈ dl
    . have:dl.any (Nat.beq i) = true:=ZW.2 ⟨i,e1,XD i⟩;rw [this] at hl;cases hl
    . rw [nodl i e1] at hl;rw [show A0 i S1.boxes = _ from hj i h2] at hl;obtain ⟨b3,hb3,rfl⟩:=QB.1 hl
      exact H6 (Jp hcl hb3 h2 e1 k (by simp [hk]))
 have w3:=Aj9 ks ok
 have er:(cs.map (SV.c (A3 s.boxes))).map (Ns ks (A4a s.boxes)) = (sh.cells y).map .i:=by rw [f5 ks fun _ h=>h,y1 (A3 s.boxes)]
 rw [er] at w3;have hrow':b1.rows.set row ((sh.cells y).map .i) = xs'.map fun x=>(sh.cells x).map .i:=hxs;rw [hrow'] at w3
 refine w1.trans (w2.trans (w3.trans ((Ayi (h:=h) (b:=⟨e,sh.size,bif ks.isEmpty then hf1 else false,false,xs'.map fun x=>(sh.cells x).map .i,true⟩) (A7 _ _ _) (fun i r j c hi hc=>?_)).trans (Cf hn.symm (fun t x hx=>.inr hx) fun j=>?_))))
 . rw [QJ] at hi;obtain ⟨x,_,rfl⟩:=QB.1 hi;rw [QJ] at hc;obtain ⟨z,_,rfl⟩:=QB.1 hc;exact ⟨z,rfl⟩
 . show A0 j (Ae (B3.box (A3 s'.boxes)) s'.boxes) = A0 j (Ag h _ (Ag h _ (Gx ks S3.boxes)));rw [Ac,hs'];by_cases e1:j = h
   . subst e1;rw [A7,A7];rfl
   . rw [A8 _ _ e1,A8 _ _ e1,A8 _ _ e1,Dd,Dd,l3];rw [List.any_append]
     cases hd:dl.any (Nat.beq j) with
     | true=>cases ks.any (Nat.beq j) <;> rfl
     | false =>
      cases hk:ks.any (Nat.beq j) with
      | true=>rfl
      | false =>
       show (A0 j s.boxes).map _ = A0 j S1.boxes;rw [hj j e1]
       cases hl:A0 j s.boxes with
       | none=>rfl
       | some b3 =>
        simp only [QP];congr 1
        have hjd:j ∉ dl:=fun hh=>by
         have:=XB.1 hd j hh;simp at this
        refine S9 fun k hk2=>?_
        have hkn:k ∉ dl ++ ks:=fun hh=>by rw [Jp hcl hl e1 hjd k (by simp only [QT];exact .inr hh)] at hk2;cases hk2
        have hka:(dl ++ ks).any (Nat.beq k) = false:=XB.2 fun x hx e=>hkn (QC e ▸ hx);by_cases e2:k = h
        . subst e2
          rw [Jp hcl hl e1 hjd k (by simp)] at hk2;cases hk2
        . simp only [A3];rw [A8 _ _ e2,Dd,hka];rfl
theorem De {L L':Nat->Nat} {ks:List Nat} {sl:List (Nat × SV)} (hL:∀ k,k ∉ ks->L' k = L k) {t:Nat} {x:S} (h:A0 t (Ae (SV.s L') (F7 ks sl)) = some x) :
  x = .dead \/ ∃ sv,A0 t sl = some sv /\ x = sv.s L /\ ∀ k ∈ ks,sv.men k = false:=by
 rw [Ac] at h;obtain ⟨z,hz,rfl⟩:=QB.1 h;unfold F7 at hz;rw [Ac] at hz;obtain ⟨sv,hsv,rfl⟩:=QB.1 hz
 cases hc:ks.any (fun k=>sv.men k) with
 | true=>exact .inl rfl
 | false =>
  have hno:∀ k ∈ ks,sv.men k = false:=fun k hk=>by
   have:=XB.1 hc k hk;simpa using this
  refine .inr ⟨sv,hsv,?_,hno⟩;simp only [cond]
  exact Aar fun k hk=>hL k fun hh=>by rw [hno k hh] at hk;cases hk
theorem Aji {r cs:List C} (h:r.length = cs.length):By r 0 cs = cs:=by
 unfold By
 rw [List.take_zero,KN,YD,ZC (by omega),XA]
theorem A9a (hT:Ao P T) {K:Ai} {o:Oper} {s s':St3} {nt:Nat} {g:Bool} (h:Pc T o s = some (g,s')) (hg:g = true):C2 P K o (s.st nt) (s'.st nt):=by
 unfold Pc at h;split at h
 . rename_i t a x hop hdst;split at h
   . rename_i ti hh row cs hti ha hx;split at h
     . rename_i e sh xs hl;split at h
       . rename_i g1 cs' ks ht;split at h
         . rename_i y hy
           cases hc:(Nat.beq ti.size sh.size && SV.fits3 ti (.agg cs) && Jh ks && P6 hh [] (hh :: ([] ++ ks)) s.boxes) with
           | false=>rw [hc] at h;cases h
           | true =>
            rw [hc] at h;simp only [cond,QD,QG] at h;obtain ⟨h1,rfl⟩:=h;rw [hg] at h1;simp only [QE,QQ] at h1 hc;obtain ⟨hg1,hrl⟩:=h1;obtain ⟨⟨⟨c1,c2⟩,c3⟩,c4⟩:=hc;have c1:=QC c1;obtain ⟨f1,f2,f3,f4,f5,f6⟩:=Mn (L:=A3 s.boxes) ht hg1 (Jg c3);have hva:(s.st nt).val a = .v (.one (.hp hh row 0)):=B5 ha rfl;have hvx:(s.st nt).val x = .v (.agg (cs.map (SV.c (A3 s.boxes)))):=B5 hx rfl
            let r0:List C:=(sh.cells (xs.getD row sh.dflt)).map .i
            have hr0:((B3.tree e sh false xs).box (A3 s.boxes)).rows[row]? = some r0:=by
             simp only [B3.box,QJ,QN hrl,QP,r0,QH,XP]
            have hbx:(s.st nt).box hh = some ((B3.tree e sh false xs).box (A3 s.boxes)):=by
             show A0 hh (Ae (B3.box (A3 s.boxes)) s.boxes) = _;rw [Ac,hl];rfl
            have hfit:(V.agg (cs.map (SV.c (A3 s.boxes)))).fits ti = true:=by
             have:=Ls (L:=A3 s.boxes) (ti:=ti) (x:=.agg cs);rw [c2] at this;exact this
            have hcl:(cs.map (SV.c (A3 s.boxes))).length = sh.size:=by
             have:=A79 hfit;simp only [V.cells] at this;rw [this,c1]
            have hsp:By r0 0 (cs.map (SV.c (A3 s.boxes))) = cs.map (SV.c (A3 s.boxes)):=Aji (by rw [hcl];simp [r0,Sh.cells_len])
            let b1:Box:={ (B3.tree e sh false xs).box (A3 s.boxes) with hf:=((B3.tree e sh false xs).box (A3 s.boxes)).hf && (cs.map (SV.c (A3 s.boxes))).all Bt,rows:=((B3.tree e sh false xs).box (A3 s.boxes)).rows.set row (cs.map (SV.c (A3 s.boxes))) }
            have hcore:Cb T (some r0) o (s.st nt) = some ⟨.dead,.set hh b1,[((B3.tree e sh false xs).box (A3 s.boxes)).rows[row]? = some r0]⟩:=by
             unfold Cb;rw [hop];simp only [H5,hti,hva,hvx,hbx]
             have hcnd:(Nat.ble (0 + ti.size) ((B3.tree e sh false xs).box (A3 s.boxes)).sz && (V.agg (cs.map (SV.c (A3 s.boxes)))).fits ti && !((B3.tree e sh false xs).box (A3 s.boxes)).fz && (!((B3.tree e sh false xs).box (A3 s.boxes)).tr || (V.agg (cs.map (SV.c (A3 s.boxes)))).cells.all C.okT)) = true:=by
              simp only [hfit,V.cells,f1,B3.box,YD,c1,Nat.ble_eq_true_of_le (QY _),ZF,XI,Bool.or_true]
             rw [hcnd];simp only [cond,V.cells,hsp];rfl
            have hstep:C1 P T K o { cells:=some r0 } (s.st nt) = some ({ s.st nt with boxes:=Ag hh b1 (s.st nt).boxes },[((B3.tree e sh false xs).box (A3 s.boxes)).rows[row]? = some r0] ++ [] ++ []):=by
             unfold C1;simp only [hcore,St.eff,St.putD,hdst,QP]
            refine (Cd hT hstep (fun p hp=>by
             rcases QF.1 hp with hp | hp
             . rcases QF.1 hp with hp | hp
               . rw [QR.1 hp];exact hr0
               . cases hp
             . cases hp)).weak ?_
            have hrow:row < ((B3.tree e sh false xs).box (A3 s.boxes)).rows.length:=by simpa [B3.box] using hrl
            have hL:∀ k,k ∉ ks->A3 (Ag hh (.tree e sh false (xs.set row y)) (Gx ks s.boxes)) k = A3 s.boxes k:=by
             intro k hk;unfold A3;by_cases e1:k = hh
             . subst e1;rw [A7,hl];simp [B3.len]
             . rw [A8 _ _ e1,Dd];have:ks.any (Nat.beq k) = false:=XB.2 fun z hz e2=>hk (QC e2 ▸ hz);rw [this];rfl
            refine Xl (dl:=[]) (h:=hh) (row:=row) (e:=e) (sh:=sh) (y:=y) (cs:=cs) (cs':=cs') (ks:=ks) (hf1:=b1.hf) (rows1:=b1.rows) (xs':=xs.set row y) rfl (fun t z hz=>?_) (fun k hk t z hz=>?_) (A7 _ _ _) (by show (_:List (List C))[row]? = _;exact ZP hrow) (fun i q j c hi hq hc=>?_) (fun j hj=>?_) ht hg1 c3 hy (fun k hk=>by simp at hk) (by simp) c4 rfl ?_ (fun _ _ _ _ _ _ k hk=>by simp at hk)
            . rcases De hL hz with rfl | ⟨sv,h2,rfl,_⟩
              . exact .inl rfl
              . refine .inr ?_;show A0 t (Ae (SV.s (A3 s.boxes)) s.slots) = _;rw [Ac,h2];rfl
            . rcases De hL hz with rfl | ⟨sv,h2,rfl,h3⟩
              . rfl
              . rw [Ps];exact h3 k (by simpa using hk)
            . have hq:(((B3.tree e sh false xs).box (A3 s.boxes)).rows.set row (cs.map (SV.c (A3 s.boxes))))[i]? = some q:=hq;rw [ZT (Ne.symm hi)] at hq;simp only [B3.box,QJ] at hq;obtain ⟨u,_,rfl⟩:=QB.1 hq;rw [QJ] at hc;obtain ⟨z,_,rfl⟩:=QB.1 hc;exact ⟨z,rfl⟩
            . show A0 j (Ag hh b1 (Ae (B3.box (A3 s.boxes)) s.boxes)) = _;rw [A8 _ _ hj,Ac]
            . show (((B3.tree e sh false xs).box (A3 s.boxes)).rows.set row _).set row _ = _;rw [Qar];simp only [B3.box,JO]
         . cases h
       . cases h
     . cases h
   . cases h
 . cases h
def B2z:SV->Option Nat
 | .hs tb 0 1=>some tb
 | .hw tb=>some tb
 | _=>none
def Ye (T:Ty) (K:Ai) (o:Oper) (s:St3):Option (Bool × St3) :=
 match o.op,o.dst with
 | .call c,some kd=>match c.callee,c.args.toList,c.argTypes.toList with
  | .builtin .append,[x,y],[t,t']=>match s.val x,B2z (s.val y),Ty.d T t with
   | .hw h,some tb,some (.slice e2)=>match A0 h s.boxes,A0 tb s.boxes,T e2 with
    | some (.tree e sh false xs),some (.var _ _ _ cs),some ei=>match Lh s.boxes h cs with
     | some (g,cs',ks)=>match sh.all false cs' with
      | some z=>bif Nat.beq t t' && Nat.beq e e2 && Nat.beq ei.size sh.size && Nat.ble 1 ei.size && Nat.ble 1 ei.bytes && Nat.blt h 1000 && Nat.blt tb 1000 && !Nat.beq tb h && !ks.any (Nat.beq tb) && Jh ks && Nat.beq cs.length sh.size && P6 h [tb] (h :: ([tb] ++ ks)) s.boxes && Nat.blt kd K.N then
        some (g && decide ((xs.length + 1) * ei.bytes <= 140737488355328),{ slots:=Ag kd (.hw h) (F7 (h :: ([tb] ++ ks)) s.slots),boxes:=Ag h (.tree e sh false (xs ++ [z])) (Gx ([tb] ++ ks) s.boxes) }) else none
      | none=>none
     | none=>none
    | _,_,_=>none
   | _,_,_=>none
  | _,_,_=>none
 | _,_=>none
theorem A75 {b:Box} {h:Nat} (hb:∀ (i:Nat) (r:List C) (j:Nat) (c:C),b.rows[i]? = some r->r[j]? = some c->c.men h = false):b.kill h = b:=by
 cases hf:b.hf with
 | true=>exact Ib hf
 | false =>
  have e:b.kill h = { b with rows:=b.rows.map fun r=>r.map fun c=>bif c.men h then .i .any else c }:=by unfold Box.kill;rw [hf];rfl
  have:(b.rows.map fun r=>r.map fun c=>bif c.men h then C.i .any else c) = b.rows:=by
   refine (ZE fun r hr=>?_).trans (List.map_id _);refine (ZE fun c hc=>?_).trans (List.map_id _);obtain ⟨i,hi⟩:=Qan.1 hr;obtain ⟨j,hj⟩:=Qan.1 hc;rw [hb i r j c hi hj];rfl
  rw [e,this]
theorem Axs {α:Type} {a:Array α} {x y:α} (h:a.toList = [x,y]):a = #[x,y]:=JQ h
theorem Afm (hT:Ao P T) {K:Ai} {o:Oper} {s s':St3} {nt:Nat} {g:Bool} (h:Ye T K o s = some (g,s')) (hg:g = true):C2 P K o (s.st nt) (s'.st nt):=by
 unfold Ye at h;split at h
 . rename_i c kd hop hdst;split at h
   . rename_i x y t t' hcal hargs htys;split at h
     . rename_i hh tb e2 hx hsrc hd;split at h
       . rename_i e sh xs e' hf' fz' cs ei hl hlt hei;split at h
         . rename_i g1 cs' ks ht;split at h
           . rename_i z hy
             cases hc:(Nat.beq t t' && Nat.beq e e2 && Nat.beq ei.size sh.size && Nat.ble 1 ei.size && Nat.ble 1 ei.bytes && Nat.blt hh 1000 && Nat.blt tb 1000 && !Nat.beq tb hh && !ks.any (Nat.beq tb) && Jh ks && Nat.beq cs.length sh.size && P6 hh [tb] (hh :: ([tb] ++ ks)) s.boxes && Nat.blt kd K.N) with
             | false=>rw [hc] at h;cases h
             | true =>
              rw [hc] at h;simp only [cond,QD,QG] at h;obtain ⟨h1,rfl⟩:=h;rw [hg] at h1;simp only [QE,QQ,ZJ] at h1 hc;obtain ⟨hg1,hby⟩:=h1;obtain ⟨⟨⟨⟨⟨⟨⟨⟨⟨⟨⟨⟨k1,k2⟩,k3⟩,k4⟩,k5⟩,k6⟩,k7⟩,k8⟩,k9⟩,k10⟩,k11⟩,k12⟩,k13⟩:=hc;obtain rfl:=QC k1;obtain rfl:=QC k2;have k3:=QC k3;have k4:=ZV k4;have k5:=ZV k5
              have k6:hh < 1000:=by simpa [ZO] using k6
              have k7:tb < 1000:=by simpa [ZO] using k7
              have k8:tb ≠ hh:=Jr k8
              have k9:tb ∉ ks:=fun hk=>by have:=XB.1 k9 tb hk;simp at this
              have k11:=QC k11;obtain ⟨f1,f2,f3,f4,f5,f6⟩:=Mn (L:=A3 s.boxes) ht hg1 (Jg k10)
              have hlh:A3 s.boxes hh = xs.length:=by simp [A3,hl,B3.len]
              have hlt1:A3 s.boxes tb = 1:=by simp [A3,hlt,B3.len]
              have hva:(s.st nt).val x = .v (.one (.hs hh 0 xs.length)):=by rw [B5 hx rfl,<- hlh];rfl
              have hvy:(s.st nt).val y = .v (.one (.hs tb 0 1)):=by
               unfold B2z at hsrc;split at hsrc
               . rename_i hv;obtain rfl:=QA hsrc;exact B5 hv rfl
               . rename_i hv;obtain rfl:=QA hsrc;rw [B5 hv rfl,<- hlt1];rfl
               . cases hsrc
              let b:Box:=(B3.tree e sh false xs).box (A3 s.boxes)
              let row:List C:=cs.map (SV.c (A3 s.boxes))
              let b1:Box:={ b with hf:=row.all Bt,rows:=b.rows ++ [row] }
              have hb:A0 hh (s.st nt).boxes = some b:=by
               show A0 hh (Ae (B3.box (A3 s.boxes)) s.boxes) = _;rw [Ac,hl];rfl
              have hbl:b.rows.length = xs.length:=by simp [b,B3.box]
              let X:S:=.v (.one (.hs hh 0 (xs.length + 1)))
              let S1:St:={ (s.st nt).app hh b1 with slots:=Ag kd X ((s.st nt).app hh b1).slots }
              have hput:((s.st nt).app hh b1).putD K o.dst X = some S1:=by
               rw [hdst];simp only [St.putD,k13,cond];rfl
              have hden:C2 P K o (s.st nt) S1:=by
               refine C2.of hput fun Γ w E a hK hs=>?_;have hvv:=hs.val_sound x;have hvu:=hs.val_sound y;rw [hva] at hvv;rw [hvy] at hvu
               have hbt:A0 tb (s.st nt).boxes = some ((B3.var e' hf' fz' cs).box (A3 s.boxes)):=by
                show A0 tb (Ae (B3.box (A3 s.boxes)) s.boxes) = _;rw [Ac,hlt];rfl
               obtain ⟨u',w',E',e1,e2,e3⟩:=Ax9 (P:=P) (ty:=o.type) hT hs hd hei k4 k5 hvv hb (by show sh.size = _;exact k3.symm) rfl rfl rfl rfl hbl.symm hvu hbt (by show cs.length = _;rw [k11,k3]) rfl (row:=row) rfl f1 f3 hby (.inl k6)
               refine ⟨_,u',w',E',?_,.inl rfl,e2,e3⟩;obtain ⟨dst,op,type,pos,after,guard⟩:=o;simp only at hop;subst hop;obtain ⟨callee,args,argTypes⟩:=c;simp only at hcal hargs htys;subst hcal;obtain rfl:=Axs hargs;obtain rfl:=Axs htys;simp [execOp,resolve,invoke,builtin,e1]
              refine hden.weak ?_
              have hL:∀ k,k ∉ hh :: ([tb] ++ ks)->A3 (Ag hh (.tree e sh false (xs ++ [z])) (Gx ([tb] ++ ks) s.boxes)) k = A3 s.boxes k:=by
               intro k hk;simp only [QT,not_or] at hk;unfold A3;rw [A8 _ _ hk.1,Dd];have:([tb] ++ ks).any (Nat.beq k) = false:=XB.2 fun q hq e2=>hk.2 (QC e2 ▸ hq);rw [this];rfl
              have hLh:A3 (Ag hh (.tree e sh false (xs ++ [z])) (Gx ([tb] ++ ks) s.boxes)) hh = xs.length + 1:=by
               unfold A3;rw [A7];simp [B3.len]
              have slot:∀ t' q,A0 t' (Ae (SV.s (A3 (Ag hh (.tree e sh false (xs ++ [z])) (Gx ([tb] ++ ks) s.boxes)))) (Ag kd (.hw hh) (F7 (hh :: ([tb] ++ ks)) s.slots))) = some q->(t' = kd /\ q = X) \/ (t' ≠ kd /\ (q = .dead \/ ∃ sv,A0 t' s.slots = some sv /\ q = sv.s (A3 s.boxes) /\ ∀ k ∈ hh :: ([tb] ++ ks),sv.men k = false)):=by
               intro t' q hq;rw [<- Co] at hq;by_cases e1:t' = kd
               . subst e1;rw [A7] at hq;refine .inl ⟨rfl,?_⟩;rw [<- QA hq];show S.v (.one (.hs hh 0 _)) = _;rw [hLh]
               . rw [A8 _ _ e1] at hq;exact .inr ⟨e1,De hL hq⟩
              refine Xl (dl:=[tb]) (h:=hh) (row:=xs.length) (e:=e) (sh:=sh) (y:=z) (cs:=cs) (cs':=cs') (ks:=ks) (hf1:=row.all Bt) (rows1:=b.rows ++ [row]) (xs':=xs ++ [z]) rfl (fun t' q hq=>?_) (fun k hk t' q hq=>?_) (A7 _ _ _) (by rw [QZ (by omega),hbl];simp;rfl) (fun i q j c' hi hq hc'=>?_) (fun j hj=>?_) ht hg1 k10 hy (fun k hk=>by obtain rfl:=QR.1 hk;exact ⟨k7,k8,k9⟩) (by simp) k12 rfl ?_ (fun i r j c' hi hc' k hk=>?_)
              . rcases slot t' q hq with ⟨rfl,rfl⟩ | ⟨hne,rfl | ⟨sv,h2,rfl,h3⟩⟩
                . exact .inr (A7 _ _ _)
                . exact .inl rfl
                . refine .inr ?_;show A0 t' (Ag kd X (Mu hh (Ae (SV.s (A3 s.boxes)) s.slots))) = _;rw [A8 _ _ hne];unfold Mu
                  rw [Yk (fun x=>bif S.men hh x then .dead else x),Ac,h2]
                  simp only [QP,Ps,h3 hh (by simp),cond]
              . rcases slot t' q hq with ⟨rfl,rfl⟩ | ⟨hne,rfl | ⟨sv,h2,rfl,h3⟩⟩
                . refine G1 fun e1=>?_;rcases QF.1 hk with hk | hk
                  . obtain rfl:=QR.1 hk;exact k8 e1.symm
                  . exact (f4 k hk).1.ne e1.symm
                . rfl
                . rw [Ps];exact h3 k (by simp only [QT];exact .inr hk)
              . have hlt2 : i < b.rows.length := by
                 have:=(QO.1 hq).1;simp at this;omega
                rw [QW hlt2] at hq;simp only [b,B3.box,QJ] at hq;obtain ⟨u,_,rfl⟩:=QB.1 hq;rw [QJ] at hc';obtain ⟨u2,_,rfl⟩:=QB.1 hc';exact ⟨u2,rfl⟩
              . show A0 j (Ag hh b1 (killB hh (Ae (B3.box (A3 s.boxes)) s.boxes))) = _;rw [A8 _ _ hj,Dc,Ac]
                cases hb3:A0 j s.boxes with
                | none=>rfl
                | some b3 =>
                 simp only [QP];congr 1;by_cases e1:j = tb
                 . subst e1;rw [hlt] at hb3;obtain rfl:=QA hb3;refine A75 fun i r j' c' hi hc'=>?_;simp only [B3.box] at hi
                   cases i with
                   | zero =>
                    obtain rfl:=QA hi;exact f3 c' (QU hc')
                   | succ i=>simp at hi
                 . exact A75 (H6 (Jp k12 hb3 hj (by simpa using e1) hh (by simp)))
              . rw [<- hbl];simp only [b,B3.box]
                rw [KB _ _ (by simp)]
                simp
              . obtain rfl:=QR.1 hk;by_cases hlt2:i < b.rows.length
                . rw [QW hlt2] at hi;simp only [b,B3.box,QJ] at hi;obtain ⟨u,_,rfl⟩:=QB.1 hi;rw [QJ] at hc';obtain ⟨u2,_,rfl⟩:=QB.1 hc';rfl
                . rw [QZ (by omega)] at hi
                  have hi0:i - b.rows.length = 0:=by have:=(QO.1 hi).1;simp at this;omega
                  rw [hi0] at hi;simp at hi;subst hi;obtain ⟨u,hu,rfl⟩:=ZN.1 (QU hc');rw [O2];exact f6 k k9 u hu
           . cases h
         . cases h
       . cases h
     . cases h
   . cases h
 . cases h
def Yd (sh:Sh) (k:Nat) (s:St3):Option St3 :=
 match A0 k s.boxes with
 | some (.rep e false n cs)=>match sh.all true cs with
  | some x=>bif (sh.cells x).all (fun c=>(C.i c).okT) then some { s with boxes:=Ag k (.tree e sh false (List.replicate n x)) s.boxes } else none
  | none=>none
 | some (.arr e sh' false [])=>bif Nat.beq sh.size sh'.size then some { s with boxes:=Ag k (.tree e sh false []) s.boxes } else none
 | _=>none
theorem Afl {sh:Sh} {k:Nat} {s s':St3} {nt:Nat} (h:Yd sh k s = some s'):Bs (s.st nt) (s'.st nt):=by
 have fin:∀ {b:B3} {e:TypeId} {sh0:Sh} {xs:List sh0.den},A0 k s.boxes = some b->xs.length = b.len->Af9 (b.box (A3 s.boxes)) ((B3.arr e sh0 false xs).box (A3 s.boxes)) ->
   (∀ x ∈ xs,(sh0.cells x).all (fun c=>(C.i c).okT) = true)->s' = { s with boxes:=Ag k (.tree e sh0 false xs) s.boxes }->Bs (s.st nt) (s'.st nt):=by
  intro b e sh0 xs hl hlen hsub hok hs';subst hs'
  have hL:A3 (Ag k (.tree e sh0 false xs) s.boxes) = A3 s.boxes:=by
   funext j;unfold A3;by_cases e1:j = k
   . subst e1;rw [A7,hl];exact hlen
   . rw [A8 _ _ e1]
  let ab:Box:=(B3.arr e sh0 false xs).box (A3 s.boxes)
  have hb:A0 k (s.st nt).boxes = some (b.box (A3 s.boxes)):=by
   show A0 k (Ae (B3.box (A3 s.boxes)) s.boxes) = _;rw [Ac,hl];rfl
  have w1:Bs (s.st nt) { s.st nt with boxes:=Ag k ab (s.st nt).boxes }:=fun Γ w E tmps hs=>by
   refine ⟨E,hs.sub rfl (fun t x hx=>⟨x,hx,fun _ _ _ h=>h⟩) (fun j b' hj=>?_) (fun j b' hj=>?_)⟩
   . by_cases e1:j = k
     . subst e1;have hj:A0 j (Ag j ab (s.st nt).boxes) = some b':=hj;rw [A7] at hj;obtain rfl:=QA hj;exact ⟨_,hb,hsub⟩
     . have hj:A0 j (Ag k ab (s.st nt).boxes) = some b':=hj;rw [A8 _ _ e1] at hj
       exact ⟨b',hj,⟨rfl,rfl,rfl,rfl,fun _=>rfl,rfl,fun i r hi=>⟨r,hi,rfl,fun j c hj=>⟨c,hj,Ea.refl c⟩⟩,fun hf i r j' c hi hc=>by
        obtain ⟨g,cap,_,⟨arr,_,_,_,_,_,_,hI,_⟩,_⟩:=hs.boxes j b' hj
        exact hI hf i r j' c hi hc⟩⟩
   . by_cases e1:j = k
     . subst e1;show (A0 j (Ag j ab (s.st nt).boxes)).isSome = true;rw [A7];rfl
     . show (A0 j (Ag k ab (s.st nt).boxes)).isSome = true;rw [A8 _ _ e1,hj];rfl
  have w2:Bs { s.st nt with boxes:=Ag k ab (s.st nt).boxes } { s.st nt with boxes:=Ag k { ab with tr:=true } (Ag k ab (s.st nt).boxes) }:=fun Γ w E tmps hs =>
   ⟨E,A99 hs (A7 _ _ _) rfl fun i r j c hi hc=>by
    simp only [ab,B3.box,QJ] at hi;obtain ⟨x,hx,rfl⟩:=QB.1 hi;rw [QJ] at hc;obtain ⟨y,hy,rfl⟩:=QB.1 hc
    exact QM.1 (hok x (QU hx)) y (QU hy)⟩
  refine w1.trans (w2.trans (Cf rfl (fun t x hx=>.inr ?_) fun j=>?_))
  . have hx:A0 t (Ae (SV.s (A3 (Ag k (.tree e sh0 false xs) s.boxes))) s.slots) = some x:=hx;rw [hL] at hx;exact hx
  . show A0 j (Ae (B3.box (A3 (Ag k (.tree e sh0 false xs) s.boxes))) (Ag k (.tree e sh0 false xs) s.boxes)) = A0 j (Ag k { ab with tr:=true } (Ag k ab (Ae (B3.box (A3 s.boxes)) s.boxes)));rw [hL,Ac];by_cases e1:j = k
    . subst e1;rw [A7,A7];rfl
    . rw [A8 _ _ e1,A8 _ _ e1,A8 _ _ e1,Ac]
 unfold Yd at h;split at h
 . rename_i e n cs hl;split at h
   . rename_i x hx
     cases hc:(sh.cells x).all (fun c=>(C.i c).okT) with
     | false=>rw [hc] at h;cases h
     | true =>
      rw [hc] at h;have hs':=(QA h).symm
      have hdec:(TB.arr e sh false).dec (.rep e false n cs) = some (List.replicate n x):=by
       simp only [TB.dec,XD,BEq.rfl,ZF,cond,hx,QP]
      obtain ⟨q1,q2⟩:=A3v (L:=A3 s.boxes) hdec
      refine fin (e:=e) (sh0:=sh) (xs:=List.replicate n x) hl (by simpa [TB.enc,B3.len] using q2) q1 (fun y hy=>?_) hs'
      rw [List.eq_of_mem_replicate hy];exact hc
   . cases h
 . rename_i e sh' hl
   cases hc:Nat.beq sh.size sh'.size with
   | false=>rw [hc] at h;cases h
   | true =>
    rw [hc] at h;have hs':=(QA h).symm
    exact fin (e:=e) (sh0:=sh) (xs:=[]) hl rfl ⟨rfl,QC hc,rfl,rfl,(fun e=>by cases e),rfl,(fun i r hi=>by simp [B3.box] at hi),fun _ i r j c hi=>by simp [B3.box] at hi⟩ (fun y hy=>by cases hy) hs'
 . cases h
end Go.Ev

/- DERIVED. A slice of a tree is taken out to be written, and put back, over shapes. -/
namespace Go.Ev
open Go
variable {P:Program} {T:Ty}
theorem C2.pre {K:Ai} {o:Oper} {s s1 s2:St} (hw:Bs s s1) (h:C2 P K o s1 s2):C2 P K o s s2:=fun Γ w E a ro n X hN hX hx hs next Q k=>by
 obtain ⟨E',hs'⟩:=hw Γ w E _ hs;exact h Γ w E' a ro n X hN hX hx hs' next Q k
def Ax4 {α:Type} (T:Ty) (K:Ai) (kk:Nat) (o:Oper) (s:St3) (k:St3->Option α):Option α :=
 match o.op,o.dst with
 | .load t a,some d=>match T t,s.val a with
  | some ti,.hp h row col=>match A0 h s.boxes with
   | some (.tree e sh false xs)=>match (sh.exp (xs.getD row sh.dflt))[col]? with
    | some (.d (.sl t') ys)=>bif Nat.beq ti.size 1 && !Df ti.d && Nat.ble (col + ti.size) sh.size && sh.flat && Nat.beq t'.size 1 && Nat.ble 2000 kk && (A0 kk s.boxes).isNone && s.clean kk && Nat.blt d K.N then
      (bif decide (row < xs.length) then (bif ys.isEmpty then k { s with slots:=Ag d (.d (.sl t') []) s.slots } else
       k { slots:=Ag d (.hw kk) s.slots,boxes:=Ag kk (.arr Ct t' false ys) (Ag h (.hole e sh false xs row col kk) s.boxes) }) else none) else none
    | _=>none
   | _=>none
  | _,_=>none
 | _,_=>none
theorem Aoe {y:I} (h:Sg y):y.flatSl:=by
 rcases h with ⟨v,rfl⟩ | ⟨nl,sz,rows,rfl,hl⟩
 . trivial
 . exact ⟨rfl,hl⟩
theorem F9 {sh:Sh} {xs:List sh.den} {row:Nat} (h:row < xs.length):(xs.map fun x=>(sh.cells x).map C.i)[row]? = some ((sh.cells (xs.getD row sh.dflt)).map .i):=by
 simp only [QJ,QN h,QP,QH,XP]
theorem Aev {sh:Sh} {x:sh.den} {col:Nat} {t':Sh} {ys:List t'.den} (h:(sh.exp x)[col]? = some (.d (.sl t') ys)):((sh.cells x).map C.i)[col]? = some (.i (.sl 0 false t'.size (ys.map t'.cells))):=by
 rw [<- Hs (fun _=>0),QJ,h];rfl
theorem Au8 {s:St3} {nt h row col kk:Nat} {e:TypeId} {sh:Sh} {xs:List sh.den} {t':Sh} {ys:List t'.den}
  (hl:A0 h s.boxes = some (.tree e sh false xs)) (hc:(sh.exp (xs.getD row sh.dflt))[col]? = some (.d (.sl t') ys)) (hrow:row < xs.length) (hfl:sh.flat = true) (h1:t'.size = 1)
  (hk:2000 <= kk) (hkn:A0 kk s.boxes = none) (hcl:s.clean kk = true) (hne:ys ≠ []) :
  Bs (s.st nt) ((⟨s.slots,Ag kk (.arr Ct t' false ys) (Ag h (.hole e sh false xs row col kk) s.boxes)⟩:St3).st nt):=by
 intro Γ w E tmps hs
 have hkh:h ≠ kk:=fun e=>by subst e;rw [hl] at hkn;cases hkn
 have hcell:=Aev hc;rw [h1] at hcell
 have hb:A0 h (s.st nt).boxes = some ((B3.tree e sh false xs).box (A3 s.boxes)):=by
  show A0 h (Ae (B3.box (A3 s.boxes)) s.boxes) = _;rw [Ac,hl];rfl
 obtain ⟨E',hs'⟩:=A49 hs hb rfl rfl hk (by show A0 kk (Ae _ s.boxes) = _;rw [Ac,hkn];rfl) (F9 hrow) hcell (by simpa using hne) (fun i q j y hi hj=>by
  simp only [B3.box,QJ] at hi;obtain ⟨x,_,rfl⟩:=QB.1 hi;rw [QJ] at hj;obtain ⟨z,hz,hzy⟩:=QB.1 hj;obtain rfl:=C.i.inj hzy
  exact Aoe (Aod sh x hfl z (QU hz)))
 simp only [St3.clean,QE,QM,ZJ] at hcl
 have hL:∀ k,k ≠ kk->A3 s.boxes k = A3 (Ag kk (.arr Ct t' false ys) (Ag h (.hole e sh false xs row col kk) s.boxes)) k:=by
  intro k hk;unfold A3;rw [A8 _ _ hk];by_cases e1:k = h
  . subst e1;rw [A7,hl];rfl
  . rw [A8 _ _ e1]
 refine Cf (s':=((⟨s.slots,Ag kk (.arr Ct t' false ys) (Ag h (.hole e sh false xs row col kk) s.boxes)⟩:St3).st nt)) (by rfl) (fun t x hx=>.inr ?_) (fun k=>?_) Γ w E' tmps hs'
 . have hx:A0 t (Ae (SV.s (A3 (Ag kk (.arr Ct t' false ys) (Ag h (.hole e sh false xs row col kk) s.boxes)))) s.slots) = some x:=hx;rw [Ac] at hx;obtain ⟨z,hz,rfl⟩:=QB.1 hx;show A0 t (Ae (SV.s (A3 s.boxes)) s.slots) = _;rw [Ac,hz];exact XR some (Vg hL (hcl.1 _ (C5 hz)))
 . show A0 k (Ae (B3.box (A3 (Ag kk (.arr Ct t' false ys) (Ag h (.hole e sh false xs row col kk) s.boxes)))) (Ag kk (.arr Ct t' false ys) (Ag h (.hole e sh false xs row col kk) s.boxes))) = A0 k (Ag kk _ (Ag h _ (Ae (B3.box (A3 s.boxes)) s.boxes)));rw [Ac];by_cases e1:k = kk
   . subst e1;rw [A7,A7];simp [B3.box,h1]
   . rw [A8 _ _ e1,A8 _ _ e1];by_cases e2:k = h
     . subst e2;rw [A7,A7]
       have hlk:A3 (Ag kk (.arr Ct t' false ys) (Ag k (.hole e sh false xs row col kk) s.boxes)) kk = ys.length:=by
        unfold A3;rw [A7];rfl
       simp only [QP,B3.box,hlk,Pk,QH,F9 hrow,XP,ZG]
     . rw [A8 _ _ e2,A8 _ _ e2,Ac]
       cases hz:A0 k s.boxes with
       | none=>rfl
       | some b=>exact XR some (Jq hL (hcl.2 _ (C5 hz))).symm
theorem B2p (hT:Ao P T) {α:Type} {K:Ai} {kk:Nat} {o:Oper} {s:St3} {nt:Nat} {k:St3->Option α} {r:α} (h:Ax4 T K kk o s k = some r) :
  ∃ s':St3,C2 P K o (s.st nt) (s'.st nt) /\ k s' = some r:=by
 unfold Ax4 at h;split at h
 . rename_i t a d hop hdst;split at h
   . rename_i ti hh row col hti ha;split at h
     . rename_i e sh xs hl;split at h
       . rename_i t' ys hc
         cases hcd:(Nat.beq ti.size 1 && !Df ti.d && Nat.ble (col + ti.size) sh.size && sh.flat && Nat.beq t'.size 1 && Nat.ble 2000 kk && (A0 kk s.boxes).isNone && s.clean kk && Nat.blt d K.N) with
         | false=>rw [hcd] at h;cases h
         | true =>
          rw [hcd] at h;simp only [cond] at h;simp only [QE] at hcd;obtain ⟨⟨⟨⟨⟨⟨⟨⟨c1,c2⟩,c3⟩,c4⟩,c5⟩,c6⟩,c7⟩,c8⟩,c9⟩:=hcd
          cases hrow:decide (row < xs.length) with
          | false=>rw [hrow] at h;cases h
          | true =>
           rw [hrow] at h;simp only at h;have hrow:=JD hrow;have hcell:=Aev hc
           cases hem:ys.isEmpty with
           | true =>
            rw [hem] at h;simp only at h;obtain rfl:=YI.1 hem;refine ⟨_,?_,h⟩;have hva:(s.st nt).val a = .v (.one (.hp hh row col)):=B5 ha rfl
            have hbx:(s.st nt).box hh = some ((B3.tree e sh false xs).box (A3 s.boxes)):=by
             show A0 hh (Ae (B3.box (A3 s.boxes)) s.boxes) = _;rw [Ac,hl];rfl
            have hr0:((B3.tree e sh false xs).box (A3 s.boxes)).rows[row]? = some ((sh.cells (xs.getD row sh.dflt)).map .i):=F9 hrow
            have hcore:Cb T (some ((sh.cells (xs.getD row sh.dflt)).map .i)) o (s.st nt) = some ⟨.v (.one (.i (.sl 0 false t'.size []))),.none,[((B3.tree e sh false xs).box (A3 s.boxes)).rows[row]? = some ((sh.cells (xs.getD row sh.dflt)).map .i)]⟩:=by
             unfold Cb;rw [hop];have hcell:((sh.cells (xs.getD row sh.dflt)).map C.i)[col]? = some (.i (.sl 0 false t'.size [])):=hcell;have c3':Nat.ble (col + ti.size) ((B3.tree e sh false xs).box (A3 s.boxes)).sz = true:=c3;have c4':((B3.tree e sh false xs).box (A3 s.boxes)).tr = true:=rfl;simp only [Et,hti,hva,hbx,hcell,c1,c2,c3',c4',C.okT,ZF,ZX,Bool.and_false,cond]
            have hstep:C1 P T K o { cells:=some ((sh.cells (xs.getD row sh.dflt)).map .i) } (s.st nt) = some ((⟨Ag d (.d (.sl t') []) s.slots,s.boxes⟩:St3).st nt,[((B3.tree e sh false xs).box (A3 s.boxes)).rows[row]? = some ((sh.cells (xs.getD row sh.dflt)).map .i)] ++ [] ++ []):=by
             unfold C1;simp only [hcore,St.eff,St.putD,hdst,c9,cond,QP];simp only [St3.st,<- Co];rfl
            exact Cd hT hstep (fun p hp=>by
             rcases QF.1 hp with hp | hp
             . rcases QF.1 hp with hp | hp
               . rw [QR.1 hp];exact hr0
               . cases hp
             . cases hp)
           | false =>
            rw [hem] at h;simp only at h;refine ⟨_,?_,h⟩
            have hne:ys ≠ []:=fun e=>by subst e;cases hem
            have c5:=QC c5
            have c7:A0 kk s.boxes = none:=by simpa using c7
            have hkh:hh ≠ kk:=fun e=>by subst e;rw [hl] at c7;cases c7
            refine (C2.pre (Au8 hl hc hrow c4 c5 (ZV c6) c7 c8 hne) ?_)
            let s1:St3:=⟨s.slots,Ag kk (.arr Ct t' false ys) (Ag hh (.hole e sh false xs row col kk) s.boxes)⟩
            have hva:(s1.st nt).val a = .v (.one (.hp hh row col)):=B5 (s:=s1) ha rfl
            have hl1:A0 hh s1.boxes = some (.hole e sh false xs row col kk):=by
             show A0 hh (Ag kk _ (Ag hh _ s.boxes)) = _;rw [A8 _ _ hkh,A7]
            have hbx:(s1.st nt).box hh = some ((B3.hole e sh false xs row col kk).box (A3 s1.boxes)):=by
             show A0 hh (Ae (B3.box (A3 s1.boxes)) s1.boxes) = _;rw [Ac,hl1];rfl
            have hlk:A3 s1.boxes kk = ys.length:=by unfold A3;show (match A0 kk (Ag kk _ _) with | some b=>B3.len b | none=>0) = _;rw [A7];rfl
            have hr0:((B3.hole e sh false xs row col kk).box (A3 s1.boxes)).rows[row]? = some (((sh.cells (xs.getD row sh.dflt)).map .i).set col (.hs kk 0 (A3 s1.boxes kk))):=by
             simp only [B3.box,Pk,QH,F9 hrow,XP]
             rw [ZP (by simpa using hrow)]
            have hcl2:(((sh.cells (xs.getD row sh.dflt)).map C.i).set col (.hs kk 0 (A3 s1.boxes kk)))[col]? = some (.hs kk 0 (A3 s1.boxes kk)):=ZP (QO.1 hcell).1
            have hcore:Cb T (some (((sh.cells (xs.getD row sh.dflt)).map .i).set col (.hs kk 0 (A3 s1.boxes kk)))) o (s1.st nt) = some ⟨.v (.one (.hs kk 0 (A3 s1.boxes kk))),.none,[((B3.hole e sh false xs row col kk).box (A3 s1.boxes)).rows[row]? = some (((sh.cells (xs.getD row sh.dflt)).map .i).set col (.hs kk 0 (A3 s1.boxes kk)))]⟩:=by
             unfold Cb;rw [hop];have c3':Nat.ble (col + ti.size) ((B3.hole e sh false xs row col kk).box (A3 s1.boxes)).sz = true:=c3;have c4':((B3.hole e sh false xs row col kk).box (A3 s1.boxes)).tr = true:=rfl;simp only [Et,hti,hva,hbx,hcl2,c1,c2,c3',c4',C.okT,ZF,ZX,Bool.and_false,cond]
            have hstep:C1 P T K o { cells:=some (((sh.cells (xs.getD row sh.dflt)).map .i).set col (.hs kk 0 (A3 s1.boxes kk))) } (s1.st nt) = some ((⟨Ag d (.hw kk) s1.slots,s1.boxes⟩:St3).st nt,[((B3.hole e sh false xs row col kk).box (A3 s1.boxes)).rows[row]? = some (((sh.cells (xs.getD row sh.dflt)).map .i).set col (.hs kk 0 (A3 s1.boxes kk)))] ++ [] ++ []):=by
             unfold C1;simp only [hcore,St.eff,St.putD,hdst,c9,cond,QP];simp only [St3.st,<- Co];rfl
            exact Cd hT hstep (fun p hp=>by
             rcases QF.1 hp with hp | hp
             . rcases QF.1 hp with hp | hp
               . rw [QR.1 hp];exact hr0
               . cases hp
             . cases hp)
       . cases h
     . cases h
   . cases h
 . cases h
def holeH (kk:Nat):List (Nat × B3)->Option Nat
 | []=>none
 | (h,.hole _ _ _ _ _ _ k) :: r=>bif Nat.beq k kk then some h else holeH kk r
 | _ :: r=>holeH kk r
def Aap (kk:Nat) (s:St3):Option (Bool × St3):=match holeH kk s.boxes with
 | none=>some (true,s)
 | some h=>match A0 h s.boxes with
  | some (.hole e sh false xs row col k0)=>match A0 kk s.boxes with
   | some (.arr e' t' false ys)=>match sh.all false ((sh.exp (xs.getD row sh.dflt)).set col (.d (.sl t') ys)) with
    | some z=>bif Nat.beq k0 kk && Nat.beq e' Ct && t'.lits && Nat.beq t'.size 1 && Nat.ble 2000 kk && !Nat.beq h kk && Nat.blt col sh.size && s.boxes.all (fun p=>Nat.beq p.1 h || Nat.beq p.1 kk || !p.2.men kk) then
      some (decide (row < xs.length),⟨F7 [kk] s.slots,Ag h (.tree e sh false (xs.set row z)) (Bp kk s.boxes)⟩) else none
    | none=>none
   | _=>none
  | _=>none
theorem An9 {kk:Nat} {s s':St3} {g:Bool} {nt:Nat} (h:Aap kk s = some (g,s')) (hg:g = true):Bs (s.st nt) (s'.st nt):=by
 unfold Aap at h;split at h
 . simp only [QD,QG] at h;obtain ⟨_,rfl⟩:=h;exact fun Γ w E tmps hs=>⟨E,hs⟩
 . rename_i hh _;split at h
   . rename_i e sh xs row col k0 hl;split at h
     . rename_i e' t' ys hlk;split at h
       . rename_i z hz
         cases hcd:(Nat.beq k0 kk && Nat.beq e' Ct && t'.lits && Nat.beq t'.size 1 && Nat.ble 2000 kk && !Nat.beq hh kk && Nat.blt col sh.size && s.boxes.all (fun p=>Nat.beq p.1 hh || Nat.beq p.1 kk || !p.2.men kk)) with
         | false=>rw [hcd] at h;cases h
         | true =>
          rw [hcd] at h;simp only [cond,QD,QG] at h;obtain ⟨h1,rfl⟩:=h;rw [hg] at h1;have hrow:=JD h1;simp only [QE,ZJ] at hcd;obtain ⟨⟨⟨⟨⟨⟨⟨c1,c2⟩,c3⟩,c4⟩,c5⟩,c6⟩,c7⟩,c8⟩:=hcd;obtain rfl:=QC c1;have c2:=QC c2;have c4:=QC c4;have c5:=ZV c5;have hne:hh ≠ k0:=Jr c6
          have c7:col < sh.size:=by simpa [ZO] using c7
          have nomen:∀ i b,i ≠ hh->i ≠ k0->A0 i s.boxes = some b->b.men k0 = false:=fun i b e1 e2 hb=>by
           have:=QM.1 c8 _ (C5 hb);simpa [G1 e1,G1 e2] using this
          intro Γ w E tmps hs
          have hlen0:A3 s.boxes k0 = ys.length:=by unfold A3;rw [hlk];rfl
          obtain ⟨E1,hs1⟩:=Cf (s:=s.st nt) (s':=⟨Ae (SV.s (A3 s.boxes)) (F7 [k0] s.slots),Ae (B3.box (A3 s.boxes)) s.boxes,nt⟩) rfl (fun t x hx=>by
           rcases De (L:=A3 s.boxes) (fun _ _=>rfl) hx with rfl | ⟨sv,h2,rfl,_⟩
           . exact .inl rfl
           . exact .inr (by show A0 t (Ae (SV.s (A3 s.boxes)) s.slots) = _;rw [Ac,h2];rfl)) (fun _=>rfl) Γ w E tmps hs
          have hr0:((B3.hole e sh false xs row col k0).box (A3 s.boxes)).rows[row]? = some (((sh.cells (xs.getD row sh.dflt)).map C.i).set col (.hs k0 0 (A3 s.boxes k0))):=by
           simp only [B3.box,Pk,QH,F9 hrow,XP]
           rw [ZP (by simpa using hrow)]
          have hcl:col < ((sh.cells (xs.getD row sh.dflt)).map C.i).length:=by simpa [Sh.cells_len] using c7
          have oldC:∀ (i:Nat) (q:List C) (j:Nat) (c:C),(xs.map fun x=>(sh.cells x).map C.i)[i]? = some q->q[j]? = some c->∃ y,c = .i y:=by
           intro i q j c hi hj;rw [QJ] at hi;obtain ⟨x,_,rfl⟩:=QB.1 hi;rw [QJ] at hj;obtain ⟨y,_,rfl⟩:=QB.1 hj;exact ⟨y,rfl⟩
          have rows2:(Pk (xs.map fun x=>(sh.cells x).map C.i) row col (.hs k0 0 (A3 s.boxes k0))).set row ((((sh.cells (xs.getD row sh.dflt)).map C.i).set col (.hs k0 0 (A3 s.boxes k0))).set col (.i (.sl 0 false t'.size (ys.map t'.cells)))) = (xs.set row z).map fun x=>(sh.cells x).map C.i:=by
           have a1:=(C6 hz).1 (A3 s.boxes);rw [JO,Hs] at a1;unfold Pk;rw [Qar,Qar,JO,<- a1];rfl
          obtain ⟨E2,hs2⟩:=Vc hs1 (h:=hh) (k:=k0) (row:=row) (col:=col) (len:=A3 s.boxes k0) (b:=(B3.hole e sh false xs row col k0).box (A3 s.boxes)) (bk:=(B3.arr e' t' false ys).box (A3 s.boxes))
           (r:=((sh.cells (xs.getD row sh.dflt)).map C.i).set col (.hs k0 0 (A3 s.boxes k0))) (ys:=ys.map t'.cells) (hf':=true)
           (by show A0 hh (Ae _ s.boxes) = _;rw [Ac,hl];rfl) rfl hne (.inr c5) (by show A0 k0 (Ae _ s.boxes) = _;rw [Ac,hlk];rfl) rfl rfl hr0 (ZP hcl)
           (by simp [B3.box,hlen0]) (by simp only [B3.box,XG];rfl) (fun i q j y hi hj=>by
            rw [QJ] at hi;obtain ⟨u,_,rfl⟩:=QB.1 hi
            exact A2e t' u c3 y (QU hj)) c2 c4
           (fun t x hx=>by
            rcases De (L:=A3 s.boxes) (fun _ _=>rfl) hx with rfl | ⟨sv,h2,rfl,h3⟩
            . rfl
            . rw [Ps];exact h3 k0 (by simp))
           (fun i b' h1 h2 hb=>by
            have hb:A0 i (Ae (B3.box (A3 s.boxes)) s.boxes) = some b':=hb;rw [Ac] at hb;obtain ⟨b3,hb3,rfl⟩:=QB.1 hb
            exact H6 (nomen i b3 h2 h1 hb3))
           (fun i q j c hi hj hn=>by
            simp only [B3.box,Pk,QH,F9 hrow,XP] at hi;by_cases e1:i = row
            . subst e1
              rw [ZP (by simpa using hrow)] at hi
              obtain rfl:=QA hi;by_cases e2:j = col
              . exact absurd ⟨rfl,e2⟩ hn
              . rw [ZT (Ne.symm e2)] at hj;obtain ⟨y,rfl⟩:=oldC i _ j c (F9 hrow) hj;rfl
            . rw [ZT (Ne.symm e1)] at hi;obtain ⟨y,rfl⟩:=oldC i q j c hi hj
              rfl)
           (fun _ i q j c hi hj=>by
            have hi:((Pk (xs.map fun x=>(sh.cells x).map C.i) row col (.hs k0 0 (A3 s.boxes k0))).set row ((((sh.cells (xs.getD row sh.dflt)).map C.i).set col (.hs k0 0 (A3 s.boxes k0))).set col (.i (.sl 0 false t'.size (ys.map t'.cells)))))[i]? = some q:=hi;rw [rows2,QJ] at hi;obtain ⟨x,_,rfl⟩:=QB.1 hi;rw [QJ] at hj;obtain ⟨y,_,rfl⟩:=QB.1 hj
            exact ⟨y,rfl⟩)
          have hL:∀ k,k ≠ k0->A3 s.boxes k = A3 (Ag hh (.tree e sh false (xs.set row z)) (Bp k0 s.boxes)) k:=by
           intro k hk;unfold A3;by_cases e1:k = hh
           . subst e1;rw [A7,hl];simp [B3.len]
           . rw [A8 _ _ e1,Ap hk]
          refine Cf (s':=(⟨F7 [k0] s.slots,Ag hh (.tree e sh false (xs.set row z)) (Bp k0 s.boxes)⟩:St3).st nt) (by rfl) (fun t x hx=>?_) (fun k=>?_) Γ w E2 tmps hs2
          . rcases De (L:=A3 s.boxes) (L':=A3 (Ag hh (.tree e sh false (xs.set row z)) (Bp k0 s.boxes))) (fun k hk=>(hL k (by simpa using hk)).symm) hx with rfl | ⟨sv,h2,rfl,h3⟩
            . exact .inl rfl
            . refine .inr ?_;show A0 t (Ae (SV.s (A3 s.boxes)) (F7 [k0] s.slots)) = _
              have h3:=h3 k0 (by simp)
              unfold F7;rw [Ac,Ac,h2];simp [h3]
          . show A0 k (Ae (B3.box (A3 (Ag hh (.tree e sh false (xs.set row z)) (Bp k0 s.boxes)))) (Ag hh (.tree e sh false (xs.set row z)) (Bp k0 s.boxes))) = A0 k (Ag hh _ (Bp k0 (Ae (B3.box (A3 s.boxes)) s.boxes)));rw [Ac];by_cases e1:k = hh
            . subst e1;rw [A7,A7];have rows2:_ = _:=rows2;simp only [QP,B3.box];rw [rows2]
            . rw [A8 _ _ e1,A8 _ _ e1];by_cases e2:k = k0
              . subst e2;rw [B9,B9];rfl
              . rw [Ap e2,Ap e2,Ac]
                cases hz:A0 k s.boxes with
                | none=>rfl
                | some b=>exact XR some (Jq hL (nomen k b e1 e2 hz)).symm
       . cases h
     . cases h
   . cases h
inductive Shut where
 | hole (kk:Nat)
 | ren (l:List (Nat × Nat))
 | stl (h j:Nat) (sh:Sh)
def Auo (a b:Nat) (s:St3):Option St3:=match A0 a s.boxes with
 | some x=>bif Nat.blt a 1000 && Nat.blt b 1000 && !Nat.beq a b && s.boxes.all (fun p=>!p.2.men a && (Nat.beq p.1 b || !p.2.men b)) then
   some ⟨Ae (fun v=>bif v.men b then .dead else v.ren3 (Sk a b)) s.slots,Ag b x (Bp a (Bp b s.boxes))⟩ else none
 | none=>none
def A9r:List (Nat × Nat)->St3->Option St3
 | [],s=>some s
 | (a,b) :: r,s=>(Auo a b s).bind (A9r r)
theorem Anr {b:Nat} {v:SV} (h:v.men b = false):v.ok3 (fun k=>!Nat.beq k b) = true:=by
 have c:∀ x:SV,x.menC b = false->x.okC (fun k=>!Nat.beq k b) = true:=fun x hx=>by
  cases x <;> first | rfl | (simp only [SV.menC] at hx;simp only [SV.okC,hx,XI])
 have v2:∀ x:SV,x.menV b = false->x.okV (fun k=>!Nat.beq k b) = true:=fun x hx=>by
  cases x with
  | agg cs=>exact QM.2 fun y hy=>c y (by have:=XB.1 hx y hy;simpa using this)
  | hw k=>exact c (.hw k) hx
  | hs k o l=>exact c (.hs k o l) hx
  | hp k o l=>exact c (.hp k o l) hx
  | _=>rfl
 cases v with
 | tup cs=>exact QM.2 fun y hy=>v2 y (by have:=XB.1 h y hy;simpa using this)
 | agg cs=>exact v2 (.agg cs) h
 | hw k=>exact c (.hw k) h
 | hs k o l=>exact c (.hs k o l) h
 | hp k o l=>exact c (.hp k o l) h
 | _=>rfl
theorem Ayq {a b:Nat} {s s':St3} {nt:Nat} (h:Auo a b s = some s'):Bs (s.st nt) (s'.st nt):=by
 unfold Auo at h;split at h
 . rename_i x hx
   cases hc:(Nat.blt a 1000 && Nat.blt b 1000 && !Nat.beq a b && s.boxes.all (fun p=>!p.2.men a && (Nat.beq p.1 b || !p.2.men b))) with
   | false=>rw [hc] at h;cases h
   | true =>
    rw [hc] at h;obtain rfl:=QA h;simp only [QE,ZJ] at hc;obtain ⟨⟨⟨c1,c2⟩,c3⟩,c4⟩:=hc
    have c1:a < 1000:=by simpa [ZO] using c1
    have c2:b < 1000:=by simpa [ZO] using c2
    have c3:a ≠ b:=Jr c3
    have nob:∀ k y,A0 k s.boxes = some y->y.men a = false /\ (k ≠ b->y.men b = false):=fun k y hy=>by
     have:=QM.1 c4 _ (Bz hy);simp only [QE,XL,ZJ] at this;exact ⟨this.1,fun hk=>this.2.resolve_left fun e=>hk (QC e)⟩
    let L:=A3 s.boxes
    let nb:List (Nat × B3):=Ag b x (Bp a (Bp b s.boxes))
    have lk:∀ k,A0 k nb = if k = b then some x else if k = a then none else A0 k s.boxes:=fun k=>by
     show A0 k (Ag b x (Bp a (Bp b s.boxes))) = _;by_cases e:k = b
     . subst e;rw [A7,QL rfl]
     . rw [A8 _ _ e,QK e];by_cases e2:k = a
       . subst e2;rw [B9,QL rfl]
       . rw [Ap e2,Ap e,QK e2]
    have hL:∀ k,k ≠ b->A3 nb (Sk a b k) = L k:=fun k hk=>by
     show (match A0 (Sk a b k) nb with | some b=>b.len | none=>0) = (match A0 k s.boxes with | some b=>b.len | none=>0)
     by_cases e:k = a
     . subst e;rw [Aje,lk,QL rfl,hx]
     . rw [Nw e,lk,QK hk,QK e]
    let S1:St:={ s.st nt with slots:=Ae (SV.s L) (F7 [b] s.slots) }
    have w1:Bs (s.st nt) S1:=Cf rfl (fun t z hz=>by
     rcases De (L:=L) (fun _ _=>rfl) hz with e | ⟨sv,h1,rfl,_⟩
     . exact .inl e
     . refine .inr ?_;show A0 t (Ae (SV.s L) s.slots) = _
       rw [Ac,h1];rfl) fun _=>rfl
    have nos:∀ t z,A0 t S1.slots = some z->z.men b = false:=fun t z hz=>by
     rcases De (L:=L) (fun _ _=>rfl) hz with rfl | ⟨sv,_,rfl,h3⟩
     . rfl
     . rw [Ps];exact h3 b (by simp)
    have w2:Bs S1 { S1 with boxes:=Bp b S1.boxes }:=Aa7 c2 nos fun k y hk hy=>by
     have hy:A0 k (Ae (B3.box L) s.boxes) = some y:=hy;rw [Ac] at hy;obtain ⟨y3,h3,rfl⟩:=QB.1 hy;exact H6 ((nob k y3 h3).2 hk)
    let S2:St:={ S1 with boxes:=Bp b S1.boxes }
    refine w1.trans (w2.trans ?_)
    have bx:∀ k,A0 k (Ae (B3.box (A3 nb)) nb) = if k = b then A0 a S2.boxes else if k = a then none else A0 k S2.boxes:=fun k=>by
     have same:∀ j y,A0 j s.boxes = some y->(j ≠ b->y.box (A3 nb) = y.box L):=fun j y hy hj=>by
      refine S9 fun q hq=>?_;have n1:=nob j y hy
      have qa:q ≠ a:=fun e=>by subst e;rw [n1.1] at hq;cases hq
      have qb:q ≠ b:=fun e=>by subst e;rw [n1.2 hj] at hq;cases hq
      have:=hL q qb
      rwa [Nw qa] at this
     rw [Ac,lk]
     show _ = if k = b then A0 a (Bp b (Ae (B3.box L) s.boxes)) else if k = a then none else A0 k (Bp b (Ae (B3.box L) s.boxes))
     by_cases e:k = b
     . rw [QL e,QL e,Ap c3,Ac,hx];simp only [QP];rw [same a x hx c3]
     . rw [QK e,QK e];by_cases e2:k = a
       . rw [QL e2,QL e2];rfl
       . rw [QK e2,QK e2,Ap e,Ac]
         cases hy:A0 k s.boxes with
         | none=>rfl
         | some y=>simp only [QP];rw [same k y hy e]
    refine Au7 (s:=S2) c1 c2 c3 (B9 _ _) (fun t z hz=>?_) bx (fun k y hy=>?_)
    . have hz:A0 t (Ae (SV.s (A3 nb)) (Ae (fun v=>bif v.men b then .dead else v.ren3 (Sk a b)) s.slots)) = some z:=hz
      rw [Ac,Ac,Option.map_map] at hz;obtain ⟨v,hv,rfl⟩:=QB.1 hz
      refine ⟨(bif v.men b then SV.dead else v).s L,?_,?_⟩
      . show A0 t (Ae (SV.s L) (Ae (fun x=>bif [b].any (fun k=>x.men k) then .dead else x) s.slots)) = _
        rw [Ac,Ac,hv];simp only [QP,YY,List.any_nil,Qbg]
      . simp only [Function.comp]
        cases hm:v.men b with
        | true=>rfl
        | false =>
         exact Anf (p:=fun k=>!Nat.beq k b) (fun k hk=>hL k (Jr (by simpa using hk))) (Anr hm)
    . have hy:A0 k (Bp b (Ae (B3.box L) s.boxes)) = some y:=hy;by_cases e:k = b
      . subst e;rw [B9] at hy;cases hy
      . rw [Ap e,Ac] at hy;obtain ⟨y3,h3,rfl⟩:=QB.1 hy;exact H6 (nob k y3 h3).1
 . cases h
theorem Aav {nt:Nat}:∀ {l:List (Nat × Nat)} {s s':St3},A9r l s = some s'->Bs (s.st nt) (s'.st nt)
 | [],s,s',h=>by obtain rfl:=QA h;exact fun Γ w E tmps hs=>⟨E,hs⟩
 | (a,b) :: r,s,s',h=>by
  simp only [A9r,YM] at h;obtain ⟨s1,h1,h2⟩:=h;exact (Ayq h1).trans (Aav h2)
def Aui (h j:Nat) (sh:Sh) (s:St3):Option (Bool × St3):=match A0 h s.boxes with
 | some (.var e hf fz cs)=>match cs[j]? with
  | some c=>match E8 s.boxes sh c with
   | some (g,x,ks)=>bif sh.one && !ks.any (Nat.beq h) then some (g,⟨s.slots,Ag h (.var e ((cs.set j (.d sh x)).all SV.isD) fz (cs.set j (.d sh x))) (Be s.boxes ks)⟩) else none
   | none=>none
  | none=>none
 | _=>none
theorem Ayk {h j:Nat} {sh:Sh} {s s':St3} {g:Bool} {nt:Nat} (hh:Aui h j sh s = some (g,s')) (hg:g = true):Bs (s.st nt) (s'.st nt):=by
 unfold Aui at hh;split at hh
 . rename_i e hf fz cs hl;split at hh
   . rename_i c hc;split at hh
     . rename_i g0 x ks hcv
       cases hb:(sh.one && !ks.any (Nat.beq h)) with
       | false=>rw [hb] at hh;cases hh
       | true =>
        rw [hb] at hh;simp only [cond,QD,QG] at hh;obtain ⟨rfl,rfl⟩:=hh;simp only [QE,ZJ] at hb;obtain ⟨h1,h2⟩:=hb;obtain ⟨q1,⟨ob,q2,q3⟩,q4⟩:=Va h1 hcv hg
        have hn:h ∉ ks:=fun hk=>by have:=XB.1 h2 h hk;simp at this
        let L:=A3 s.boxes
        let nb:B3:=.var e ((cs.set j (.d sh x)).all SV.isD) fz (cs.set j (.d sh x))
        have hbx:A0 h (s.st nt).boxes = some ((B3.var e hf fz cs).box L):=by
         show A0 h (Ae (B3.box L) s.boxes) = _;rw [Ac,hl];rfl
        have ex:(SV.d sh x).c L = .i (hd1 (sh.cells x)):=rfl
        have hw:=Au6 (s:=s.st nt) (h:=h) (row:=0) (j:=j) (b:=(B3.var e hf fz cs).box L) (r:=cs.map (SV.c L)) (c:=c.c L) (c':=.i (hd1 (sh.cells x))) (obs:=ob) (ks:=ks) (hf':=(cs.set j (.d sh x)).all SV.isD) hbx rfl rfl
         (by rw [QJ,hc];rfl) q2 q3 (S7 q4) hn (fun hall i q l d hi hd=>by
          cases i with
          | zero =>
           have hi:some ((cs.map (SV.c L)).set j (.i (hd1 (sh.cells x)))) = some q:=hi;obtain rfl:=QA hi;rw [<- ex,<- JO,QJ] at hd;obtain ⟨y,hy,rfl⟩:=QB.1 hd;have:=QM.1 hall y (QU hy)
           cases y with
           | d t z=>exact ⟨_,rfl⟩
           | _=>cases this
          | succ i=>simp [B3.box] at hi)
        refine hw.trans (Cf rfl (fun t z hz=>.inr ?_) fun k=>?_)
        . have hz:A0 t (Ae (SV.s (A3 (Ag h nb (Be s.boxes ks)))) s.slots) = some z:=hz
          have hL:A3 (Ag h nb (Be s.boxes ks)) = L:=by
           funext k;unfold A3;by_cases e1:k = h
           . subst e1;rw [A7];show (1:Nat) = A3 s.boxes k;simp [A3,hl,B3.len]
           . rw [A8 _ _ e1];show A3 (Be s.boxes ks) k = L k;rw [Ci]
          rw [hL] at hz;exact hz
        . have hL : A3 (Ag h nb (Be s.boxes ks)) = L := by
           funext k;unfold A3;by_cases e1:k = h
           . subst e1;rw [A7];show (1:Nat) = A3 s.boxes k;simp [A3,hl,B3.len]
           . rw [A8 _ _ e1];show A3 (Be s.boxes ks) k = L k;rw [Ci]
          show A0 k (Ae (B3.box (A3 (Ag h nb (Be s.boxes ks)))) (Ag h nb (Be s.boxes ks))) = A0 k (Ag h _ (At (Ae (B3.box L) s.boxes) ks));rw [hL,Fn];by_cases e1:k = h
          . subst e1;rw [Ac,A7,A7];simp only [QP,nb,B3.box,JO,JK];rfl
          . rw [Ac,A8 _ _ e1,A8 _ _ e1,Ac]
     . cases hh
   . cases hh
 . cases hh
def Axi:Shut->St3->Option (Bool × St3)
 | .hole kk,s=>Aap kk s
 | .ren l,s=>(A9r l s).map fun s'=>(true,s')
 | .stl h j sh,s=>Aui h j sh s
theorem Aul {k:Shut} {s s':St3} {g:Bool} {nt:Nat} (h:Axi k s = some (g,s')) (hg:g = true):Bs (s.st nt) (s'.st nt):=by
 cases k with
 | hole kk=>exact An9 h hg
 | ren l =>
  obtain ⟨s1,h1,h2⟩:=QB.1 h;obtain ⟨_,rfl⟩:=KE h2;exact Aav h1
 | stl h0 j sh=>exact Ayk h hg
end Go.Ev

/- DERIVED. Code over shapes: all paths, in one expression. -/
namespace Go.Ev
open Go
variable {P:Program} {T:Ty}
structure OA where
 ent:Option Ent:=none
 sh:Option Sh:=none
 fz:List (Nat × Sh):=[]
 entB:Option Ent3:=none
 hb:Nat:=0
 tr:Option Sh:=none
 alt:List Ent3:=[]
 bor:Option Nat:=none
 shut:Option Shut:=none
def OA.two (a:OA):Bool:=(a.ent.isSome && a.entB.isSome) || !a.alt.isEmpty || (a.bor.isSome || a.shut.isSome)
theorem OA.two_false {a:OA} (h:a.two = false):(a.ent.isSome && a.entB.isSome) = false /\ a.alt = [] /\ a.bor = none /\ a.shut = none:=by
 unfold OA.two at h;simp only [Bool.or_eq_false_iff,Bool.not_eq_false'] at h
 exact ⟨h.1.1,YI.1 h.1.2,by simpa using h.2.1,by simpa using h.2.2⟩
structure RA where
 m:Nat:=0
 fz:List (Nat × Sh):=[]
 ops:List (Nat × OA):=[]
@[reducible] def KS (α:Type):List (Exit × Tm)->Type
 | []=>Unit
 | (_,X) :: r=>(X.den->Option α) × KS α r
def Lq {α:Type} (k:Exit->St3->Option α):(l:List (Exit × Tm))->KS α l
 | []=>()
 | (x,X) :: r=>(fun w=>k x (X.enc w),Lq k r)
def Exit.eqb:Exit->Exit->Bool
 | .normal,.normal=>true
 | .ret,.ret=>true
 | .exit i,.exit j=>Nat.beq i j
 | _,_=>false
theorem Exit.eqb_eq {a b:Exit} (h:Exit.eqb a b = true):a = b:=by
 unfold Exit.eqb at h;split at h
 . rfl
 . rfl
 . rw [QC h]
 . cases h
def Ke {α:Type}:(l:List (Exit × Tm))->KS α l->Exit->St3->Option α
 | [],_,_,_=>none
 | (x,X) :: r,ks,y,s=>bif Exit.eqb x y then (match X.dec s with
  | some w=>ks.1 w
  | none=>none) else Ke r ks.2 y s
structure LO (α:Type) where
 H:Tm
 outs:List (Exit × Tm)
 run:H.den->KS α outs->Option α
structure D3 (α:Type) where
 reg:List (Nat × RA):=[]
 join:List (Nat × Tm):=[]
 loop:List (Nat × LO α):=[]
 any:List (Nat × Tm):=[]
def Bx:Code->Nat
 | .region id _ _=>id
 | .seq c d=>match Bx c with
  | 0=>Bx d
  | n + 1=>n + 1
 | .cond _ c d=>match Bx c with
  | 0=>Bx d
  | n + 1=>n + 1
 | .block _ c=>Bx c
 | .loop c=>Bx c
 | .rangeFunc _ _ a b=>match Bx a with
  | 0=>Bx b
  | n + 1=>n + 1
 | _=>0
def Xk {α:Type} (k:Nat) (x:α):List (Nat × α)->List (Nat × α)
 | []=>[]
 | (j,y) :: r=>bif Nat.beq j k then (j,x) :: r else (j,y) :: Xk k x r
def Gm {α:Type}:List (Nat × Sh)->St3->(St3->Option α)->Option α
 | [],s,k=>k s
 | (t,sh) :: r,s,k=>match Kv s t sh with
  | some (g,s1)=>bif g then Gm r s1 k else none
  | none=>none
def ob {α β:Type} (x:Option β) (k:β->Option α):Option α:=match x with
 | some r=>k r
 | none=>none
def gd {α:Type} (g:Bool) (x:Option α):Option α:=bif g then x else none
abbrev W (x:Int):Int:=IntKind.i64.wrap x
def X9 (T:Ty) (K:Ai) (A:OA) (o:Oper) (s:St3):Option (Bool × St3) :=
 match J9 T A.sh o s with
 | some r=>match s.eff3 K o.dst r.eff with
  | some s1=>match s1.put3 K o.dst r.val with
   | some s'=>match A.tr with
    | none=>some (r.g,s')
    | some sh=>match o.dst with
     | some d=>(Yd sh d s').map fun s2=>(r.g,s2)
     | none=>none
   | none=>none
  | none=>none
 | none=>match Pc T o s with
  | some q=>some q
  | none=>Ye T K o s
def Af5:List Ent3->Oper->St3->Option Ent3
 | [],_,_=>none
 | E :: r,o,s=>match Hy E.f E.ts o s with
  | some _=>some E
  | none=>Af5 r o s
theorem Af4:∀ {l:List Ent3} {o:Oper} {s:St3} {E:Ent3},Af5 l o s = some E->E ∈ l
 | [],_,_,_,h=>by cases h
 | F :: r,o,s,E,h=>by
  simp only [Af5] at h;split at h
  . cases h;exact YO
  . exact ZU _ (Af4 h)
def Ny {α:Type} (T:Ty) (K:Ai) (A:OA) (o:Oper) (s:St3) (k:St3->Option α):Option α :=
 match Af5 A.alt o s with
 | some E=>Nx K E A.hb o s k
 | none=>match A.ent with
 | some E=>match Nf E o s with
  | some (g,x)=>bif g then ob (E.m x) (fun r=>match s.put3 K o.dst (Aq E.rs r) with
    | some s'=>k s'
    | none=>none) else none
  | none=>match A.entB with
   | some F=>Nx K F A.hb o s k
   | none=>none
 | none=>match A.entB with
 | some E=>Nx K E A.hb o s k
 | none=>match X9 T K A o s with
  | some (g,s')=>bif g then k s' else none
  | none=>none
def Ph {α:Type} (T:Ty) (K:Ai) (A:OA) (o:Oper) (s:St3) (k:St3->Option α):Option α :=
 match A.bor with
 | some kk=>Ax4 T K kk o s k
 | none=>match A.shut with
  | none=>Ny T K A o s k
  | some kk=>Ny T K A o s fun s1=>match Axi kk s1 with
   | some (g,s2)=>bif g then k s2 else none
   | none=>none
def A9p {α:Type} (K:Ai) (o:Oper) (s:St3) (k:St3->Option α):Option α :=
 match s.put3 K o.dst (.tup []) with
 | some s'=>k s'
 | none=>none
def Tx {α:Type} (ops:List Oper) (o:Oper) (s:St3) (f g:St3->Option α):Option α :=
 match o.guard with
 | none=>f s
 | some (j,want)=>match ops[j]? with
  | some p=>match p.dst with
   | some t=>match A0 t s.slots with
    | some (.d .bool b)=>bif b then
      (bif want then f { s with slots:=Xk t (.d .bool true) s.slots } else g { s with slots:=Xk t (.d .bool true) s.slots }) else
      (bif want then g { s with slots:=Xk t (.d .bool false) s.slots } else f { s with slots:=Xk t (.d .bool false) s.slots })
    | some (.tup [])=>g s
    | _=>none
   | none=>none
  | none=>none
def Gn {α:Type} (T:Ty) (K:Ai) (ops:List Oper) (A:List (Nat × OA)):List (Nat × Oper)->St3->(St3->Option α)->Option α
 | [],s,k=>k s
 | (i,o) :: r,s,k=>Gm ((A0 i A).getD {}).fz s fun s0=>Tx ops o s0 (fun s1=>Ph T K ((A0 i A).getD {}) o s1 fun s2=>Gn T K ops A r s2 k) (fun s1=>A9p K o s1 fun s2=>Gn T K ops A r s2 k)
def OA.quiet (T:Ty) (A:OA) (o:Oper) (s:St3):Bool :=
 A.fz.isEmpty && A.tr.isNone && A.alt.isEmpty && (A.bor.isNone && A.shut.isNone) && (match A.entB with | some _=>false | none=>true) && (match o.dst with | some _=>true | none=>false) && (match A.ent with
 | some _=>true
 | none=>match J9 T A.sh o s with
  | some r=>match r.eff with
   | .none=>true
   | _=>false
  | none=>false)
def Aaz {α:Type} (T:Ty) (K:Ai) (ops:List Oper) (A:List (Nat × OA)):List (Nat × Oper)->St3->(St3->Option α)->Option α
 | [],s,k=>k s
 | (i,o) :: r,s,k=>Tx ops o s
   (fun s1=>bif OA.quiet T ((A0 i A).getD {}) o s1 then Ph T K ((A0 i A).getD {}) o s1 (fun s2=>Aaz T K ops A r s2 k) else none)
   (fun s1=>bif o.dst.isSome then A9p K o s1 (fun s2=>Aaz T K ops A r s2 k) else none)
def Auq {α:Type} (P:Program) (T:Ty) (K:Ai) (A:RA) (ops:Array Oper) (draw:Bool) (s:St3) (k:St3->Option α):Option α :=
 bif draw then
  bif Dh ops A.m then Gm A.fz s fun s0=>Aaz T K ops.toList A.ops ((A9 ops.toList).take A.m) s0 fun s1=>Gn T K ops.toList A.ops ((A9 ops.toList).drop A.m) s1 k else none
 else Gn T K ops.toList A.ops (A9 ops.toList) s k
def Aa:Code->List (Nat × Code)
 | .seq c d=>Aa c ++ Aa d
 | .cond _ c d=>Aa c ++ Aa d
 | .block _ c=>Aa c
 | .loop c=>[(Bx c,.loop c)]
 | .rangeFunc f ps a b=>[(match Bx a with | 0=>Bx b | n + 1=>n + 1,.rangeFunc f ps a b)]
 | _=>[]
def Ax:Code->List (Nat × Array Oper)
 | .seq c d=>Ax c ++ Ax d
 | .cond _ c d=>Ax c ++ Ax d
 | .block _ c=>Ax c
 | .loop c=>Ax c
 | .region id ops true=>[(id,ops)]
 | _=>[]
def Se (id:Nat):List (Nat × Tm)->List Tm
 | []=>[]
 | (i,X) :: r=>bif Nat.beq i id then X :: Se id r else Se id r
def A9s {α:Type} (s:St3) (f:(X:Tm)->X.den->Option α):List Tm->Option α
 | []=>none
 | X :: r=>match X.dec s with
  | some w=>f X w
  | none=>A9s s f r
def B8 {α:Type} (P:Program) (T:Ty) (K:Ai) (D:D3 α):Code->St3->(Exit->St3->Option α)->Option α
 | .skip,s,k=>k .normal s
 | .region id ops draw,s,k=>match Se id D.any with
  | []=>Auq P T K ((A0 id D.reg).getD {}) ops draw s (k .normal)
  | X :: r=>bif draw then A9s s (fun X w=>Gn T K ops.toList ((A0 id D.reg).getD {}).ops (A9 ops.toList) (X.enc w) (k .normal)) (X :: r) else none
 | .seq c d,s,k=>match A0 (Bx d) D.join with
  | none=>B8 P T K D c s fun x s1=>match x with
   | .normal=>B8 P T K D d s1 k
   | x=>k x s1
  | some X=>(fun (J:X.den->Option α)=>B8 P T K D c s fun x s1=>match x with
   | .normal=>match X.dec s1 with
    | some w=>J w
    | none=>none
   | x=>k x s1) fun w=>B8 P T K D d (X.enc w) k
 | .cond (.tmp t) c d,s,k=>match A0 t s.slots with
  | some (.d .bool b)=>bif b then B8 P T K D c { s with slots:=Xk t (.d .bool true) s.slots } k else B8 P T K D d { s with slots:=Xk t (.d .bool false) s.slots } k
  | _=>none
 | .block id c,s,k=>B8 P T K D c s fun x s1=>match x with
  | .exit j=>bif Nat.beq j id then k .normal s1 else k (.exit j) s1
  | x=>k x s1
 | .loop c,s,k=>match A0 (Bx c) D.loop with
  | some L=>match L.H.dec s with
   | some v=>L.run v (Lq k L.outs)
   | none=>bif (Aa c).isEmpty then B8 P T K D c s fun x s1=>match x with
    | .normal=>match L.H.dec s1 with
     | some v=>L.run v (Lq k L.outs)
     | none=>none
    | x=>k x s1 else none
  | none=>none
 | .rangeFunc _ _ a b,s,k=>match A0 (match Bx a with | 0=>Bx b | n + 1=>n + 1) D.loop with
  | some L=>match L.H.dec s with
   | some v=>L.run v (Lq k L.outs)
   | none=>none
  | none=>none
 | .exit id,s,k=>k (.exit id) s
 | .ret,s,k=>k .ret s
 | _,_,_=>none
def A5 {α:Type} {V Ks:Type} (B:V->(V->Option α)->Ks->Option α):Nat->V->Ks->Option α
 | 0,_,_=>none
 | n + 1,v,ks=>B v (fun v'=>A5 B n v' ks) ks
def A3w {α:Type} (H:Tm) (outs:List (Exit × Tm)) (f:H.den->Option α) (ks:KS α outs) (x:Exit) (s:St3):Option α :=
 match x with
 | .normal=>match H.dec s with
  | some v=>f v
  | none=>none
 | x=>Ke outs ks x s
def A4f (T:Ty) (s:St3):ResultVar->Option SV
 | .tmp t=>A0 t s.slots
 | .cell a t=>match s.val (.tmp a) with
  | .hp h row col=>match A0 h s.boxes with
   | some (.var _ _ _ _)=>match Vm T t (.hp h row col) s.boxes with
    | some r=>some r.val
    | none=>none
   | _=>none
  | _=>none
def Tk (T:Ty) (s:St3) (rv:ResultVar) (t:Sh):Option (Bool × t.den × List Nat) :=
 match A4f T s rv with
 | some v=>V8 s.boxes t v
 | none=>none
def Hf (T:Ty) (s:St3):(ts:List Sh)->List ResultVar->Option (Bool × HL ts)
 | [],[]=>some (true,())
 | [t],[rv]=>match Tk T s rv t with
  | some (g,x,_)=>some (g,x)
  | none=>none
 | t :: u :: r,rv :: rvs=>match Tk T s rv t,Hf T s (u :: r) rvs with
  | some (g,x,_),some (g',xs)=>some (g && g',(x,xs))
  | _,_=>none
 | _,_=>none
def Avd (T:Ty) (rs:List Sh) (rvs:List ResultVar) (x:Exit) (s:St3):Option (HL rs) :=
 match x with
 | .exit _=>none
 | .normal=>match Hf T s rs rvs with
  | some (g,y)=>bif g then some y else none
  | none=>none
 | .ret=>match Hf T s rs rvs with
  | some (g,y)=>bif g then some y else none
  | none=>none
 | _=>none
def Eg (i:Nat):List SV->List (Nat × SV)
 | []=>[]
 | x :: r=>(i,x) :: Eg (i + 1) r
def V5 (ts:List Sh) (x:HL ts):St3:=⟨Eg 0 (Dv ts x),[]⟩
end Go.Ev

/- DERIVED. Code over shapes is what the code does. -/
namespace Go.Ev
open Go
variable {P:Program} {T:Ty} {α:Type}
theorem An0 {f:SV->S} {t:Nat} {x y:SV} (hxy:f x = f y):∀ {l:List (Nat × SV)},A0 t l = some y->Ae f (Xk t x l) = Ae f l
 | [],h=>by cases h
 | (j,z) :: r,h=>by
  simp only [A0] at h;simp only [Xk]
  cases hb:Nat.beq j t with
  | true =>
   rw [hb] at h;simp only [cond,QD] at h;subst h;simp [Ae,hxy]
  | false =>
   rw [hb] at h;have:=An0 hxy h;simp only [Ae] at this;simp [Ae,this]
theorem Ni {nt:Nat}:∀ {l:List (Nat × Sh)} {s:St3} {k:St3->Option α} {r:α},Gm l s k = some r->∃ s' fz ob,Dx fz (s.st nt) = some (s'.st nt,ob) /\ (∀ p ∈ ob,p) /\ k s' = some r /\ (l = []->fz = [] /\ s' = s)
 | [],s,k,r,h=>⟨s,[],[],rfl,by simp,h,fun _=>⟨rfl,rfl⟩⟩
 | (t,sh) :: l,s,k,r,h=>by
  simp only [Gm] at h;split at h
  . rename_i g s1 hs
    cases g with
    | false=>cases h
    | true =>
     obtain ⟨x',ob,h1,h2⟩:=Pj (nt:=nt) hs rfl;obtain ⟨s2,fz,ob2,h3,h4,h5,_⟩:=Ni (nt:=nt) (l:=l) h
     refine ⟨s2,(t,x') :: fz,ob ++ ob2,by simp only [Dx,h1,h3],fun p hp=>?_,h5,fun e=>by cases e⟩
     rcases QF.1 hp with hp | hp
     . exact h2 p hp
     . exact h4 p hp
  . cases h
theorem Ajn {o:Oper} {s:St3} {nt:Nat} {A:Option Sh} {r:R3} (h:J9 T A o s = some r) (hg:r.g = true) (he:r.eff = .none) :
  ∃ D obs,(∀ p ∈ obs,p) /\ quiet P T o D (s.st nt) = some (r.val.s (A3 s.boxes),obs):=by
 obtain ⟨hnt,q,h1,h2,h3⟩:=Aet (nt:=nt) h hg;unfold H7 at h3;rw [he] at h3
 refine ⟨{ cells:=hnt },q.ob ++ [],by simpa using h2,?_⟩
 unfold quiet;simp only [h1,h3.1,Option.getD_none,h3.2]
theorem Auk {K:Ai} {o:Oper} {D:Ex} {s:St} (fz:List (Nat × V)):C1 P T K o { D with fz:=fz } s = C1 P T K o D s:=rfl
def OA.S (P:Program) (a:OA):Prop:=(∀ E,a.ent = some E->E.Sound P) /\ (∀ E,a.entB = some E->E.Sound P) /\ ∀ E,E ∈ a.alt->E.Sound P
theorem Aez (hT:Ao P T) {K:Ai} {A:OA} {o:Oper} {s s':St3} {nt:Nat} {g:Bool} (h:X9 T K A o s = some (g,s')) (hg:g = true) :
  ∃ D obs,C1 P T K o D (s.st nt) = some (s'.st nt,obs) /\ ∀ p ∈ obs,p:=by
 unfold X9 at h;split at h
 . rename_i q hq;split at h
   . rename_i s1 he;split at h
     . rename_i s2 hp
       have key:q.g = true->∃ D obs,C1 P T K o D (s.st nt) = some (s2.st nt,obs) /\ ∀ p ∈ obs,p:=fun hg=>by
        obtain ⟨hnt,r1,h1,h2,h3⟩:=Aet (nt:=nt) hq hg;obtain ⟨h4,h5⟩:=B2n (nt:=nt) he h3;have h6:=Nz (nt:=nt) hp;rw [<- h5] at h6
        refine ⟨{ cells:=hnt },r1.ob ++ [] ++ [],?_,by simpa using h2⟩
        unfold C1;simp only [h1,h4,Option.getD_none,h6,QP]
       split at h
       . simp only [QD,QG] at h;obtain ⟨rfl,rfl⟩:=h;exact key hg
       . split at h
         . simp only [QB,QG] at h;obtain ⟨s3,h3,rfl,rfl⟩:=h;obtain ⟨D,obs,k1,k2⟩:=key hg
           exact ⟨{ own:=some (s3.st nt) },_,rfl,fun p hp=>by
            rw [QR.1 hp]
            exact (Cd hT k1 k2).weak (Afl h3)⟩
         . cases h
     . cases h
   . cases h
 . split at h
   . rename_i q hq;obtain rfl:=QA h
     exact ⟨{ own:=some (s'.st nt) },_,rfl,fun p hp=>by rw [QR.1 hp];exact A9a hT hq hg⟩
   . exact ⟨{ own:=some (s'.st nt) },_,rfl,fun p hp=>by rw [QR.1 hp];exact Afm hT h hg⟩
theorem A6r (hT:Ao P T) {K:Ai} {A:OA} {o:Oper} {s:St3} {nt:Nat} {k:St3->Option α} {r:α} (h:Ny T K A o s k = some r) (hE:A.S P) :
  ∃ s' D obs,C1 P T K o D (s.st nt) = some (s'.st nt,obs) /\ (∀ p ∈ obs,p) /\ k s' = some r:=by
 unfold Ny at h;split at h
 . rename_i E hal;exact T7 h (hE.2.2 E (Af4 hal))
 split at h
 . rename_i E hent;split at h
   . rename_i g x hc
     cases g with
     | false=>cases h
     | true =>
      simp only [cond,ob] at h;split at h
      . rename_i y hm;split at h
        . rename_i s' hp;obtain ⟨obs,h1,h2⟩:=A1u (T:=T) (nt:=nt) hc hm (hE.1 E hent);have:=Nz (nt:=nt) hp;rw [A4c] at this;obtain ⟨D',obs',h3,h4⟩:=Pm h2 this;exact ⟨s',D',obs',h3,h4 h1,h⟩
        . cases h
      . cases h
   . split at h
     . rename_i F hF;exact T7 h (hE.2.1 F hF)
     . cases h
 split at h
 . rename_i E hent;exact T7 h (hE.2.1 E hent)
 . split at h
   . rename_i g s' hq
     cases g with
     | false=>cases h
     | true =>
      obtain ⟨D,obs,h1,h2⟩:=Aez (nt:=nt) hT hq rfl;exact ⟨s',D,obs,h1,h2,h⟩
   . cases h
theorem Auj (hT:Ao P T) {K:Ai} {A:OA} {o:Oper} {s:St3} {nt:Nat} {k:St3->Option α} {r:α} (h:Ph T K A o s k = some r) (hE:A.S P) :
  ∃ s' D obs,C1 P T K o D (s.st nt) = some (s'.st nt,obs) /\ (∀ p ∈ obs,p) /\ k s' = some r:=by
 unfold Ph at h;split at h
 . obtain ⟨s',h1,h2⟩:=B2p (nt:=nt) hT h
   exact ⟨s',{ own:=some (s'.st nt) },_,rfl,fun p hp=>by rw [QR.1 hp];exact h1,h2⟩
 . split at h
   . exact A6r hT h hE
   . obtain ⟨s1,D,obs,h1,h2,h3⟩:=A6r (nt:=nt) hT h hE;split at h3
     . rename_i g s2 hs
       cases g with
       | false=>cases h3
       | true=>exact ⟨s2,{ own:=some (s2.st nt) },_,rfl,fun p hp=>by rw [QR.1 hp];exact (Cd hT h1 h2).weak (Aul hs rfl),h3⟩
     . cases h3
theorem Ani {K:Ai} {A:OA} {o:Oper} {s:St3} {nt:Nat} {k:St3->Option α} {r:α} (h:Ph T K A o s k = some r) (hq:A.quiet T o s = true) (hE:A.S P) :
  ∃ t s' D x obs,o.dst = some t /\ Nat.blt t K.N = true /\ quiet P T o D (s.st nt) = some (x,obs) /\ (∀ p ∈ obs,p) /\ k s' = some r /\ s'.st nt = { s.st nt with slots:=Ag t x (s.st nt).slots }:=by
 unfold OA.quiet at hq;simp only [QE] at hq;obtain ⟨⟨⟨⟨⟨⟨_,hqt⟩,hqa⟩,hqb,hqc⟩,hq0⟩,hq1⟩,hq2⟩:=hq
 have putI:∀ {s s':St3} {y:SV},s.put3 K o.dst y = some s'->∃ t,o.dst = some t /\ Nat.blt t K.N = true /\ s'.st nt = { s.st nt with slots:=Ag t (y.s (A3 s.boxes)) (s.st nt).slots }:=by
  intro s s' y hp;unfold St3.put3 at hp
  cases hd:o.dst with
  | none=>rw [hd] at hq1;cases hq1
  | some t =>
   rw [hd] at hp;simp only at hp
   cases hb:Nat.blt t K.N with
   | false=>rw [hb] at hp;cases hp
   | true =>
    rw [hb] at hp;obtain rfl:=QA hp
    exact ⟨t,rfl,hb,by simp only [St3.st,Co]⟩
 unfold Ph at h
 rw [show A.bor = none by simpa using hqb,show A.shut = none by simpa using hqc] at h
 simp only at h;unfold Ny at h;split at h
 . rename_i E hal;rw [YI.1 hqa] at hal;cases hal
 split at h
 . rename_i E hent;split at h
   . rename_i g x hc
     cases g with
     | false=>cases h
     | true =>
      simp only [cond,ob] at h;split at h
      . rename_i y hm;split at h
        . rename_i s' hp;obtain ⟨obs,h1,h2⟩:=A1u (T:=T) (nt:=nt) hc hm (hE.1 E hent);obtain ⟨t,p1,p2,p3⟩:=putI hp;rw [A4c] at p3;exact ⟨t,s',_,_,obs,p1,p2,h2,h1,h,p3⟩
        . cases h
      . cases h
   . split at h
     . rename_i F hF;rw [hF] at hq0;cases hq0
     . cases h
 split at h
 . rename_i E hB;rw [hB] at hq0;cases hq0
 . rename_i hent _ _;rw [hent] at hq2;simp only at hq2
   cases hcq:J9 T A.sh o s with
   | none=>rw [hcq] at hq2;cases hq2
   | some q =>
    rw [hcq] at hq2;simp only at hq2
    have he:q.eff = .none:=by
     cases e:q.eff <;> first | rfl | (rw [e] at hq2;cases hq2)
    have htr:A.tr = none:=by
     cases e:A.tr with
     | none=>rfl
     | some _=>rw [e] at hqt;cases hqt
    unfold X9 at h;rw [hcq] at h;simp only [he,St3.eff3,htr] at h;split at h
    . rename_i g s' hb;split at hb
      . rename_i s2 hp;simp only [QD,QG] at hb;obtain ⟨hg,rfl⟩:=hb
        cases g with
        | false=>cases h
        | true =>
         simp only [cond] at h;obtain ⟨D,obs,h1,h2⟩:=Ajn (P:=P) (nt:=nt) hcq hg he;obtain ⟨t,p1,p2,p3⟩:=putI hp;exact ⟨t,_,D,_,obs,p1,p2,h2,h1,h,p3⟩
      . cases hb
    . cases h
theorem A6u {s:St3} {nt t:Nat} {b:Bool} (h:A0 t s.slots = some (.d .bool b)):A0 t (s.st nt).slots = some (.v (.one (.i (.lit (.bool b))))):=by
 simp only [St3.st,Ac,h];rfl
theorem I6 {s:St3} {nt t:Nat} {b:Bool} (h:A0 t s.slots = some (.d .bool b)):(({ s with slots:=Xk t (.d .bool b) s.slots }:St3).st nt) = s.st nt:=by
 simp only [St3.st];rw [An0 rfl h]
theorem A78 {ops:List Oper} {o:Oper} {s:St3} {nt:Nat} {f g:St3->Option α} {r:α} (h:Tx ops o s f g = some r) :
  ∃ s0,s0.st nt = s.st nt /\ ((G3 (s.st nt) ops o = some true /\ f s0 = some r) \/ (G3 (s.st nt) ops o = some false /\ g s0 = some r)):=by
 unfold Tx at h;unfold G3;split at h
 . rename_i hg;rw [hg]
   exact ⟨s,rfl,.inl ⟨by first | rfl | trivial,h⟩⟩
 . rename_i j want hg;rw [hg];simp only;split at h
   . rename_i p hp;simp only [hp];split at h
     . rename_i t ht;simp only [ht];split at h
       . rename_i b hl;simp only [A6u (nt:=nt) hl]
         cases b <;> cases want <;> simp only [cond] at h
         . exact ⟨_,I6 hl,.inl ⟨by first | rfl | trivial,h⟩⟩
         . exact ⟨_,I6 hl,.inr ⟨by first | rfl | trivial,h⟩⟩
         . exact ⟨_,I6 hl,.inr ⟨by first | rfl | trivial,h⟩⟩
         . exact ⟨_,I6 hl,.inl ⟨by first | rfl | trivial,h⟩⟩
       . rename_i hl
         have:A0 t (s.st nt).slots = some (.tup []):=by
          simp only [St3.st,Ac,hl];rfl
         simp only [this]
         exact ⟨s,rfl,.inr ⟨by first | rfl | trivial,h⟩⟩
       . cases h
     . cases h
   . cases h
theorem Aao {K:Ai} {o:Oper} {s:St3} {nt:Nat} {k:St3->Option α} {r:α} (h:A9p K o s k = some r):∃ s',(s.st nt).putD K o.dst (.tup []) = some (s'.st nt) /\ k s' = some r:=by
 unfold A9p at h;split at h
 . rename_i s' hp;exact ⟨s',Nz (nt:=nt) hp,h⟩
 . cases h
theorem Hd {K:Ai} {ops:List Oper} {Ds Ds':List (Nat × Ex)}:∀ (l:List (Nat × Oper)) (s:St),(∀ p ∈ l,A0 p.1 Ds = A0 p.1 Ds')->Cp P T K ops Ds l s = Cp P T K ops Ds' l s
 | [],_,_=>rfl
 | (i,o) :: r,s,h=>by
  have h0:=h (i,o) (by simp)
  have ih:=fun s=>Hd (K:=K) (ops:=ops) r s fun p hp=>h p (by simp [hp])
  simp only [Cp];rw [show A0 i Ds = A0 i Ds' from h0];simp only [ih]
theorem Hc {K:Ai} {ops:List Oper} {Ds Ds':List (Nat × Ex)}:∀ (l:List (Nat × Oper)) (xs:List (Nat × Nat × S)) (s:St),(∀ p ∈ l,A0 p.1 Ds = A0 p.1 Ds')->F6 P T K ops Ds l xs s = F6 P T K ops Ds' l xs s
 | [],_,_,_=>rfl
 | (i,o) :: r,xs,s,h=>by
  have h0:=h (i,o) (by simp)
  have ih:=fun xs s=>Hc (K:=K) (ops:=ops) r xs s fun p hp=>h p (by simp [hp])
  simp only [F6];rw [show A0 i Ds = A0 i Ds' from h0];simp only [ih]
theorem Aw {β:Type} {i j:Nat} {x:β} {l:List (Nat × β)} (h:i ≠ j):A0 j ((i,x) :: l) = A0 j l:=by
 simp only [A0]
 have:Nat.beq i j = false:=by cases e:Nat.beq i j with | false=>rfl | true=>exact absurd (QC e) h
 rw [this];rfl
theorem Ba {β:Type} {i:Nat} {x:β} {l:List (Nat × β)}:A0 i ((i,x) :: l) = some x:=by
 simp only [A0,XD];rfl
theorem Vi (hT:Ao P T) {K:Ai} {ops:List Oper} {A:List (Nat × OA)} {nt:Nat} (hE:∀ i a,A0 i A = some a->a.S P):∀ (l:List (Nat × Oper)) (s:St3) (k:St3->Option α) (r:α),(l.map (·.1)).Nodup->Gn T K ops A l s k = some r ->
  ∃ s' Ds obs,k s' = some r /\ Cp P T K ops Ds l (s.st nt) = some (s'.st nt,obs) /\ ∀ p ∈ obs,p
 | [],s,k,r,_,h=>⟨s,[],[],h,rfl,by simp⟩
 | (i,o) :: l,s,k,r,hn,h=>by
  simp only [QV,YZ] at hn;simp only [Gn] at h;obtain ⟨s0,fz,ob0,h1,h2,h3,_⟩:=Ni (nt:=nt) h;obtain ⟨s00,e1,hg⟩:=A78 (nt:=nt) h3
  have hEi:((A0 i A).getD {}).S P:=by
   cases hl:A0 i A with
   | none=>exact ⟨(fun E h=>by cases h),(fun E h=>by cases h),(fun E h=>by cases h)⟩
   | some a=>exact hE i a hl
  rcases hg with ⟨g1,g2⟩ | ⟨g1,g2⟩
  . obtain ⟨s1,D,ob1,h4,h5,h6⟩:=Auj (P:=P) (nt:=nt) hT g2 hEi;obtain ⟨s',Ds,ob2,h7,h8,h9⟩:=Vi hT hE l s1 k r hn.2 h6;refine ⟨s',(i,{ D with fz:=fz }) :: Ds,ob0 ++ (ob1 ++ ob2),h7,?_,fun p hp=>?_⟩
    . simp only [Cp,Ba,XP,h1];rw [e1] at h4;simp only [Vf,g1,Auk,h4]
      rw [Hd (Ds':=Ds) l _ fun p hp=>Aw fun e=>hn.1 (by rw [e];exact ZN.2 ⟨p,hp,rfl⟩),h8]
    . rcases QF.1 hp with hp | hp
      . exact h2 p hp
      . rcases QF.1 hp with hp | hp
        . exact h5 p hp
        . exact h9 p hp
  . obtain ⟨s1,h4,h6⟩:=Aao (nt:=nt) g2;obtain ⟨s',Ds,ob2,h7,h8,h9⟩:=Vi hT hE l s1 k r hn.2 h6;refine ⟨s',(i,{ fz:=fz }) :: Ds,ob0 ++ ([] ++ ob2),h7,?_,fun p hp=>?_⟩
    . simp only [Cp,Ba,XP,h1];rw [e1] at h4;simp only [Vf,g1,h4,QP]
      rw [Hd (Ds':=Ds) l _ fun p hp=>Aw fun e=>hn.1 (by rw [e];exact ZN.2 ⟨p,hp,rfl⟩),h8]
    . rcases QF.1 hp with hp | hp
      . exact h2 p hp
      . exact h9 p (by simpa using hp)
theorem A71 {β:Type} {i:Nat} {d:β} {Ds:List (Nat × β)} {ks:List Nat} (h:∀ j,(A0 j Ds).isSome = true ↔ j ∈ ks):∀ j,(A0 j ((i,d) :: Ds)).isSome = true ↔ j ∈ i :: ks:=by
 intro j;by_cases e:i = j
 . subst e;rw [Ba];simp
 . rw [Aw e,h j];simp [Ne.symm e]
theorem Sp {β:Type} {j:Nat}:∀ {a b:List (Nat × β)},(A0 j a).isSome = true->A0 j (a ++ b) = A0 j a
 | [],_,h=>by cases h
 | (i,x) :: r,b,h=>by
  by_cases e:i = j
  . subst e;rw [YG,Ba,Ba]
  . rw [Aw e] at h;rw [YG,Aw e,Aw e,Sp h]
theorem Sq {β:Type} {j:Nat}:∀ {a b:List (Nat × β)},A0 j a = none->A0 j (a ++ b) = A0 j b
 | [],_,_=>rfl
 | (i,x) :: r,b,h=>by
  by_cases e:i = j
  . subst e;rw [Ba] at h
    cases h
  . rw [Aw e] at h;rw [YG,Aw e,Sq h]
theorem A4g {K:Ai} {ops:List Oper} {A:List (Nat × OA)} {nt:Nat} (hE:∀ i a,A0 i A = some a->a.S P):∀ (l:List (Nat × Oper)) (s:St3) (k:St3->Option α) (r:α),(l.map (·.1)).Nodup->Aaz T K ops A l s k = some r ->
  ∃ s' Ds obs,k s' = some r /\ (∀ xs,∃ ys,F6 P T K ops Ds l xs (s.st nt) = some (ys,s'.st nt,obs)) /\ (∀ p ∈ obs,p) /\ ∀ j,(A0 j Ds).isSome = true ↔ j ∈ l.map (·.1)
 | [],s,k,r,_,h=>⟨s,[],[],h,fun xs=>⟨xs,rfl⟩,by simp,fun j=>by simp [A0]⟩
 | (i,o) :: l,s,k,r,hn,h=>by
  simp only [QV,YZ] at hn;simp only [Aaz] at h
  have hEi:((A0 i A).getD {}).S P:=by
   cases hl:A0 i A with
   | none=>exact ⟨(fun E h=>by cases h),(fun E h=>by cases h),(fun E h=>by cases h)⟩
   | some a=>exact hE i a hl
  obtain ⟨s00,e1,hg⟩:=A78 (nt:=nt) h;rcases hg with ⟨g1,g2⟩ | ⟨g1,g2⟩
  . cases hq:OA.quiet T ((A0 i A).getD {}) o s00 with
    | false=>rw [hq] at g2;cases g2
    | true =>
     rw [hq] at g2;simp only [cond] at g2;obtain ⟨t,s1,D,x,ob1,d1,d2,d3,d4,d5,d6⟩:=Ani (P:=P) (nt:=nt) g2 hq hEi;obtain ⟨s',Ds,ob2,h7,h8,h9,h10⟩:=A4g hE l s1 k r hn.2 d5;refine ⟨s',(i,D) :: Ds,ob1 ++ ob2,h7,fun xs=>?_,fun p hp=>?_,A71 h10⟩
     . obtain ⟨ys,h8⟩:=h8 ((i,t,x) :: xs);refine ⟨ys,?_⟩;rw [e1] at d3 d6;simp only [F6,d1,Ba,XP,Pn,g1,d3,d2,cond]
       rw [<- d6,Hc (Ds':=Ds) l _ _ fun p hp=>Aw fun e=>hn.1 (by rw [e];exact ZN.2 ⟨p,hp,rfl⟩),h8]
     . rcases QF.1 hp with hp | hp
       . exact d4 p hp
       . exact h9 p hp
  . cases hd:o.dst with
    | none=>rw [hd] at g2;cases g2
    | some t =>
     rw [hd] at g2;simp only [Option.isSome_some,cond] at g2;obtain ⟨s1,h4,h6⟩:=Aao (nt:=nt) g2;rw [hd] at h4;simp only [St.putD] at h4
     cases hb:Nat.blt t K.N with
     | false=>rw [hb] at h4;cases h4
     | true =>
      rw [hb] at h4;simp only [cond,QD] at h4;obtain ⟨s',Ds,ob2,h7,h8,h9,h10⟩:=A4g hE l s1 k r hn.2 h6
      refine ⟨s',(i,{}) :: Ds,[] ++ ob2,h7,fun xs=>?_,fun p hp=>h9 p (by simpa using hp),A71 h10⟩
      obtain ⟨ys,h8⟩:=h8 ((i,t,.tup []) :: xs);refine ⟨ys,?_⟩;rw [e1] at h4;simp only [F6,hd,Ba,XP,Pn,g1,hb,cond]
      rw [h4,Hc (Ds':=Ds) l _ _ fun p hp=>Aw fun e=>hn.1 (by rw [e];exact ZN.2 ⟨p,hp,rfl⟩),h8]
theorem Eo (l:List Oper):((A9 l).map (·.1)).Nodup:=by
 have:(A9 l).map (·.1) = List.range l.length:=by
  apply JB;intro j;simp only [A9,XG,QJ,YW];by_cases hj:j < l.length
  . simp [hj]
  . simp [hj]
 rw [this];exact Qam
theorem Ayr (hT:Ao P T) (hfol:P.follows .mixedOrders = true) {K:Ai} {A:RA} {id:Nat} {ops:Array Oper} {draw:Bool} {s:St3} {nt:Nat} {k:St3->Option α} {r:α}
  (hE:∀ i a,A0 i A.ops = some a->a.S P) (h:Auq P T K A ops draw s k = some r) :
  ∃ s',Code.Den P K (.region id ops draw) (s.st nt) .normal (s'.st nt) /\ k s' = some r:=by
 unfold Auq at h
 cases draw with
 | true =>
  simp only [cond] at h
  cases hok:Dh ops A.m with
  | false=>rw [hok] at h;cases h
  | true =>
   rw [hok] at h;obtain ⟨s0,fz,ob0,h1,h2,h3,_⟩:=Ni (nt:=nt) h;obtain ⟨s1,Ds1,ob1,h4,h5,h6,h6'⟩:=A4g (P:=P) (nt:=nt) hE _ s0 _ _ ((Eo ops.toList).sublist ((List.take_sublist _ _).map _)) h3;obtain ⟨s2,Ds2,ob2,h7,h8,h9⟩:=Vi (P:=P) (nt:=nt) hT hE _ s1 _ _ ((Eo ops.toList).sublist ((List.drop_sublist _ _).map _)) h4;refine ⟨s2,?_,h7⟩;have hnd:=Eo ops.toList
   have e1:∀ p ∈ (A9 ops.toList).take A.m,A0 p.1 (Ds1 ++ Ds2) = A0 p.1 Ds1:=fun p hp=>by
    have:=(h6' p.1).2 (ZN.2 ⟨p,hp,rfl⟩);exact Sp this
   have e2:∀ p ∈ (A9 ops.toList).drop A.m,A0 p.1 (Ds1 ++ Ds2) = A0 p.1 Ds2:=fun p hp=>by
    refine Sq ?_
    cases hl:A0 p.1 Ds1 with
    | none=>rfl
    | some d =>
     exfalso
     have hm:=(h6' p.1).1 (by rw [hl];rfl)
     have hd:p.1 ∈ ((A9 ops.toList).drop A.m).map (·.1):=ZN.2 ⟨p,hp,rfl⟩;rw [<- KY A.m (A9 ops.toList),JL,List.nodup_append] at hnd;exact hnd.2.2 _ hm _ hd rfl
   obtain ⟨ys,h5⟩:=h5 []
   have:Tf P T K ops A.m (Ds1 ++ Ds2) fz (s.st nt) = some (s2.st nt,(P.follows .mixedOrders = true) :: (ob0 ++ (ob1 ++ ob2))):=by
    unfold Tf;rw [hok];simp only [cond,h1];rw [Hc _ _ _ e1,h5];simp only;rw [Hd _ _ e2,h8]
   refine Aat hT this fun p hp=>?_;rcases QT.1 hp with rfl | hp
   . exact hfol
   . rcases QF.1 hp with hp | hp
     . exact h2 p hp
     . rcases QF.1 hp with hp | hp
       . exact h6 p hp
       . exact h9 p hp
 | false =>
  simp only [cond] at h;obtain ⟨s2,Ds2,ob2,h7,h8,h9⟩:=Vi (P:=P) (nt:=nt) hT hE _ s _ _ (Eo ops.toList) h;refine ⟨s2,?_,h7⟩
  have:Je P T K ops { ds:=Ds2,drop:=[] } (s.st nt) = some ((s2.st nt).forget [],ob2):=by
   unfold Je;simp only [h8]
  have:=Aax (id:=id) hT this h9
  have e:(s2.st nt).forget [] = s2.st nt:=by
   have:Aa0 [] (s2.st nt).slots = (s2.st nt).slots:=JY.2 fun _ _=>rfl;unfold St.forget;rw [this]
  rw [e] at this;exact this
end Go.Ev
