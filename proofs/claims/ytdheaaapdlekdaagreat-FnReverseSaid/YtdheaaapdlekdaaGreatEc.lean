/- DERIVED. The evaluator over shapes of data. -/
import Derived.Test.YtdheaaapdlekdaaGreatEh

set_option linter.all false
set_option linter.unusedVariables false
set_option linter.unusedSimpArgs false

/- DERIVED. Shapes of data and their values in Lean; states over them, and the abstract states that they stand for. -/
namespace Go.Ev
open Go
inductive Sh where
 | int (k:IntKind) | bool | str | nil | fn (f:Nat)
 | sl (t:Sh) | ref (t:Sh) | clo (f:Nat) (c:Sh)
 | pair (a b:Sh) | st (t:Sh) | unit
def Sh.eqb:Sh->Sh->Bool
 | .int k,.int k'=>IntKind.eqb k k'
 | .bool,.bool=>true
 | .str,.str=>true
 | .nil,.nil=>true
 | .unit,.unit=>true
 | .fn f,.fn g=>Nat.beq f g
 | .sl a,.sl b=>a.eqb b
 | .ref a,.ref b=>a.eqb b
 | .clo f c,.clo g d=>Nat.beq f g&&c.eqb d
 | .pair a b,.pair c d=>a.eqb c&&b.eqb d
 | .st a,.st b=>a.eqb b
 | _,_=>false
theorem Aoa {a b:IntKind} (h:IntKind.eqb a b=true):a=b:=by cases a <;> cases b <;> first | rfl | cases h
theorem Sh.eqb_eq:∀ {a b:Sh},a.eqb b=true->a=b:=by
 intro a
 induction a with
 | int k => intro b h; cases b <;> first | cases h | skip
            simp only [eqb] at h;rw [Aoa h]
 | bool=>intro b h;cases b <;> first | rfl | cases h
 | str=>intro b h;cases b <;> first | rfl | cases h
 | nil=>intro b h;cases b <;> first | rfl | cases h
 | unit=>intro b h;cases b <;> first | rfl | cases h
 | fn f => intro b h; cases b <;> first | cases h | skip
           simp only [eqb] at h;rw [QD h]
 | sl a ih => intro b h; cases b <;> first | cases h | skip
              simp only [eqb] at h;rw [ih h]
 | ref a ih => intro b h; cases b <;> first | cases h | skip
               simp only [eqb] at h;rw [ih h]
 | st a ih => intro b h; cases b <;> first | cases h | skip
              simp only [eqb] at h;rw [ih h]
 | clo f c ih => intro b h; cases b <;> first | cases h | skip
                 simp only [eqb,QH] at h;rw [QD h.1,ih h.2]
 | pair a b iha ihb => intro c h; cases c <;> first | cases h | skip
                       simp only [eqb,QH] at h;rw [iha h.1,ihb h.2]
@[reducible] def Sh.den:Sh->Type
 | .int _=>Int
 | .bool=>Bool
 | .str=>ByteArray
 | .nil=>Unit
 | .fn _=>Unit
 | .sl t=>List t.den
 | .ref t=>t.den
 | .clo _ c=>c.den
 | .pair a b=>a.den × b.den
 | .st t=>t.den
 | .unit=>Unit
def Sh.size:Sh->Nat
 | .pair a b=>a.size+b.size
 | .st t=>t.size
 | .unit=>0
 | _=>1
def Sh.one:Sh->Bool
 | .pair _ _=>false
 | .st _=>false
 | .unit=>false
 | _=>true
def Sh.cells:(t:Sh)->t.den->List I
 | .int k,x=>[.lit (.int k x)]
 | .bool,b=>[.lit (.bool b)]
 | .str,s=>[.lit (.string s)]
 | .nil,_=>[.lit (.slice none 0 0)]
 | .fn f,_=>[.lit (.func (.func f) #[] #[])]
 | .sl t,xs=>[.sl 0 false t.size (xs.map t.cells)]
 | .ref t,x=>[.ref 0 (t.cells x)]
 | .clo f c,x=>[.fn f (c.cells x)]
 | .pair a b,x=>a.cells x.1++b.cells x.2
 | .st t,x=>t.cells x
 | .unit,_=>[]
theorem Sh.cells_len:∀ (t:Sh) (x:t.den),(t.cells x).length=t.size:=by
 intro t
 induction t with
 | pair a b iha ihb=>intro x;simp [cells,size,iha,ihb]
 | st t ih=>intro x;simpa [cells,size] using ih x
 | _=>intro x;rfl
def Sh.dflt:(t:Sh)->t.den
 | .int _=>(0:Int)
 | .bool=>false
 | .str=>⟨#[]⟩
 | .nil=>()
 | .fn _=>()
 | .sl _=>[]
 | .ref t=>t.dflt
 | .clo _ c=>c.dflt
 | .pair a b=>(a.dflt,b.dflt)
 | .st t=>t.dflt
 | .unit=>()
def Sh.to (a b:Sh) (x:a.den):Option b.den:=if h:a.eqb b=true then some ((Sh.eqb_eq h) ▸ x) else none
theorem Sh.to_some {a b:Sh} {x:a.den} {y:b.den} (h:a.to b x=some y):∃ e:a=b,e ▸ x=y:=by
 unfold Sh.to at h;split at h
 . rename_i e;exact ⟨Sh.eqb_eq e,QA h⟩
 . cases h
inductive SV where
 | d (t:Sh) (x:t.den)
 | hw (h:Nat)
 | hs (h off len:Nat)
 | hp (h row col:Nat)
 | agg (cs:List SV)
 | tup (cs:List SV)
 | rf (cs:List SV)
 | dead
def hd1:List I->I
 | x::_=>x
 | []=>.lit (.bool false)
def SV.i0:SV->I
 | .d t x=>hd1 (t.cells x)
 | _=>.lit (.bool false)
def SV.c (L:Nat->Nat):SV->C
 | .d t x=>.i (hd1 (t.cells x))
 | .hw h=>.hs h 0 (L h)
 | .hs h o l=>.hs h o l
 | .hp h r c=>.hp h r c
 | .rf cs=>.i (.ref 0 (cs.map SV.i0))
 | .dead=>.i .any
 | _=>.i (.lit (.bool false))
def SV.v (L:Nat->Nat):SV->V
 | .agg cs=>.agg (cs.map (SV.c L))
 | x=>.one (x.c L)
def SV.s (L:Nat->Nat):SV->S
 | .tup cs=>.tup (cs.map (SV.v L))
 | .dead=>.dead
 | x=>.v (x.v L)
def SV.isD:SV->Bool
 | .d t _=>t.one
 | _=>false
def SV.imm:SV->Bool
 | .d t _=>t.one
 | .rf cs=>cs.all SV.isD
 | _=>false
def SV.cellB:SV->Bool
 | .d t _=>t.one
 | .rf cs=>cs.all SV.isD
 | .hw _=>true
 | .hs _ _ _=>true
 | .hp _ _ _=>true
 | _=>false
inductive B3 where
 | arr (e:TypeId) (t:Sh) (fz:Bool) (xs:List t.den)
 | rep (e:TypeId) (fz:Bool) (n:Nat) (cs:List SV)
 | var (e:TypeId) (hf fz:Bool) (cs:List SV)
 | tree (e:TypeId) (t:Sh) (fz:Bool) (xs:List t.den)
 | hole (e:TypeId) (t:Sh) (fz:Bool) (xs:List t.den) (row col k:Nat)
def Blh (rows:List (List C)) (row col:Nat) (c:C):List (List C):=rows.set row ((rows.getD row []).set col c)
def B3.len:B3->Nat
 | .arr _ _ _ xs=>xs.length
 | .rep _ _ n _=>n
 | .var _ _ _ _=>1
 | .tree _ _ _ xs=>xs.length
 | .hole _ _ _ xs _ _ _=>xs.length
def B3.box (L:Nat->Nat):B3->Box
 | .arr e t fz xs=>⟨e,t.size,true,fz,xs.map λx=>(t.cells x).map .i,false⟩
 | .rep e fz n cs=>⟨e,cs.length,true,fz,List.replicate n (cs.map (SV.c L)),false⟩
 | .var e hf fz cs=>⟨e,cs.length,hf,fz,[cs.map (SV.c L)],false⟩
 | .tree e t fz xs=>⟨e,t.size,true,fz,xs.map λx=>(t.cells x).map .i,true⟩
 | .hole e t fz xs row col k=>⟨e,t.size,false,fz,Blh (xs.map λx=>(t.cells x).map .i) row col (.hs k 0 (L k)),true⟩
structure St3 where
 slots:List (Nat × SV)
 boxes:List (Nat × B3)
def A5 (bs:List (Nat × B3)) (h:Nat):Nat:=match A1 h bs with
 | some b=>b.len
 | none=>0
def Am {α β:Type} (f:α->β) (l:List (Nat × α)):List (Nat × β):=l.map λp=>(p.1,f p.2)
theorem Au {α β:Type} (f:α->β) (k:Nat):∀ l:List (Nat × α),A1 k (Am f l)=(A1 k l).map f
 | []=>rfl
 | (j,x)::r=>by
  simp only [Am,QT,A1]
  cases Nat.beq j k with
  | true=>rfl
  | false=>exact Au f k r
theorem Gs {α β:Type} (f:α->β) (k:Nat) (x:α):∀ l:List (Nat × α),B2 k (f x) (Am f l)=Am f (B2 k x l)
 | []=>rfl
 | (j,y)::r=>by
  simp only [Am,QT,B2]
  cases Nat.blt k j with
  | true=>rfl
  | false =>
   cases Nat.beq j k with
   | true=>rfl
   | false =>
    have:=Gs f k x r;simp only [Am] at this;simp [cond,this]
theorem Q3 {α β:Type} {f g:α->β} {l:List (Nat × α)} (h:∀ p ∈ l,f p.2=g p.2):Am f l=Am g l:=by
 unfold Am
 exact ZE λp hp=>by rw [h p hp]
def St3.st (s:St3) (nt:Nat):St :=
 { slots:=Am (SV.s (A5 s.boxes)) s.slots,boxes:=Am (B3.box (A5 s.boxes)) s.boxes,nt:=nt }
def SV.menC (h:Nat):SV->Bool
 | .hw k=>Nat.beq k h
 | .hs k _ _=>Nat.beq k h
 | .hp k _ _=>Nat.beq k h
 | _=>false
def SV.menV (h:Nat):SV->Bool
 | .agg cs=>cs.any (SV.menC h)
 | x=>x.menC h
def SV.men (h:Nat):SV->Bool
 | .tup cs=>cs.any (SV.menV h)
 | x=>x.menV h
def B3.men (h:Nat):B3->Bool
 | .arr _ _ _ _=>false
 | .rep _ _ _ cs=>cs.any (SV.menC h)
 | .var _ _ _ cs=>cs.any (SV.menC h)
 | .tree _ _ _ _=>false
 | .hole _ _ _ _ _ _ k=>Nat.beq k h
theorem Ao3 {L:Nat->Nat} {h:Nat} (x:SV):(x.c L).men h=x.menC h:=by
 cases x <;> rfl
theorem B4d {L:Nat->Nat} {h:Nat} (x:SV):(x.v L).men h=x.menV h:=by
 cases x <;> first | rfl | skip;simp only [SV.v,V.men,SV.menV,Qbi];congr 1;funext y;exact Ao3 y
theorem Aze {L:Nat->Nat} {h:Nat} (x:SV):(x.s L).men h=x.men h:=by
 cases x <;> first | rfl | (simp only [SV.s,S.men,SV.men];exact B4d _) | skip;simp only [SV.s,S.men,SV.men,Qbi];congr 1;funext y;exact B4d y
theorem Nm {L L':Nat->Nat} {h:Nat} (hL:∀ k,k ≠ h->L k=L' k) {x:SV} (hx:x.menC h=false):x.c L=x.c L':=by
 cases x <;> first | rfl | skip;rename_i k;simp only [SV.menC] at hx;simp only [SV.c]
 rw [hL k (λe=>by subst e;simp at hx)]
theorem Af9 {L L':Nat->Nat} {h:Nat} (hL:∀ k,k ≠ h->L k=L' k) {x:SV} (hx:x.menV h=false):x.v L=x.v L':=by
 cases x with
 | agg cs =>
  simp only [SV.menV,YP] at hx;simp only [SV.v];congr 1
  exact ZE λy hy=>Nm hL (by simpa using hx y hy)
 | hw k=>exact ZY V.one (Nm (x:=.hw k) hL hx)
 | _=>rfl
theorem Afg {L L':Nat->Nat} {h:Nat} (hL:∀ k,k ≠ h->L k=L' k) {x:SV} (hx:x.men h=false):x.s L=x.s L':=by
 cases x with
 | tup cs =>
  simp only [SV.men,YP] at hx;simp only [SV.s];congr 1
  exact ZE λy hy=>Af9 hL (by simpa using hx y hy)
 | hw k=>exact ZY S.v (Af9 (x:=.hw k) hL hx)
 | agg cs=>exact ZY S.v (Af9 (x:=.agg cs) hL hx)
 | _=>rfl
theorem A45 {L L':Nat->Nat} {h:Nat} (hL:∀ k,k ≠ h->L k=L' k) {b:B3} (hb:b.men h=false):b.box L=b.box L':=by
 cases b with
 | arr=>rfl
 | tree=>rfl
 | hole e t fz xs row col k =>
  simp only [B3.box]
  rw [hL k (λe=>by subst e;simp [B3.men] at hb)]
 | rep e fz n cs =>
  simp only [B3.men,YP] at hb;simp only [B3.box]
  rw [ZE λy hy=>Nm hL (by simpa using hb y hy)]
 | var e hf fz cs =>
  simp only [B3.men,YP] at hb;simp only [B3.box]
  rw [ZE λy hy=>Nm hL (by simpa using hb y hy)]
def St3.clean (s:St3) (h:Nat):Bool:=s.slots.all (λp=>!p.2.men h)&&s.boxes.all (λp=>!p.2.men h)
theorem V4 {bs:List (Nat × B3)} {h k:Nat} {b:B3} (e:k ≠ h):A5 (B2 h b bs) k=A5 bs k:=by
 unfold A5;rw [As _ _ e]
theorem Pa {bs:List (Nat × B3)} {h:Nat} {b:B3}:A5 (B2 h b bs) h=b.len:=by
 unfold A5;rw [At]
theorem Aij {bs:List (Nat × B3)} {h:Nat} {b b':B3} (hb:A1 h bs=some b) (e:b'.len=b.len):A5 (B2 h b' bs)=A5 bs:=by
 funext k;by_cases hk:k=h
 . subst hk;rw [Pa];unfold A5;rw [hb,e]
 . exact V4 hk
theorem Wl {α:Type} {k:Nat} {x:α}:∀ {l:List (Nat × α)} {p:Nat × α},p ∈ B2 k x l->p=(k,x) \/ p ∈ l
 | [],p,h=>by simp [B2] at h;exact .inl h
 | (j,y)::r,p,h=>by
  simp only [B2] at h
  cases h1:Nat.blt k j with
  | true=>rw [h1] at h;simp only [cond] at h;rcases QX.1 h with h | h;exact .inl h;exact .inr h
  | false =>
   rw [h1] at h;simp only [cond] at h
   cases h2:Nat.beq j k with
   | true=>rw [h2] at h;simp only [cond] at h;rcases QX.1 h with h | h;exact .inl h;exact .inr (ZI _ h)
   | false =>
    rw [h2] at h;simp only [cond] at h;rcases QX.1 h with h | h
    . exact .inr (by rw [h];exact YA)
    . rcases Wl h with h | h
      . exact .inl h
      . exact .inr (ZI _ h)
def Sh.exp:(t:Sh)->t.den->List SV
 | .pair a b,x=>a.exp x.1++b.exp x.2
 | .st t,x=>t.exp x
 | .unit,_=>[]
 | .int k,x=>[.d (.int k) x]
 | .bool,x=>[.d .bool x]
 | .str,x=>[.d .str x]
 | .nil,x=>[.d .nil x]
 | .fn f,x=>[.d (.fn f) x]
 | .sl t,x=>[.d (.sl t) x]
 | .ref t,x=>[.d (.ref t) x]
 | .clo f c,x=>[.d (.clo f c) x]
theorem B9f:∀ (t:Sh) (x:t.den),(t.exp x).map SV.i0=t.cells x:=by
 intro t
 induction t with
 | pair a b iha ihb=>intro x;simp [Sh.exp,Sh.cells,iha,ihb]
 | st t ih=>intro x;exact ih x
 | unit=>intro x;rfl
 | _=>intro x;rfl
theorem Qb (L:Nat->Nat):∀ (t:Sh) (x:t.den),(t.exp x).map (SV.c L)=(t.cells x).map .i:=by
 intro t
 induction t with
 | pair a b iha ihb=>intro x;simp [Sh.exp,Sh.cells,iha,ihb]
 | st t ih=>intro x;exact ih x
 | unit=>intro x;rfl
 | _=>intro x;rfl
end Go.Ev

/- DERIVED. Cells into values; the operations over shapes. -/
namespace Go.Ev
open Go
def SV.as (n:Bool) (t:Sh) (v:SV):Option t.den :=
 match v with
 | .d t' x=>match t'.to t x with
  | some y=>some y
  | none=>match t,t' with
   | .sl _,.nil=>bif n then some [] else none
   | _,_=>none
 | _=>none
def Sh.imp (n:Bool):(t:Sh)->List SV->Option (t.den × List SV)
 | .pair a b,cs=>match a.imp n cs with
  | some (x,r)=>match b.imp n r with
   | some (y,q)=>some ((x,y),q)
   | none=>none
  | none=>none
 | .st t,cs=>t.imp n cs
 | .unit,cs=>some ((),cs)
 | .int k,c::r=>(c.as n (.int k)).map (·,r)
 | .bool,c::r=>(c.as n .bool).map (·,r)
 | .str,c::r=>(c.as n .str).map (·,r)
 | .nil,c::r=>(c.as n .nil).map (·,r)
 | .fn f,c::r=>(c.as n (.fn f)).map (·,r)
 | .sl t,c::r=>(c.as n (.sl t)).map (·,r)
 | .ref t,c::r=>match c with
  | .rf cs=>bif cs.all SV.isD then (match t.imp false cs with
   | some (x,[])=>some (x,r)
   | _=>none) else none
  | c=>(c.as n (.ref t)).map (·,r)
 | .clo f c,v::r=>(v.as n (.clo f c)).map (·,r)
 | _,[]=>none
def Sh.all (n:Bool) (t:Sh) (cs:List SV):Option t.den:=match t.imp n cs with
 | some (x,[])=>some x
 | _=>none
def U3:Value->Option SV
 | .int k n=>some (.d (.int k) n)
 | .bool b=>some (.d .bool b)
 | .string s=>some (.d .str s)
 | .slice none 0 0=>some (.d .nil ())
 | _=>none
def Acd:List Value->Option (List SV)
 | []=>some []
 | v::r=>match U3 v,Acd r with
  | some x,some xs=>some (x::xs)
  | _,_=>none
def Alt (ti:TI):Option (List SV):=Acd ti.zero.cells.toList
def St3.val (s:St3):Operand->SV
 | .tmp t=>(A1 t s.slots).getD .dead
 | .const v=>(U3 v).getD .dead
 | .func f=>.d (.fn f) ()
 | .global _=>.dead
def SV.cellsV:SV->Option (List SV)
 | .agg cs=>bif cs.all SV.cellB then some cs else none
 | .tup _=>none
 | .dead=>none
 | x=>bif x.cellB then some [x] else none
def Mp (ti:TI) (cs:List SV):Option SV :=
 bif Hd ti.d then some (.agg (cs.take ti.size)) else match cs with
  | c::_=>some c
  | []=>none
inductive E3 where
 | none
 | new (b:B3)
 | set (h:Nat) (b:B3)
 | app (h:Nat) (b:B3)
 | frz (ks:List Nat)
structure R3 where
 val:SV
 eff:E3
 g:Bool
def R3.pure (x:SV):R3:=⟨x,.none,true⟩
def Bbt (op:BinOp) (k:IntKind) (a b:Int):Option R3 :=
 match op with
 | .add=>some (.pure (.d (.int k) (k.wrap (a+b))))
 | .sub=>some (.pure (.d (.int k) (k.wrap (a-b))))
 | .mul=>some (.pure (.d (.int k) (k.wrap (a*b))))
 | .quo=>some ⟨.d (.int k) (k.wrap (a.tdiv b)),.none,decide (b ≠ 0)⟩
 | .rem=>some ⟨.d (.int k) (a.tmod b),.none,decide (b ≠ 0)⟩
 | .eql=>some (.pure (.d .bool (a==b)))
 | .neq=>some (.pure (.d .bool (a != b)))
 | .lss=>some (.pure (.d .bool (decide (a<b))))
 | .leq=>some (.pure (.d .bool (decide (a<=b))))
 | .gtr=>some (.pure (.d .bool (decide (a>b))))
 | .geq=>some (.pure (.d .bool (decide (a>=b))))
 | _=>none
def eq3 (T:Ty) (cs ds:List SV):List Field->Option Bool
 | []=>some true
 | f :: fs => bif f.name == "_" then none else match Ty.d T f.type, cs[f.offset]?, ds[f.offset]? with
  | some (.int _),some (.d (.int k) a),some (.d (.int k') b)=>bif IntKind.eqb k k' then (eq3 T cs ds fs).map λr=>(a==b)&&r else none
  | _,_,_=>none
def B2u (T:Ty) (op:BinOp) (t:TypeId) (x y:SV):Option R3 :=
 match x,y with
 | .d (.int k) a,.d (.int k') b=>bif IntKind.eqb k k' then Bbt op k a b else none
 | .d .bool a,.d .bool b=>match op,Ty.d T t with
  | .eql,some .bool=>some (.pure (.d .bool (a==b)))
  | .neq,some .bool=>some (.pure (.d .bool (!(a==b))))
  | _,_=>none
 | .d (.sl _) xs,.d .nil _=>match op,Ty.d T t with
  | .eql,some (.slice _)=>some ⟨.d .bool false,.none,!xs.isEmpty⟩
  | .neq,some (.slice _)=>some ⟨.d .bool true,.none,!xs.isEmpty⟩
  | _,_=>none
 | .d .nil _,.d .nil _=>match op,Ty.d T t with
  | .eql,some (.slice _)=>some (.pure (.d .bool true))
  | .neq,some (.slice _)=>some (.pure (.d .bool false))
  | _,_=>none
 | .agg cs,.agg ds=>match T t with
  | some ti=>match ti.d with
   | .struct fs=>bif ti.cmp then (match op with
    | .eql=>(eq3 T cs ds fs.toList).map λb=>.pure (.d .bool b)
    | .neq=>(eq3 T cs ds fs.toList).map λb=>.pure (.d .bool (!b))
    | _=>none) else none
   | _=>none
  | none=>none
 | _,_=>none
def un3 (op:UnOp) (x:SV):Option R3 :=
 match op,x with
 | .not,.d .bool b=>some (.pure (.d .bool (!b)))
 | .neg,.d (.int k) n=>some (.pure (.d (.int k) (k.wrap (0-n))))
 | _,_=>none
def SV.alive:SV->Bool
 | .dead=>false
 | _=>true
def K2 (x:SV):Option R3:=bif x.alive then some (.pure x) else none
def Az9 (c a b:SV):Option R3 :=
 match c with
 | .d .bool y=>match a,b with
  | .d t x,.d t' x'=>match t'.to t x' with
   | some z=>some (.pure (.d t (cond y x z)))
   | none=>match y with
    | true=>K2 a
    | false=>K2 b
  | a,b=>match y with
   | true=>K2 a
   | false=>K2 b
 | _=>none
def SV.refs:SV->Option (List SV)
 | .d (.ref t) x=>some (t.exp x)
 | .rf cs=>bif cs.all SV.isD then some cs else none
 | _=>none
def A4w (T:Ty) (t:TypeId) (x:SV) (bs:List (Nat × B3)):Option R3 :=
 match T t with
 | none=>none
 | some ti=>match x with
  | .hp h row col=>match A1 h bs with
   | some (.arr _ sh _ xs)=>bif Nat.ble (col+ti.size) sh.size then
     (Mp ti ((sh.exp (xs.getD row sh.dflt)).drop col)).map λv=>⟨v,.none,decide (row<xs.length)⟩ else none
   | some (.rep _ _ n cs)=>bif Nat.ble (col+ti.size) cs.length&&cs.all SV.cellB then
     (Mp ti (cs.drop col)).map λv=>⟨v,.none,decide (row<n)⟩ else none
   | some (.var _ _ _ cs)=>bif Nat.beq row 0&&Nat.ble (col+ti.size) cs.length&&cs.all SV.cellB then
     (Mp ti (cs.drop col)).map λv=>⟨v,.none,true⟩ else none
   | some (.tree _ _ _ _)=>none
   | some (.hole _ _ _ _ _ _ _)=>none
   | none=>none
  | x=>match x.refs with
   | some cs=>bif Nat.ble ti.size cs.length then (Mp ti cs).map .pure else none
   | none=>none
def SV.fits3 (ti:TI) (v:SV):Bool:=match v with
 | .agg cs=>Nat.beq cs.length ti.size&&Hd ti.d
 | _=>Nat.beq ti.size 1 && !Hd ti.d
def Im (r:List SV) (col:Nat) (cs:List SV):List SV:=r.take col++cs++r.drop (col+cs.length)
def SV.litC:SV->Bool
 | .d (.int _) _=>true
 | .d .bool _=>true
 | _=>false
def A1c (T:Ty) (t:TypeId) (a x:SV) (bs:List (Nat × B3)):Option R3 :=
 match T t with
 | none=>none
 | some ti=>match a,x.cellsV with
  | .hp h row col,some ys=>match A1 h bs with
   | some (.arr e sh fz xs)=>bif Nat.ble (col+ti.size) sh.size&&x.fits3 ti && !fz&&ys.all SV.imm then
     (match sh.all false (Im (sh.exp (xs.getD row sh.dflt)) col ys) with
     | some y=>some ⟨.dead,.set h (.arr e sh fz (xs.set row y)),decide (row<xs.length)⟩
     | none=>none) else none
   | some (.tree e sh fz xs)=>bif Nat.ble (col+ti.size) sh.size&&x.fits3 ti && !fz&&ys.all SV.litC then
     (match sh.all false (Im (sh.exp (xs.getD row sh.dflt)) col ys) with
     | some y=>some ⟨.dead,.set h (.tree e sh fz (xs.set row y)),decide (row<xs.length)⟩
     | none=>none) else none
   | some (.var e hf fz cs)=>bif Nat.beq row 0&&Nat.ble (col+ti.size) cs.length&&x.fits3 ti && !fz then
     some ⟨.dead,.set h (.var e (hf&&ys.all SV.imm) fz (Im cs col ys)),true⟩ else none
   | _=>none
  | _,_=>none
def Acy (T:Ty) (t:TypeId) (x:SV) (f:Nat):Option R3 :=
 match Ty.d T t with
 | some (.struct fs)=>match fs[f]? with
  | none=>none
  | some fd=>match T fd.type with
   | none=>none
   | some fi=>bif Nat.beq fi.size 0 then none else match x with
    | .hp h row col=>some (.pure (.hp h row (col+fd.offset)))
    | x=>match x.refs with
     | some cs=>some (.pure (.rf (cs.drop fd.offset)))
     | none=>none
 | _=>none
def Q5:SV->Option Int
 | .d (.int .i64) n=>some n
 | _=>none
def B3.rowSize:B3->Nat
 | .arr _ t _ _=>t.size
 | .rep _ _ _ cs=>cs.length
 | .var _ _ _ cs=>cs.length
 | .tree _ t _ _=>t.size
 | .hole _ t _ _ _ _ _=>t.size
def Acl (T:Ty) (t:TypeId) (x ix:SV) (bs:List (Nat × B3)):Option R3 :=
 match Ty.d T t,Q5 ix with
 | some (.slice e),some i=>match T e with
  | none=>none
  | some ei=>match x with
   | .hw h=>match A1 h bs with
    | none=>none
    | some b=>bif Nat.beq b.rowSize ei.size then some ⟨.hp h i.toNat 0,.none,decide (0<=i)&&decide (i<(b.len:Int))⟩ else none
   | .hs h off len=>match A1 h bs with
    | none=>none
    | some b=>bif Nat.beq b.rowSize ei.size then some ⟨.hp h (off+i.toNat) 0,.none,decide (0<=i)&&decide (i<(len:Int))⟩ else none
   | .d (.sl sh) xs=>bif Nat.beq sh.size ei.size then some ⟨.d (.ref sh) (xs.getD i.toNat sh.dflt),.none,decide (0<=i)&&decide (i<(xs.length:Int))⟩ else none
   | _=>none
 | _,_=>none
def lo3:Option SV->Option Int
 | none=>some 0
 | some v=>Q5 v
def hi3 (n:Nat):Option SV->Option Int
 | none=>some (n:Int)
 | some v=>Q5 v
def A1e (T:Ty) (t:TypeId) (x:SV) (lo hi:Option SV) (bs:List (Nat × B3)):Option R3 :=
 match Ty.d T t with
 | some (.slice e)=>match T e with
  | none=>none
  | some ei=>match x with
   | .hw h=>match A1 h bs with
    | none=>none
    | some b=>bif Nat.beq b.rowSize ei.size then (match lo3 lo,hi3 b.len hi with
     | some l,some r=>some ⟨.hs h l.toNat (r.toNat-l.toNat),.none,decide (0<=l)&&decide (l<=r)&&decide (r<=(b.len:Int))⟩
     | _,_=>none) else none
   | .hs h off len=>match A1 h bs with
    | none=>none
    | some b=>bif Nat.beq b.rowSize ei.size then (match lo3 lo,hi3 len hi with
     | some l,some r=>some ⟨.hs h (off+l.toNat) (r.toNat-l.toNat),.none,decide (0<=l)&&decide (l<=r)&&decide (r<=(len:Int))⟩
     | _,_=>none) else none
   | .d (.sl sh) xs=>bif Nat.beq sh.size ei.size then (match lo3 lo,hi3 xs.length hi with
     | some l,some r=>some ⟨.d (.sl sh) ((xs.drop l.toNat).take (r.toNat-l.toNat)),.none,decide (0<=l)&&decide (l<=r)&&decide (r<=(xs.length:Int))⟩
     | _,_=>none) else none
   | _=>none
 | _=>none
def Azh (T:Ty) (t:TypeId) (x:SV) (bs:List (Nat × B3)):Option R3 :=
 match Ty.d T t with
 | some (.slice _)=>match x with
  | .hs _ _ len=>some (.pure (.d (.int .i64) (len:Int)))
  | .hw h=>match A1 h bs with
   | some b=>some (.pure (.d (.int .i64) (b.len:Int)))
   | none=>none
  | .d (.sl _) xs=>some (.pure (.d (.int .i64) (xs.length:Int)))
  | .d .nil _=>some (.pure (.d (.int .i64) (0:Int)))
  | _=>none
 | some .string=>match x with
  | .d .str s=>some (.pure (.d (.int .i64) (s.size:Int)))
  | _=>none
 | _=>none
def Afm (mx:Bool) (x y:SV):Option R3 :=
 match Q5 x,Q5 y with
 | some a,some b=>some (.pure (.d (.int .i64) (match mx with | true=>max a b | false=>min a b)))
 | _,_=>none
def Amh (T:Ty) (src dst:TypeId) (x:SV):Option R3 :=
 match Ty.d T src,Ty.d T dst,x with
 | some (.int _),some (.int k),.d (.int _) n=>some (.pure (.d (.int k) (k.wrap n)))
 | _,_,_=>none
def Bb7 (x:SV):Option R3 :=
 match x with
 | .hp h row col=>some (.pure (.hp h row col))
 | .d (.ref t) x=>some (.pure (.d (.ref t) x))
 | .rf cs=>some (.pure (.rf cs))
 | _=>none
def Abb (x:SV) (k:Nat):Option R3 :=
 match x with
 | .tup xs=>match xs[k]? with
  | some (.tup _)=>none
  | some .dead=>none
  | some y=>some (.pure y)
  | none=>none
 | _=>none
def Fv:Nat->List (Nat × SV)->Option (List (List SV))
 | _,[]=>some []
 | i,(j,v)::r=>bif Nat.beq i j then (match v.cellsV,Fv (i+1) r with
  | some cs,some q=>some (cs::q)
  | _,_=>none) else none
def A4y (t:Sh):List (List SV)->Option (List t.den)
 | []=>some []
 | r::q=>match t.all false r,A4y t q with
  | some x,some xs=>some (x::xs)
  | _,_=>none
def A4z (T:Ty) (fs:Array Field):List (Nat × SV)->List SV->Option (List SV)
 | [],cs=>some cs
 | (i,v)::r,cs=>match fs[i]?,v.cellsV with
  | some f,some ys=>match T f.type with
   | some fi=>bif Nat.beq ys.length fi.size&&Nat.ble (f.offset+fi.size) cs.length then A4z T fs r (Im cs f.offset ys) else none
   | none=>none
  | _,_=>none
def Aes (T:Ty) (t:TypeId) (ps:List (Nat × SV)):Option R3 :=
 match T t with
 | some ti=>match ti.d,Alt ti with
  | .struct fs,some z=>bif fs.toList.all (λf=>(T f.type).isSome) then (match A4z T fs ps z with
   | some cs=>some (.pure (.agg cs))
   | none=>none) else none
  | _,_=>none
 | none=>none
def Ayv (t:Sh) (x:SV) (bs:List (Nat × B3)):Option (Bool × List t.den) :=
 match x with
 | .hw h=>match A1 h bs with
  | some (.arr _ sh _ xs)=>match (Sh.sl sh).to (.sl t) xs with
   | some ys=>some (true,ys)
   | none=>none
  | _=>none
 | .hs h off len=>match A1 h bs with
  | some (.arr _ sh _ xs)=>match (Sh.sl sh).to (.sl t) xs with
   | some ys=>some (decide (off+len<=xs.length),(ys.drop off).take len)
   | none=>none
  | _=>none
 | .d (.sl sh) xs=>match (Sh.sl sh).to (.sl t) xs with
  | some ys=>some (true,ys)
  | none=>none
 | _=>none
def Beq (T:Ty) (k:Nat) (t:TypeId) (hint:Option Sh) (s x:SV) (bs:List (Nat × B3)):Option R3 :=
 match Ty.d T t with
 | some (.slice e)=>match T e with
  | none=>none
  | some ei=>bif Nat.ble 1 ei.size&&Nat.ble 1 ei.bytes then (match s with
   | .hw h=>match A1 h bs with
    | some (.arr e' sh fz xs)=>match Ayv sh x bs with
     | some (g,ys)=>bif Nat.beq sh.size ei.size && !fz&&Nat.beq e' e then
       some ⟨.hw h,.app h (.arr e' sh fz (xs++ys)),g&&decide ((xs.length+ys.length)*ei.bytes<=140737488355328)⟩ else none
     | none=>none
    | _=>none
   | .d .nil _=>match hint with
    | some sh=>match Ayv sh x bs with
     | some (g,ys)=>bif Nat.beq sh.size ei.size then
       some ⟨.hw k,.new (.arr e sh false ys),g&&decide (0<ys.length)&&decide (ys.length*ei.bytes<=140737488355328)⟩ else none
     | none=>none
    | none=>none
   | _=>none) else none
 | _=>none
def B2q (x:SV) (bs:List (Nat × B3)):Option (SV × Option Nat) :=
 match x with
 | .hp h 0 0=>match A1 h bs with
  | some (.var _ hf _ cs)=>bif hf&&Nat.blt h 1000&&cs.all SV.isD then some (.rf cs,some h) else none
  | _=>none
 | x=>match x.refs with
  | some cs=>some (.rf cs,none)
  | none=>none
def Zz:List SV->List (Nat × B3)->Option (List SV × List Nat)
 | [],_=>some ([],[])
 | x::r,bs=>match B2q x bs,Zz r bs with
  | some (c,k),some (cs,ks)=>some (c::cs,match k with | some k=>k::ks | none=>ks)
  | _,_=>none
def Ej (s:St3) (ps:Array (Nat × Operand)):List (Nat × SV):=ps.toList.map λp=>(p.1,s.val p.2)
def O5 (T:Ty) (hint:Option Sh) (o:Oper) (s:St3):Option R3 :=
 match o.op with
 | .move x=>K2 (s.val x)
 | .assign (.const (.pointer none))=>some (.pure .dead)
 | .assign (.const .nilFunc)=>some (.pure .dead)
 | .assign x=>K2 (s.val x)
 | .pick c a b=>Az9 (s.val c) (s.val a) (s.val b)
 | .alloc e=>match T e,o.dst with
  | some ti,some k=>match Alt ti with
   | some z=>some ⟨.hp k 0 0,.new (.var e true false z),true⟩
   | none=>none
  | _,_=>none
 | .box e x=>match (s.val x).cellsV,o.dst with
  | some cs,some k=>some ⟨.hp k 0 0,.new (.var e (cs.all SV.imm) false cs),true⟩
  | _,_=>none
 | .build t ps=>Aes T t (Ej s ps)
 | .buildSlice t len ps=>match o.dst,hint,Ty.d T t with
  | some k,some sh,some (.slice e)=>match T e,Fv 0 (Ej s ps) with
   | some ei,some rows=>match A4y sh rows with
    | some xs=>bif Nat.beq ps.toList.length len&&Nat.ble 1 ei.size&&Nat.beq sh.size ei.size&&rows.all (λr=>Nat.beq r.length ei.size)&&Nat.ble (len*ei.size) 16777216 then
      some ⟨.hw k,.new (.arr e sh false xs),true⟩ else none
    | none=>match rows with
     | [cs]=>bif Nat.beq ps.toList.length len&&Nat.beq len 1&&Nat.ble 1 ei.size&&Nat.beq cs.length ei.size&&Nat.ble (len*ei.size) 16777216&&cs.all SV.cellB then
       some ⟨.hw k,.new (.var e (cs.all SV.imm) false cs),true⟩ else none
     | _=>none
   | _,_=>none
  | _,_,_=>none
 | .load t a=>A4w T t (s.val a) s.boxes
 | .store t a x=>A1c T t (s.val a) (s.val x) s.boxes
 | .nilCheck x=>Bb7 (s.val x)
 | .binOp op t x y _=>B2u T op t (s.val x) (s.val y)
 | .unOp op _ x=>un3 op (s.val x)
 | .convert src dst x=>Amh T src dst (s.val x)
 | .makeFunc (.func f) first caps=>match first.toList,Zz (caps.toList.map s.val) s.boxes,hint with
  | [],some (cs,ks),some sh=>match sh.all false cs with
   | some x=>some ⟨.d (.clo f sh) x,.frz ks,true⟩
   | none=>none
  | _,_,_=>none
 | .makeSlice t (.tmp l) (.tmp c)=>match o.dst,Ty.d T t,Q5 (s.val (.tmp l)) with
  | some k,some (.slice e),some n=>bif Nat.beq l c then (match T e with
   | some ei=>match Alt ei with
    | some z=>bif Nat.ble 1 ei.size&&Nat.beq z.length ei.size then some ⟨.hw k,.new (.rep e false n.toNat z),decide (0<=n)&&decide (n<=4611686018427387904)&&decide ((ei.bytes:Int)*n<=281474976710656)⟩ else none
    | none=>none
   | none=>none) else none
  | _,_,_=>none
 | .slice t x lo hi none=>A1e T t (s.val x) (lo.map s.val) (hi.map s.val) s.boxes
 | .fieldAddr t x f=>Acy T t (s.val x) f
 | .indexAddr t x i=>Acl T t (s.val x) (s.val i) s.boxes
 | .extract x k=>Abb (s.val x) k
 | .call c=>match c.callee with
  | .builtin .len=>match c.args.toList,c.argTypes.toList with
   | [x],[t]=>Azh T t (s.val x) s.boxes
   | _,_=>none
  | .builtin .max=>match c.args.toList with
   | [x,y]=>Afm true (s.val x) (s.val y)
   | _=>none
  | .builtin .min=>match c.args.toList with
   | [x,y]=>Afm false (s.val x) (s.val y)
   | _=>none
  | .builtin .append=>match c.args.toList,c.argTypes.toList,o.dst with
   | [x,y],[t,t'],some k=>bif Nat.beq t t' then Beq T k t hint (s.val x) (s.val y) s.boxes else none
   | _,_,_=>none
  | _=>none
 | _=>none
end Go.Ev

/- DERIVED. Each operation over shapes is one over abstract values. -/
namespace Go.Ev
open Go
variable {T:Ty}
theorem En (L:Nat->Nat) (h:Nat):(SV.hw h).s L = .v (.one (.hs h 0 (L h))):=rfl
theorem F9 (L:Nat->Nat) (h o l:Nat):(SV.hs h o l).s L = .v (.one (.hs h o l)):=rfl
theorem Fa (L:Nat->Nat) (h r c:Nat):(SV.hp h r c).s L = .v (.one (.hp h r c)):=rfl
theorem J4 (L:Nat->Nat) (t:Sh) (x:t.den):(SV.d t x).s L = .v (.one (.i (hd1 (t.cells x)))):=rfl
theorem F8 (L:Nat->Nat) (cs:List SV):(SV.rf cs).s L = .v (.one (.i (.ref 0 (cs.map SV.i0)))):=rfl
theorem Avh {L:Nat->Nat} {v:Value} {x:SV} (h:U3 v=some x):x.s L=S.lit v/\x.c L = .i (.lit v)/\x.isD=true:=by
 unfold U3 at h;split at h <;> first | (obtain rfl:=QA h;exact ⟨rfl,rfl,rfl⟩) | cases h
theorem Ci {s:St3} {nt:Nat} {x:Operand} {y:SV} (h:s.val x=y) (ha:y.alive=true):(s.st nt).val x=y.s (A5 s.boxes):=by
 cases x with
 | tmp t =>
  simp only [St3.val] at h;simp only [St.val,St3.st,Au]
  cases hl:A1 t s.slots with
  | none=>rw [hl] at h;subst h;cases ha
  | some z=>rw [hl] at h;subst h;rfl
 | const v =>
  simp only [St3.val] at h
  cases hl:U3 v with
  | none=>rw [hl] at h;subst h;cases ha
  | some z =>
   rw [hl] at h;simp only [YN] at h;subst h;rw [(Avh hl).1];unfold U3 at hl;split at hl <;> first | rfl | cases hl
 | global g=>simp only [St3.val] at h;subst h;cases ha
 | func f=>simp only [St3.val] at h;subst h;rfl
theorem Tn {t:Sh} {v:SV} {x:t.den} (h:v.as false t=some x):v = .d t x:=by
 unfold SV.as at h;split at h
 . rename_i t' y;split at h
   . rename_i z hz;obtain ⟨e,he⟩:=Sh.to_some hz;subst e;obtain rfl:=QA h;simp only at he;rw [he]
   . split at h
     . cases h
     . cases h
 . cases h
theorem Bl2 {t:Sh} {v:SV} {x:t.den} (h:v.as true t=some x):v = .d t x \/ ∃ t0,∃ e:t = .sl t0,v = .d .nil ()/\(e ▸ x:(Sh.sl t0).den)=[]:=by
 unfold SV.as at h;split at h
 . rename_i t' y;split at h
   . rename_i z hz;obtain ⟨e,he⟩:=Sh.to_some hz;subst e;obtain rfl:=QA h;simp only at he
     exact .inl (by rw [he])
   . split at h
     . simp only [cond,QF] at h;subst h;exact .inr ⟨_,rfl,rfl,rfl⟩
     . cases h
 . cases h
theorem Wq (t:Sh) (x:t.den) (h:t.one=true):t.cells x=[hd1 (t.cells x)]:=by
 cases t <;> first | rfl | cases h
theorem Avq {n:Bool} {t:Sh} {c:SV} {r:List SV} {x:t.den} {q:List SV} (h:(c.as n t).map (·,r)=some (x,q)):c.as n t=some x/\q=r:=by
 cases hc:c.as n t with
 | none=>rw [hc] at h;cases h
 | some y =>
  rw [hc] at h;simp only [QV,QF,QL] at h
  exact ⟨by rw [h.1],h.2.symm⟩
def Bgl (t:Sh) (cs:List SV) (x:t.den) (r:List SV):Prop :=
 ∃ pre,cs=pre++r/\(∀ L,pre.map (SV.c L)=(t.cells x).map .i)/\pre.all SV.imm=true/\(pre.all SV.isD=true->pre.map SV.i0=t.cells x)/\pre.length=t.size
theorem I7 {t:Sh} {c:SV} {r q:List SV} {x:t.den} (ht:t.one=true) (hz:t.size=1) (h:(c.as false t).map (·,r)=some (x,q)):Bgl t (c::r) x q:=by
 obtain ⟨h1,rfl⟩:=Avq h;obtain rfl:=Tn h1;have e:=Wq t x ht;refine ⟨[.d t x],rfl,λL=>?_,?_,λ_=>?_,hz.symm⟩
 . rw [e];simp [SV.c,hd1]
 . simp [SV.imm,ht]
 . rw [e];simp [SV.i0,hd1]
theorem Aip:∀ (t:Sh) (cs:List SV) (x:t.den) (r:List SV),t.imp false cs=some (x,r)->Bgl t cs x r:=by
 intro t
 induction t with
 | pair a b iha ihb =>
  intro cs x r h;simp only [Sh.imp] at h;split at h
  . rename_i y q h1;split at h
    . rename_i z q' h2;simp only [QF,QL] at h;obtain ⟨rfl,rfl⟩:=h;obtain ⟨p1,e1,c1,i1,d1,l1⟩:=iha _ _ _ h1;obtain ⟨p2,e2,c2,i2,d2,l2⟩:=ihb _ _ _ h2
      refine ⟨p1++p2,by rw [e1,e2,ZP],λL=>?_,by simp [i1,i2],λhd=>?_,by simp [l1,l2,Sh.size]⟩
      . simp [c1 L,c2 L,Sh.cells]
      . simp only [List.all_append,QH] at hd;simp [d1 hd.1,d2 hd.2,Sh.cells]
    . cases h
  . cases h
 | st t ih=>intro cs x r h;exact ih _ _ _ h
 | unit =>
  intro cs x r h;simp only [Sh.imp,QF,QL] at h;obtain ⟨_,rfl⟩:=h;exact ⟨[],rfl,λL=>rfl,rfl,λ_=>rfl,rfl⟩
 | ref t ih =>
  intro cs x r h
  cases cs with
  | nil=>simp [Sh.imp] at h
  | cons c cs =>
   simp only [Sh.imp] at h;split at h
   . rename_i ds
     cases hd:ds.all SV.isD with
     | false=>rw [hd] at h;cases h
     | true =>
      rw [hd] at h;simp only [cond] at h;split at h
      . rename_i y hy;simp only [QF,QL] at h;obtain ⟨rfl,rfl⟩:=h;obtain ⟨p,e,c1,i1,d1,l1⟩:=ih _ _ _ hy;rw [XT] at e;subst e
        refine ⟨[.rf ds],rfl,λL=>?_,by simpa [SV.imm] using hd,λhf=>by simp [SV.isD] at hf,rfl⟩
        simp [SV.c,Sh.cells,d1 hd]
      . cases h
   . exact I7 rfl rfl h
 | int k=>intro cs x r h;cases cs with | nil=>simp [Sh.imp] at h | cons c cs=>exact I7 rfl rfl h
 | bool=>intro cs x r h;cases cs with | nil=>simp [Sh.imp] at h | cons c cs=>exact I7 rfl rfl h
 | str=>intro cs x r h;cases cs with | nil=>simp [Sh.imp] at h | cons c cs=>exact I7 rfl rfl h
 | nil=>intro cs x r h;cases cs with | nil=>simp [Sh.imp] at h | cons c cs=>exact I7 rfl rfl h
 | fn f=>intro cs x r h;cases cs with | nil=>simp [Sh.imp] at h | cons c cs=>exact I7 rfl rfl h
 | sl t _=>intro cs x r h;cases cs with | nil=>simp [Sh.imp] at h | cons c cs=>exact I7 rfl rfl h
 | clo f c _=>intro cs x r h;cases cs with | nil=>simp [Sh.imp] at h | cons v cs=>exact I7 rfl rfl h
theorem Et {t:Sh} {cs:List SV} {x:t.den} (h:t.all false cs=some x):(∀ L,cs.map (SV.c L)=(t.cells x).map .i)/\cs.all SV.imm=true/\(cs.all SV.isD=true->cs.map SV.i0=t.cells x)/\cs.length=t.size:=by
 unfold Sh.all at h;split at h
 . rename_i y hy;obtain rfl:=QA h;obtain ⟨p,e,h1,h2,h3,h4⟩:=Aip _ _ _ _ hy;rw [XT] at e;subst e;exact ⟨h1,h2,h3,h4⟩
 . cases h
theorem Aho:∀ (t:Sh) (x:t.den),(t.exp x).length=t.size:=by
 intro t x;have:=ZY List.length (B9f t x);simpa [Sh.cells_len] using this
theorem Qo {L:Nat->Nat} {x:SV} (h:x.imm=true):Dc (x.c L)=true:=by
 cases x <;> first | rfl | cases h
theorem Mr {L:Nat->Nat} {x:SV} (hc:x.cellB=true):Dc (x.c L)=x.imm:=by
 cases x <;> first | rfl | (simp only [SV.cellB] at hc;simp [SV.imm,SV.c,Dc,hc]) | cases hc
def By (L:Nat->Nat) (r:R3) (r1:Option Res):Prop:=∃ q,r1=some q/\(∀ p ∈ q.ob,p)/\q.val=r.val.s L/\q.eff = .none/\r.eff = .none
theorem By.pure {L:Nat->Nat} {x:SV} {y:S} (h:y=x.s L):By L (.pure x) (some (.pure y)):=⟨_,rfl,by simp [Res.pure],h,rfl,rfl⟩
theorem Bhe {L:Nat->Nat} {op:BinOp} {k:IntKind} {a b:Int} {r:R3} (h:Bbt op k a b=some r) (hg:r.g=true):By L r (Aej op k a b):=by
 unfold Bbt at h;split at h
 . obtain rfl:=QA h
   exact ⟨_,rfl,by simp [Res.pure],rfl,rfl,rfl⟩
 . obtain rfl:=QA h
   exact ⟨_,rfl,by simp [Res.pure],rfl,rfl,rfl⟩
 . obtain rfl:=QA h
   exact ⟨_,rfl,by simp [Res.pure],rfl,rfl,rfl⟩
 . obtain rfl:=QA h
   exact ⟨_,rfl,by intro p hp;simp only [QU] at hp;subst hp;exact Qaa hg,rfl,rfl,rfl⟩
 . obtain rfl:=QA h
   exact ⟨_,rfl,by intro p hp;simp only [QU] at hp;subst hp;exact Qaa hg,rfl,rfl,rfl⟩
 . obtain rfl:=QA h
   exact ⟨_,rfl,by simp [Res.pure],rfl,rfl,rfl⟩
 . obtain rfl:=QA h
   exact ⟨_,rfl,by simp [Res.pure],rfl,rfl,rfl⟩
 . obtain rfl:=QA h
   exact ⟨_,rfl,by simp [Res.pure],rfl,rfl,rfl⟩
 . obtain rfl:=QA h
   exact ⟨_,rfl,by simp [Res.pure],rfl,rfl,rfl⟩
 . obtain rfl:=QA h
   exact ⟨_,rfl,by simp [Res.pure],rfl,rfl,rfl⟩
 . obtain rfl:=QA h
   exact ⟨_,rfl,by simp [Res.pure],rfl,rfl,rfl⟩
 . cases h
theorem B9h {L:Nat->Nat} {cs ds:List SV}:∀ {fs:List Field} {b:Bool},eq3 T cs ds fs=some b->eqC T (cs.map (SV.c L)) (ds.map (SV.c L)) fs=some b:=by
 intro fs
 induction fs with
 | nil=>intro b h;exact h
 | cons f fs ih =>
  intro b h;simp only [eq3] at h
  cases hn : (f.name == "_") with
  | true=>rw [hn] at h;cases h
  | false =>
   rw [hn] at h;simp only [cond] at h;split at h
   . rename_i k0 k a k' b' ht hc hd
     cases hk:IntKind.eqb k k' with
     | false=>rw [hk] at h;cases h
     | true =>
      rw [hk] at h;simp only [cond,QI] at h;obtain ⟨r,hr,rfl⟩:=h
      have h1:(cs.map (SV.c L))[f.offset]? = some (.i (.lit (.int k a))):=by rw [QQ,hc];rfl
      have h2:(ds.map (SV.c L))[f.offset]? = some (.i (.lit (.int k' b'))):=by rw [QQ,hd];rfl
      simp only [eqC,hn,cond,ht,h1,h2,hk,ih hr,QV]
   . cases h
theorem By.of_eq {L:Nat->Nat} {b:Bool} {r1:Option Res} (h:r1=some (.pure (.bool b))):By L (.pure (.d .bool b)) r1:=⟨_,h,by simp [Res.pure],rfl,rfl,rfl⟩
theorem Bl1 {L:Nat->Nat} {op:BinOp} {t:TypeId} {x y:SV} {r:R3} (h:B2u T op t x y=some r) (hg:r.g=true):By L r (Iz T op t (x.s L) (y.s L)):=by
 unfold B2u at h;split at h
 . rename_i k a k' b
   cases hk:IntKind.eqb k k' with
   | false=>rw [hk] at h;cases h
   | true =>
    rw [hk] at h;have:=Bhe (L:=L) h hg;simpa [Iz,SV.s,SV.v,SV.c,Sh.cells,hd1,hk] using this
 . split at h
   . rename_i hd;obtain rfl:=QA h
     exact ⟨_,by simp [Iz,SV.s,SV.v,SV.c,Sh.cells,hd1,hd];rfl,by simp [Res.pure],rfl,rfl,rfl⟩
   . rename_i hd;obtain rfl:=QA h
     exact ⟨_,by simp [Iz,SV.s,SV.v,SV.c,Sh.cells,hd1,hd];rfl,by simp [Res.pure],rfl,rfl,rfl⟩
   . cases h
 . rename_i sh xs u;split at h
   . rename_i hd;obtain rfl:=QA h
     refine ⟨_,by simp [Iz,SV.s,SV.v,SV.c,Sh.cells,hd1,hd];rfl,?_,rfl,rfl,rfl⟩
     simp only [QU,forall_eq,XG,false_or,ne_eq,List.map_eq_nil_iff];simpa using hg
   . rename_i hd;obtain rfl:=QA h
     refine ⟨_,by simp [Iz,SV.s,SV.v,SV.c,Sh.cells,hd1,hd];rfl,?_,rfl,rfl,rfl⟩
     simp only [QU,forall_eq,XG,false_or,ne_eq,List.map_eq_nil_iff];simpa using hg
   . cases h
 . split at h
   . rename_i hd;obtain rfl:=QA h
     exact ⟨_,by simp [Iz,SV.s,SV.v,SV.c,Sh.cells,hd1,hd];rfl,by simp [Res.pure],rfl,rfl,rfl⟩
   . rename_i hd;obtain rfl:=QA h
     exact ⟨_,by simp [Iz,SV.s,SV.v,SV.c,Sh.cells,hd1,hd];rfl,by simp [Res.pure],rfl,rfl,rfl⟩
   . cases h
 . rename_i cs ds;split at h
   . rename_i ti hti;split at h
     . rename_i fs hfs
       cases hcmp:ti.cmp with
       | false=>rw [hcmp] at h;cases h
       | true =>
        rw [hcmp] at h;simp only [cond] at h;split at h
        . simp only [QI] at h;obtain ⟨b,hb,rfl⟩:=h;refine By.of_eq ?_;simp only [Iz,SV.s,SV.v,hti,hfs,hcmp,cond,B9h hb,QV]
        . simp only [QI] at h;obtain ⟨b,hb,rfl⟩:=h;refine By.of_eq ?_;simp only [Iz,SV.s,SV.v,hti,hfs,hcmp,cond,B9h hb,QV]
        . cases h
     . cases h
   . cases h
 . cases h
theorem Blc {L:Nat->Nat} {op:UnOp} {x:SV} {r:R3} (h:un3 op x=some r):By L r (B2l op (x.s L)):=by
 unfold un3 at h;split at h
 . obtain rfl:=QA h;exact By.pure rfl
 . obtain rfl:=QA h;exact By.pure rfl
 . cases h
theorem Xy {x:SV} {r:R3} (h:K2 x=some r):r = .pure x/\x.alive=true:=by
 unfold K2 at h
 cases ha:x.alive with
 | false=>rw [ha] at h;cases h
 | true=>rw [ha] at h;exact ⟨(QA h).symm,rfl⟩
theorem Bb5 {c a b:SV} {r:R3} (h:Az9 c a b=some r) :
  ∃ y,c = .d .bool y/\r.eff = .none/\r.g=true/\r.val=(match y with | true=>a | false=>b)/\r.val.alive=true:=by
 have key:∀ y:Bool,(match y with | true=>K2 a | false=>K2 b)=some r->r.eff = .none/\r.g=true/\r.val=(match y with | true=>a | false=>b)/\r.val.alive=true:=by
  intro y h
  cases y with
  | true=>obtain ⟨rfl,ha⟩:=Xy h;exact ⟨rfl,rfl,rfl,ha⟩
  | false=>obtain ⟨rfl,ha⟩:=Xy h;exact ⟨rfl,rfl,rfl,ha⟩
 unfold Az9 at h;split at h
 . rename_i y;refine ⟨y,rfl,?_⟩;split at h
   . rename_i t x t' x';split at h
     . rename_i z hz;obtain ⟨e,he⟩:=Sh.to_some hz;subst e;obtain rfl:=QA h;simp only at he;subst he
       cases y <;> exact ⟨rfl,rfl,rfl,rfl⟩
     . exact key y h
   . exact key y h
 . cases h
theorem Jk {L:Nat->Nat} {ti:TI} {cs:List SV} {v:SV} (h:Mp ti cs=some v) (hc:cs.all SV.cellB=true):Ip ti (cs.map (SV.c L))=some (v.v L)/\v.s L = .v (v.v L):=by
 unfold Mp at h;unfold Ip
 cases hd:Hd ti.d with
 | true =>
  rw [hd] at h;simp only [cond,QF] at h;subst h;simp only [cond]
  exact ⟨by simp [SV.v,JP],rfl⟩
 | false =>
  rw [hd] at h;simp only [cond] at h ⊢;split at h
  . rename_i c r;obtain rfl:=QA h;simp only [XJ,QH] at hc;simp only [QT];have:=hc.1
    cases c <;> first | exact ⟨rfl,rfl⟩ | cases this
  . cases h
theorem L4:∀ (t:Sh) (x:t.den),(t.exp x).all SV.cellB=true/\(t.exp x).all SV.isD=true:=by
 intro t
 induction t with
 | pair a b iha ihb=>intro x;simp [Sh.exp,iha,ihb]
 | st t ih=>intro x;exact ih x
 | unit=>intro x;exact ⟨rfl,rfl⟩
 | _=>intro x;exact ⟨rfl,rfl⟩
theorem A08 {α:Type} {p:α->Bool} {l:List α} (n:Nat) (h:l.all p=true):(l.drop n).all p=true :=
 QK.2 λx hx=>QK.1 h x (List.mem_of_mem_drop hx)
theorem U5 {x:SV} (h:x.isD=true):x.cellB=true:=by cases x <;> first | exact h | cases h
theorem Afq {x:SV} (h:x.isD=true):x.imm=true:=by cases x <;> first | exact h | cases h
theorem Azl {L:Nat->Nat} {x:SV} (h:x.isD=true):x.c L = .i x.i0:=by cases x <;> first | rfl | cases h
theorem Ii {α:Type} {p q:α->Bool} {l:List α} (hpq:∀ x,p x=true->q x=true) (h:l.all p=true):l.all q=true :=
 QK.2 λx hx=>hpq x (QK.1 h x hx)
theorem Avp {L:Nat->Nat} {cs:List SV} (h:cs.all SV.isD=true):cs.map (SV.c L)=(cs.map SV.i0).map .i:=by
 rw [XC];exact ZE λx hx=>Azl (QK.1 h x hx)
theorem Afi {L:Nat->Nat} {x:SV} {cs:List SV} (h:x.refs=some cs):x.s L = .v (.one (.i (.ref 0 (cs.map SV.i0))))/\cs.all SV.isD=true:=by
 unfold SV.refs at h;split at h
 . obtain rfl:=QA h;rename_i t y;refine ⟨?_,(L4 t y).2⟩;rw [B9f];rfl
 . rename_i ds
   cases hd:ds.all SV.isD with
   | false=>rw [hd] at h;cases h
   | true =>
    rw [hd] at h;obtain rfl:=QA h;exact ⟨rfl,hd⟩
 . cases h
def B3.wf:B3->Bool
 | .arr _ _ _ _=>true
 | .rep _ _ _ cs=>cs.all SV.cellB
 | .var _ _ _ cs=>cs.all SV.cellB
 | .tree _ _ _ _=>true
 | .hole _ _ _ _ _ _ _=>true
end Go.Ev

/- DERIVED. The operations over shapes, one by one. -/
namespace Go.Ev
open Go
variable {T:Ty}
theorem Uq {L:Nat->Nat} {x:SV} {ys:List SV} (h:x.cellsV=some ys):x.s L = .v (x.v L)/\(x.v L).cells=ys.map (SV.c L)/\ys.all SV.cellB=true:=by
 unfold SV.cellsV at h;split at h
 . rename_i cs
   cases hc:cs.all SV.cellB with
   | false=>rw [hc] at h;cases h
   | true =>
    rw [hc] at h;obtain rfl:=QA h;exact ⟨rfl,rfl,hc⟩
 . cases h
 . cases h
 . rename_i h1 h2 h3
   cases hc:x.cellB with
   | false=>rw [hc] at h;cases h
   | true =>
    rw [hc] at h;obtain rfl:=QA h
    cases x <;> first | exact ⟨rfl,rfl,by simp [hc]⟩ | cases hc
theorem Y1 {L:Nat->Nat} {ti:TI} {x:SV}:(x.v L).fits ti=x.fits3 ti:=by
 cases x <;> first | rfl | simp [SV.v,V.fits,SV.fits3]
theorem Tw {L:Nat->Nat} (r:List SV) (col:Nat) (cs:List SV):(Im r col cs).map (SV.c L)=Du (r.map (SV.c L)) col (cs.map (SV.c L)):=by
 simp [Im,Du,JP,KM]
theorem Ch (L:Nat->Nat) (bs:List (Nat × B3)) (h:Nat):A1 h (Am (B3.box L) bs)=(A1 h bs).map (B3.box L):=Au _ _ _
theorem Bba {L:Nat->Nat} {t:TypeId} {x:SV} {bs:List (Nat × B3)} {r:R3} (h:A4w T t x bs=some r) (hg:r.g=true) :
  ∃ hint,By L r (Jy T hint t (x.s L) (A1 · (Am (B3.box L) bs))):=by
 unfold A4w at h;split at h
 . cases h
 . rename_i ti hti;split at h
   . rename_i hh row col;split at h
     . rename_i e sh fz xs hl
       cases hc:Nat.ble (col+ti.size) sh.size with
       | false=>rw [hc] at h;cases h
       | true =>
        rw [hc] at h;simp only [cond,QI] at h;obtain ⟨v,hv,rfl⟩:=h;simp only [QO] at hg;obtain ⟨h1,h2⟩:=Jk (L:=L) hv (A08 _ (L4 _ _).1);rw [KM,Qb] at h1;refine ⟨some ((sh.cells (xs.getD row sh.dflt)).map .i),⟨.v (v.v L),.none,[(xs.map λx=>(sh.cells x).map C.i)[row]? = some ((sh.cells (xs.getD row sh.dflt)).map .i)]⟩,?_,?_,h2.symm,rfl,rfl⟩
        . simp only [Jy,hti,En,F9,Fa,J4,F8,Ch,hl,QV,B3.box,hc,ZW,XR,ZO,cond,h1,XY]
        . simp only [QU,forall_eq,QQ,QN hg,QV,QJ,YN]
     . rename_i e fz n cs hl
       cases hc:(Nat.ble (col+ti.size) cs.length&&cs.all SV.cellB) with
       | false=>rw [hc] at h;cases h
       | true =>
        rw [hc] at h;simp only [QH] at hc;simp only [cond,QI] at h;obtain ⟨v,hv,rfl⟩:=h;simp only [QO] at hg;obtain ⟨h1,h2⟩:=Jk (L:=L) hv (A08 _ hc.2);rw [KM] at h1;refine ⟨some (cs.map (SV.c L)),⟨.v (v.v L),.none,[(List.replicate n (cs.map (SV.c L)))[row]? = some (cs.map (SV.c L))]⟩,?_,?_,h2.symm,rfl,rfl⟩
        . simp only [Jy,hti,En,F9,Fa,J4,F8,Ch,hl,QV,B3.box,hc.1,ZW,XR,ZO,cond,h1,XY]
        . simp only [QU,forall_eq,XX,hg,if_true]
     . rename_i e hf fz cs hl
       cases hc:(Nat.beq row 0&&Nat.ble (col+ti.size) cs.length&&cs.all SV.cellB) with
       | false=>rw [hc] at h;cases h
       | true =>
        rw [hc] at h;simp only [QH] at hc;obtain rfl:=QD hc.1.1;simp only [cond,QI] at h;obtain ⟨v,hv,rfl⟩:=h;obtain ⟨h1,h2⟩:=Jk (L:=L) hv (A08 _ hc.2);rw [KM] at h1
        refine ⟨none,⟨.v (v.v L),.none,[]⟩,?_,by simp,h2.symm,rfl,rfl⟩
        simp only [Jy,hti,En,F9,Fa,J4,F8,Ch,hl,QV,B3.box,hc.1.2,ZW,XR,ZO,cond,h1,XY]
     . cases h
     . cases h
     . cases h
   . rename_i hnp;split at h
     . rename_i cs hrf;obtain ⟨h1,h2⟩:=Afi (L:=L) hrf
       cases hc:Nat.ble ti.size cs.length with
       | false=>rw [hc] at h;cases h
       | true =>
        rw [hc] at h;simp only [cond,QI] at h;obtain ⟨v,hv,rfl⟩:=h;obtain ⟨h3,h4⟩:=Jk (L:=L) hv (Ii (λ_=>U5) h2);rw [Avp h2] at h3;refine ⟨none,⟨.v (v.v L),.none,[ti.size<=(cs.map SV.i0).length]⟩,?_,?_,h4.symm,rfl,rfl⟩
        . simp only [Jy,hti,h1,h3,XY]
        . intro p hp;simp only [ZA,QU] at hp;subst hp;exact XO hc
     . cases h
theorem B4k {L:Nat->Nat} {x:SV} (h:x.litC=true):(x.c L).okT=true/\Dc (x.c L)=true:=by
 cases x with
 | d t y=>cases t <;> first | exact ⟨rfl,rfl⟩ | cases h
 | _=>cases h
theorem B3f {L:Nat->Nat} {t:TypeId} {a x:SV} {bs:List (Nat × B3)} {r:R3} (h:A1c T t a x bs=some r) (hg:r.g=true) :
  ∃ hint q hh b b0,Nh T hint t (a.s L) (x.s L) (A1 · (Am (B3.box L) bs))=some q/\(∀ p ∈ q.ob,p)/\q.val=r.val.s L/\r.eff = .set hh b/\A1 hh bs=some b0/\b.len=b0.len/\q.eff = .set hh (b.box L):=by
 unfold A1c at h;split at h
 . cases h
 . rename_i ti hti;split at h
   . rename_i hh row col ys hys;obtain ⟨k1,k2,k3⟩:=Uq (L:=L) hys
     have kall:ys.all SV.imm=true->(ys.map (SV.c L)).all Dc=true:=λhi=>by
      simp only [YB];exact Ii (p:=SV.imm) (λx hx=>Qo hx) hi
     have kimm:(ys.map (SV.c L)).all Dc=ys.all SV.imm:=by
      rw [YB];apply Qbj.2;simp only [QK,Function.comp];constructor
      . intro hh' x hx;rw [<- Mr (QK.1 k3 x hx)];exact hh' x hx
      . intro hh' x hx;rw [Mr (QK.1 k3 x hx)];exact hh' x hx
     split at h
     . rename_i e sh fz xs hl
       cases hc:(Nat.ble (col+ti.size) sh.size&&x.fits3 ti && !fz&&ys.all SV.imm) with
       | false=>rw [hc] at h;cases h
       | true =>
        rw [hc] at h;simp only [cond] at h;simp only [QH] at hc;split at h
        . rename_i y hy;obtain rfl:=QA h;simp only [QO] at hg;obtain ⟨c1,_,_,_⟩:=Et hy;have c1:=c1 L;rw [Tw,Qb] at c1
          refine ⟨some ((sh.cells (xs.getD row sh.dflt)).map .i),⟨.dead,.set hh ((B3.arr e sh fz (xs.set row y)).box L),[(xs.map λx=>(sh.cells x).map C.i)[row]? = some ((sh.cells (xs.getD row sh.dflt)).map .i)]⟩,hh,_,_,?_,?_,rfl,rfl,hl,by simp [B3.len],rfl⟩
          . simp only [Nh,hti,k1,En,F9,Fa,J4,F8,Ch,hl,QV,B3.box,Y1,hc.1.1.1,hc.1.1.2,hc.1.2,ZO,ZW,Qac,XR,ZO,cond,k2,kall hc.2,c1,List.map_set]
          . simp only [QU,forall_eq,QQ,QN hg,QV,QJ,YN]
        . cases h
     . rename_i e sh fz xs hl
       cases hc:(Nat.ble (col+ti.size) sh.size&&x.fits3 ti && !fz&&ys.all SV.litC) with
       | false=>rw [hc] at h;cases h
       | true =>
        rw [hc] at h;simp only [cond] at h;simp only [QH] at hc
        have kl:(ys.map (SV.c L)).all C.okT=true:=by
         simp only [YB];exact Ii (p:=SV.litC) (λx hx=>(B4k hx).1) hc.2
        have ki:(ys.map (SV.c L)).all Dc=true:=by
         simp only [YB];exact Ii (p:=SV.litC) (λx hx=>(B4k hx).2) hc.2
        split at h
        . rename_i y hy;obtain rfl:=QA h;simp only [QO] at hg;obtain ⟨c1,_,_,_⟩:=Et hy;have c1:=c1 L;rw [Tw,Qb] at c1
          refine ⟨some ((sh.cells (xs.getD row sh.dflt)).map .i),⟨.dead,.set hh ((B3.tree e sh fz (xs.set row y)).box L),[(xs.map λx=>(sh.cells x).map C.i)[row]? = some ((sh.cells (xs.getD row sh.dflt)).map .i)]⟩,hh,_,_,?_,?_,rfl,rfl,hl,by simp [B3.len],rfl⟩
          . simp only [Nh,hti,k1,En,F9,Fa,J4,F8,Ch,hl,QV,B3.box,Y1,hc.1.1.1,hc.1.1.2,hc.1.2,ZO,ZJ,YJ,XR,ZO,cond,k2,kl,ki,c1,List.map_set]
          . simp only [QU,forall_eq,QQ,QN hg,QV,QJ,YN]
        . cases h
     . rename_i e hf fz cs hl
       cases hc:(Nat.beq row 0&&Nat.ble (col+ti.size) cs.length&&x.fits3 ti && !fz) with
       | false=>rw [hc] at h;cases h
       | true =>
        rw [hc] at h;simp only [cond] at h;simp only [QH] at hc;obtain rfl:=QA h;obtain rfl:=QD hc.1.1.1;have hle:=XO hc.1.1.2
        have hlen:(Im cs col ys).length=cs.length:=by
         have hf':=hc.1.2;rw [<- Y1 (L:=L)] at hf'
         have:ys.length=ti.size:=by
          have e1:(x.v L).cells.length=ys.length:=by rw [k2];simp
          cases hx:x.v L with
          | one c=>rw [hx] at hf' e1;simp only [V.fits,QH] at hf';have:=QD hf'.1;simp [V.cells] at e1;omega
          | agg ds=>rw [hx] at hf' e1;simp only [V.fits,QH] at hf';have:=QD hf'.1;simp [V.cells] at e1;omega
         simp [Im];omega
        refine ⟨none,⟨.dead,.set hh ((B3.var e (hf&&ys.all SV.imm) fz (Im cs col ys)).box L),[]⟩,hh,_,_,?_,by simp,rfl,rfl,hl,rfl,rfl⟩
        simp only [Nh,hti,k1,En,F9,Fa,J4,F8,Ch,hl,QV,B3.box,Y1,hc.1.1.2,hc.1.2,hc.2,ZO,ZW,Qac,XR,ZO,cond,k2,kimm,Tw,hlen]
     . cases h
   . cases h
theorem B53 {L:Nat->Nat} {t:TypeId} {x:SV} {f:Nat} {r:R3} (h:Acy T t x f=some r):By L r (R2 T t (x.s L) f):=by
 unfold Acy at h;split at h
 . rename_i fs hd;split at h
   . cases h
   . rename_i fd hfd;split at h
     . cases h
     . rename_i fi hfi
       cases hc:Nat.beq fi.size 0 with
       | true=>rw [hc] at h;cases h
       | false =>
        rw [hc] at h;simp only [cond] at h;split at h
        . obtain rfl:=QA h
          refine ⟨.pure _,?_,by simp [Res.pure],rfl,rfl,rfl⟩
          simp only [R2,hd,hfd,hfi,hc,cond,En,F9,Fa,J4,F8];rfl
        . split at h
          . rename_i cs hrf;obtain rfl:=QA h;obtain ⟨h1,h2⟩:=Afi (L:=L) hrf
            refine ⟨.pure _,?_,by simp [Res.pure],rfl,rfl,rfl⟩
            simp only [R2,hd,hfd,hfi,hc,cond,h1];rw [<- KM];rfl
          . cases h
 . cases h
theorem Ms {L:Nat->Nat} {x:SV} {n:Int} (h:Q5 x=some n):Qg (x.s L)=some n:=by
 unfold Q5 at h;split at h
 . obtain rfl:=QA h;rfl
 . cases h
theorem Q0 {L:Nat->Nat} {b:B3}:(b.box L).sz=b.rowSize:=by cases b <;> rfl
theorem Aft {sh:Sh} {xs:List sh.den} {i:Nat} (h:i<xs.length):(xs.map sh.cells).getD i []=sh.cells (xs.getD i sh.dflt):=by
 simp [QJ,QQ,QN h]
theorem B4w {s:St3} {t:TypeId} {x ix:SV} {r:R3} (h:Acl T t x ix s.boxes=some r) (hg:r.g=true) :
  By (A5 s.boxes) r (Nj T t (x.s (A5 s.boxes)) (ix.s (A5 s.boxes)) (A1 · (Am (B3.box (A5 s.boxes)) s.boxes))):=by
 unfold Acl at h;split at h
 . rename_i e i hd hi;have hi':=Ms (L:=A5 s.boxes) hi;split at h
   . cases h
   . rename_i ei hei;split at h
     . rename_i hh;split at h
       . cases h
       . rename_i b hl
         cases hc:Nat.beq b.rowSize ei.size with
         | false=>rw [hc] at h;cases h
         | true =>
          rw [hc] at h;obtain rfl:=QA h;simp only [QH,QO] at hg
          have hle:A5 s.boxes hh=b.len:=by simp [A5,hl]
          refine ⟨⟨.v (.one (.hp hh (0+i.toNat) 0)),.none,[0<=i,i<((A5 s.boxes hh:Nat):Int)]⟩,?_,?_,?_,rfl,rfl⟩
          . simp only [Nj,hd,hi',hei,En,F9,Fa,J4,F8,Ch,hl,QV,Q0,hc,cond]
          . simp only [QX,YK,or_false,forall_eq_or_imp,forall_eq,hle];exact hg
          . simp [En,F9,Fa,J4,F8]
     . rename_i hh off len;split at h
       . cases h
       . rename_i b hl
         cases hc:Nat.beq b.rowSize ei.size with
         | false=>rw [hc] at h;cases h
         | true =>
          rw [hc] at h;obtain rfl:=QA h;simp only [QH,QO] at hg;refine ⟨⟨.v (.one (.hp hh (off+i.toNat) 0)),.none,[0<=i,i<(len:Int)]⟩,?_,?_,rfl,rfl,rfl⟩
          . simp only [Nj,hd,hi',hei,En,F9,Fa,J4,F8,Ch,hl,QV,Q0,hc,cond]
          . simp only [QX,YK,or_false,forall_eq_or_imp,forall_eq];exact hg
     . rename_i sh xs
       cases hc:Nat.beq sh.size ei.size with
       | false=>rw [hc] at h;cases h
       | true =>
        rw [hc] at h;obtain rfl:=QA h;simp only [QH,QO] at hg;refine ⟨⟨.v (.one (.i (.ref 0 ((xs.map sh.cells).getD i.toNat [])))),.none,[0<=i,i<((xs.map sh.cells).length:Int)]⟩,?_,?_,?_,rfl,rfl⟩
        . simp only [Nj,hd,hi',hei,En,F9,Fa,J4,F8,Sh.cells,hd1,hc,cond]
        . simp only [QX,YK,or_false,forall_eq_or_imp,forall_eq,ZA];exact hg
        . rw [Aft (by omega)]
          rfl
     . cases h
 . cases h
theorem Ao6 {L:Nat->Nat} {lo:Option SV} {n:Int} (h:lo3 lo=some n):Afn (lo.map (SV.s L))=some n:=by
 cases lo with
 | none=>exact h
 | some v=>exact Ms h
theorem hi3_ok {L:Nat->Nat} {k:Nat} {hi:Option SV} {n:Int} (h:hi3 k hi=some n):hiOf k (hi.map (SV.s L))=some n:=by
 cases hi with
 | none=>exact h
 | some v=>exact Ms h
theorem B3k {s:St3} {t:TypeId} {x:SV} {lo hi:Option SV} {r:R3} (h:A1e T t x lo hi s.boxes=some r) (hg:r.g=true) :
  By (A5 s.boxes) r (Ni T t (x.s (A5 s.boxes)) (lo.map (SV.s (A5 s.boxes))) (hi.map (SV.s (A5 s.boxes))) (A1 · (Am (B3.box (A5 s.boxes)) s.boxes))):=by
 unfold A1e at h;split at h
 . rename_i e hd;split at h
   . cases h
   . rename_i ei hei;split at h
     . rename_i hh;split at h
       . cases h
       . rename_i b hl
         cases hc:Nat.beq b.rowSize ei.size with
         | false=>rw [hc] at h;cases h
         | true =>
          rw [hc] at h;simp only [cond] at h;split at h
          . rename_i l u h1 h2;obtain rfl:=QA h;simp only [QH,QO] at hg
            have hle:A5 s.boxes hh=b.len:=by simp [A5,hl]
            have h1:=Ao6 (L:=A5 s.boxes) h1;have h2:=hi3_ok (L:=A5 s.boxes) h2;rw [<- hle] at h2;refine ⟨⟨.v (.one (.hs hh (0+l.toNat) (u.toNat-l.toNat))),.none,[0<=l,l<=u,u<=((A5 s.boxes hh:Nat):Int)]⟩,?_,?_,?_,rfl,rfl⟩
            . simp only [Ni,hd,hei,En,F9,Fa,J4,F8,Ch,hl,QV,Q0,hc,cond,h1,h2]
            . simp only [QX,YK,or_false,forall_eq_or_imp,forall_eq,hle];exact ⟨hg.1.1,hg.1.2,hg.2⟩
            . simp [En,F9,Fa,J4,F8]
          . cases h
     . rename_i hh off len;split at h
       . cases h
       . rename_i b hl
         cases hc:Nat.beq b.rowSize ei.size with
         | false=>rw [hc] at h;cases h
         | true =>
          rw [hc] at h;simp only [cond] at h;split at h
          . rename_i l u h1 h2;obtain rfl:=QA h;simp only [QH,QO] at hg;have h1:=Ao6 (L:=A5 s.boxes) h1;have h2:=hi3_ok (L:=A5 s.boxes) h2;refine ⟨⟨.v (.one (.hs hh (off+l.toNat) (u.toNat-l.toNat))),.none,[0<=l,l<=u,u<=(len:Int)]⟩,?_,?_,rfl,rfl,rfl⟩
            . simp only [Ni,hd,hei,En,F9,Fa,J4,F8,Ch,hl,QV,Q0,hc,cond,h1,h2]
            . simp only [QX,YK,or_false,forall_eq_or_imp,forall_eq];exact ⟨hg.1.1,hg.1.2,hg.2⟩
          . cases h
     . rename_i sh xs
       cases hc:Nat.beq sh.size ei.size with
       | false=>rw [hc] at h;cases h
       | true =>
        rw [hc] at h;simp only [cond] at h;split at h
        . rename_i l u h1 h2;obtain rfl:=QA h;simp only [QH,QO] at hg;have h1:=Ao6 (L:=A5 s.boxes) h1;have h2:=hi3_ok (L:=A5 s.boxes) h2
          have hl:(xs.map sh.cells).length=xs.length:=by simp
          rw [<- hl] at h2;refine ⟨⟨.v (.one (.i (.sl 0 false sh.size (((xs.map sh.cells).drop l.toNat).take (u.toNat-l.toNat))))),.none,[0<=l,l<=u,u<=((xs.map sh.cells).length:Int)]⟩,?_,?_,?_,rfl,rfl⟩
          . simp only [Ni,hd,hei,En,F9,Fa,J4,F8,Sh.cells,hd1,hc,cond,h1,h2]
          . simp only [QX,YK,or_false,forall_eq_or_imp,forall_eq,hl];exact ⟨hg.1.1,hg.1.2,hg.2⟩
          . simp [En,F9,Fa,J4,F8,Sh.cells,hd1,JP,KM]
        . cases h
     . cases h
 . cases h
theorem Bh6 {s:St3} {t:TypeId} {x:SV} {r:R3} (h:Azh T t x s.boxes=some r):By (A5 s.boxes) r (O4 T t (x.s (A5 s.boxes))):=by
 unfold Azh at h;split at h
 . rename_i e hd;split at h
   . obtain rfl:=QA h
     exact ⟨.pure _,by simp only [O4,hd,En,F9,Fa,J4,F8];rfl,by simp [Res.pure],rfl,rfl,rfl⟩
   . rename_i hh;split at h
     . rename_i b hl;obtain rfl:=QA h
       have hle:A5 s.boxes hh=b.len:=by simp [A5,hl]
       refine ⟨.pure (.int (A5 s.boxes hh)),by simp only [O4,hd,En,F9,Fa,J4,F8],by simp [Res.pure],?_,rfl,rfl⟩
       rw [hle];rfl
     . cases h
   . rename_i sh xs;obtain rfl:=QA h
     refine ⟨.pure (.int ((xs.map sh.cells).length:Nat)),by simp only [O4,hd,En,F9,Fa,J4,F8,Sh.cells,hd1],by simp [Res.pure],?_,rfl,rfl⟩
     rw [ZA];rfl
   . obtain rfl:=QA h
     exact ⟨.pure _,by simp only [O4,hd,En,F9,Fa,J4,F8,Sh.cells,hd1];rfl,by simp [Res.pure],rfl,rfl,rfl⟩
   . cases h
 . rename_i hd;split at h
   . obtain rfl:=QA h
     exact ⟨.pure _,by simp only [O4,hd,En,F9,Fa,J4,F8,Sh.cells,hd1];rfl,by simp [Res.pure],rfl,rfl,rfl⟩
   . cases h
 . cases h
theorem Ave {L:Nat->Nat} {mx:Bool} {x y:SV} {r:R3} (h:Afm mx x y=some r):By L r (Um mx (x.s L) (y.s L)):=by
 unfold Afm at h;split at h
 . rename_i a b h1 h2;obtain rfl:=QA h
   refine ⟨.pure (.int (if (if mx then b>a else b<a) then b else a)),by simp only [Um,Ms h1,Ms h2],by simp [Res.pure],?_,rfl,rfl⟩
   cases mx with
   | true=>have:=Blw a b;exact this
   | false=>have:=Blv a b;exact this
 . cases h
theorem Bei {L:Nat->Nat} {src dst:TypeId} {x:SV} {r:R3} (h:Amh T src dst x=some r):By L r (A3w T src dst (x.s L)):=by
 unfold Amh at h;split at h
 . rename_i h1 h2;obtain rfl:=QA h
   exact ⟨.pure _,by simp only [A3w,h1,h2,En,F9,Fa,J4,F8,Sh.cells,hd1];rfl,by simp [Res.pure],rfl,rfl,rfl⟩
 . cases h
theorem Bh3 {L:Nat->Nat} {x:SV} {r:R3} (h:Bb7 x=some r):By L r (B2m (x.s L)):=by
 unfold Bb7 at h;split at h <;> first | (obtain rfl:=QA h;exact By.pure rfl) | cases h
theorem Auj {L:Nat->Nat} {x:SV} {k:Nat} {r:R3} (h:Abb x k=some r):By L r (Un (x.s L) k):=by
 unfold Abb at h;split at h
 . rename_i xs;split at h
   . cases h
   . cases h
   . rename_i y h1 h2 hk;obtain rfl:=QA h
     refine ⟨.pure (.v (y.v L)),by simp only [Un,SV.s,QQ,hk,QV],by simp [Res.pure],?_,rfl,rfl⟩
     cases y <;> first | rfl | exact absurd rfl (h1 _) | exact absurd rfl h2
   . cases h
 . cases h
theorem Aou {L:Nat->Nat} {fs:Array Field}:∀ (ps:List (Nat × SV)) (cs ds:List SV),A4z T fs ps cs=some ds->Oz T fs (ps.map λp=>(p.1,p.2.s L)) (cs.map (SV.c L))=some (ds.map (SV.c L))
 | [],cs,ds,h=>by obtain rfl:=QA h;rfl
 | (i,v)::r,cs,ds,h=>by
  simp only [A4z] at h;split at h
  . rename_i f ys hf hys;obtain ⟨k1,k2,_⟩:=Uq (L:=L) hys;split at h
    . rename_i fi hfi
      cases hc:(Nat.beq ys.length fi.size&&Nat.ble (f.offset+fi.size) cs.length) with
      | false=>rw [hc] at h;cases h
      | true =>
       rw [hc] at h;simp only [cond] at h;have ih:=Aou (L:=L) r _ _ h;rw [Tw] at ih;simp only [QT,k1,Oz,hf,hfi,k2,ZA,hc,cond];exact ih
    . cases h
  . cases h
theorem Aii {L:Nat->Nat}:∀ {vs:List Value} {z:List SV},Acd vs=some z->z.map (SV.c L)=vs.map (λv=>.i (.lit v))/\z.all SV.isD=true
 | [],z,h=>by obtain rfl:=QA h;exact ⟨rfl,rfl⟩
 | v::r,z,h=>by
  simp only [Acd] at h;split at h
  . rename_i x xs hx hxs;obtain rfl:=QA h;obtain ⟨h1,h2⟩:=Aii (L:=L) hxs;obtain ⟨_,h3,h4⟩:=Avh (L:=L) hx
    exact ⟨by simp [h1,h3],by simp [h2,h4]⟩
  . cases h
theorem A7w {L:Nat->Nat} {ti:TI} {z:List SV} (h:Alt ti=some z):z.map (SV.c L)=Cj ti/\z.all SV.isD=true:=Aii h
theorem B9y {L:Nat->Nat} {t:TypeId} {ps:List (Nat × SV)} {r:R3} (h:Aes T t ps=some r):By L r (R4 T t (ps.map λp=>(p.1,p.2.s L))):=by
 unfold Aes at h;split at h
 . rename_i ti hti;split at h
   . rename_i fs z hd hz
     cases hc:fs.toList.all (λf=>(T f.type).isSome) with
     | false=>rw [hc] at h;cases h
     | true =>
      rw [hc] at h;simp only [cond] at h;split at h
      . rename_i cs hcs;obtain rfl:=QA h;have:=Aou (L:=L) _ _ _ hcs;rw [(A7w hz).1] at this
        exact ⟨.pure _,by simp only [R4,hti,hd,hc,cond,this];rfl,by simp [Res.pure],rfl,rfl,rfl⟩
      . cases h
   . cases h
 . cases h
theorem V2 {L:Nat->Nat}:∀ (i:Nat) (ps:List (Nat × SV)) (rows:List (List SV)),Fv i ps=some rows->Eb i (ps.map λp=>(p.1,p.2.s L))=some (rows.map λr=>r.map (SV.c L))
 | _,[],rows,h=>by obtain rfl:=QA h;rfl
 | i,(j,v)::r,rows,h=>by
  simp only [Fv] at h
  cases hc:Nat.beq i j with
  | false=>rw [hc] at h;cases h
  | true =>
   rw [hc] at h;simp only [cond] at h;split at h
   . rename_i cs q hcs hq;obtain rfl:=QA h;obtain ⟨k1,k2,_⟩:=Uq (L:=L) hcs;have ih:=V2 (L:=L) _ _ _ hq;simp only [QT,k1,Eb,hc,cond,ih,QV,k2]
   . cases h
theorem Acn {L:Nat->Nat} {t:Sh}:∀ {rows:List (List SV)} {xs:List t.den},A4y t rows=some xs->(rows.map λr=>r.map (SV.c L))=xs.map (λx=>(t.cells x).map .i)/\(rows.all λr=>r.all SV.imm)=true
 | [],xs,h=>by obtain rfl:=QA h;exact ⟨rfl,rfl⟩
 | r::q,xs,h=>by
  simp only [A4y] at h;split at h
  . rename_i y ys hy hys;obtain rfl:=QA h;obtain ⟨h1,h2⟩:=Acn (L:=L) hys;obtain ⟨h3,h4,_⟩:=Et hy
    exact ⟨by simp [h1,h3 L],by simp [h2,h4]⟩
  . cases h
end Go.Ev

/- DERIVED. One operation over shapes. -/
namespace Go.Ev
open Go
variable {T:Ty}
def B3.freeze:B3->B3
 | .arr e t _ xs=>.arr e t true xs
 | .rep e _ n cs=>.rep e true n cs
 | .var e hf _ cs=>.var e hf true cs
 | .tree e t _ xs=>.tree e t true xs
 | .hole e t _ xs r c k=>.hole e t true xs r c k
def C9 (bs:List (Nat × B3)):List Nat->List (Nat × B3)
 | []=>bs
 | h::r=>C9 (match A1 h bs with | some b=>B2 h b.freeze bs | none=>bs) r
theorem Azp (b:B3):b.freeze.len=b.len:=by cases b <;> rfl
theorem Azq (L:Nat->Nat) (b:B3):b.freeze.box L={ b.box L with fz:=true }:=by cases b <;> rfl
theorem E6:∀ (ks:List Nat) (bs:List (Nat × B3)),A5 (C9 bs ks)=A5 bs
 | [],_=>rfl
 | h::r,bs=>by
  simp only [C9];rw [E6 r]
  cases hl:A1 h bs with
  | none=>rfl
  | some b=>exact Aij hl (Azp b)
theorem Iq (L:Nat->Nat):∀ (ks:List Nat) (bs:List (Nat × B3)),Bk (Am (B3.box L) bs) ks=Am (B3.box L) (C9 bs ks)
 | [],_=>rfl
 | h::r,bs=>by
  simp only [Bk,C9,Ch]
  cases hl:A1 h bs with
  | none=>exact Iq L r bs
  | some b =>
   simp only [QV];rw [<- Azq,Gs];exact Iq L r _
theorem F0 {a t:Sh} {xs:List a.den} {ys:List t.den} (h:(Sh.sl a).to (.sl t) xs=some ys):∃ e:a=t,e ▸ xs=ys:=by
 obtain ⟨e,he⟩:=Sh.to_some h
 cases e;exact ⟨rfl,he⟩
theorem Auw {t:Sh} {x:SV} {bs:List (Nat × B3)} {g:Bool} {ys:List t.den} (h:Ayv t x bs=some (g,ys)) (hg:g=true) :
  ∃ obs,Ga t.size (x.s (A5 bs)) (A1 · (Am (B3.box (A5 bs)) bs))=some (ys.map (λy=>(t.cells y).map .i),obs) /\ ∀ p ∈ obs,p:=by
 unfold Ayv at h;split at h
 . rename_i hh;split at h
   . rename_i e sh fz xs hl;split at h
     . rename_i zs hz;simp only [QF,QL] at h;obtain ⟨_,rfl⟩:=h;obtain ⟨rfl,rfl⟩:=F0 hz
       have hle:A5 bs hh=xs.length:=by simp [A5,hl,B3.len]
       refine ⟨[0+A5 bs hh<=(xs.map λy=>(sh.cells y).map C.i).length],?_,?_⟩
       . simp only [Ga,SV.s,SV.v,SV.c,Ch,hl,QV,B3.box,YC,ZO,ZW,XR,ZO,cond,ZR,hle]
         rw [XS (by simp)]
       . simp [hle]
     . cases h
   . cases h
 . rename_i hh off len;split at h
   . rename_i e sh fz xs hl;split at h
     . rename_i zs hz;simp only [QF,QL] at h;obtain ⟨rfl,rfl⟩:=h;obtain ⟨rfl,rfl⟩:=F0 hz;simp only [QO] at hg
       refine ⟨[off+len<=(xs.map λy=>(sh.cells y).map C.i).length],?_,by intro p hp;simp only [ZA,QU] at hp;subst hp;exact hg⟩
       simp only [Ga,SV.s,SV.v,SV.c,Ch,hl,QV,B3.box,YC,ZO,ZW,XR,ZO,cond,JP,KM]
     . cases h
   . cases h
 . rename_i sh xs;split at h
   . rename_i zs hz;simp only [QF,QL] at h;obtain ⟨_,rfl⟩:=h;obtain ⟨rfl,rfl⟩:=F0 hz
     refine ⟨[],?_,by simp⟩
     simp only [Ga,SV.s,SV.v,SV.c,Sh.cells,hd1,YC,cond,XC];rfl
   . cases h
 . cases h
theorem B4f {a b:List I} (h:a.map C.i=b.map C.i):a=b:=by
 induction a generalizing b with
 | nil=>cases b with | nil=>rfl | cons y r=>cases h
 | cons x q ih=>cases b with
  | nil=>cases h
  | cons y r =>
   simp only [QT,List.cons.injEq,C.i.injEq] at h;rw [h.1,ih h.2]
theorem Bgn (xs:List I):toI (xs.map .i)=some xs:=by
 induction xs with
 | nil=>rfl
 | cons x r ih=>simp [toI,ih]
def SV.toI1:SV->I
 | .rf cs=>.ref 0 (cs.map SV.i0)
 | x=>x.i0
theorem Bkx {L:Nat->Nat} {x c:SV} {bs:List (Nat × B3)} {k:Option Nat} (h:B2q x bs=some (c,k)):Uo (x.s L) (A1 · (Am (B3.box L) bs))=some (c.toI1,k)/\c.c L = .i c.toI1:=by
 unfold B2q at h;split at h
 . rename_i hh;split at h
   . rename_i e hf fz cs hl
     cases hc:(hf&&Nat.blt hh 1000&&cs.all SV.isD) with
     | false=>rw [hc] at h;cases h
     | true =>
      rw [hc] at h;simp only [cond,QF,QL] at h;obtain ⟨rfl,rfl⟩:=h;simp only [QH] at hc;refine ⟨?_,rfl⟩;simp only [Uo,SV.s,SV.v,SV.c,Ch,hl,QV,B3.box,hc.1.1,hc.1.2,ZA,YC,ZO,cond];rw [Avp hc.2,Bgn];rfl
   . cases h
 . split at h
   . rename_i cs hrf;simp only [QF,QL] at h;obtain ⟨rfl,rfl⟩:=h;obtain ⟨h1,h2⟩:=Afi (L:=L) hrf
     exact ⟨by simp only [Uo,h1];rfl,rfl⟩
   . cases h
theorem A7i {s:St3}:∀ {l:List Operand} {cs:List SV} {ks:List Nat},Zz (l.map s.val) s.boxes=some (cs,ks)->∀ y ∈ l,(s.val y).alive=true
 | [],_,_,_,y,hy=>by cases hy
 | x::r,cs,ks,h,y,hy=>by
  simp only [QT,Zz] at h;split at h
  . rename_i c k cs' ks' hc hcs;rcases QX.1 hy with rfl | hy
    . cases e:s.val y <;> first | rfl | (rw [e] at hc;simp [B2q,SV.refs] at hc)
    . exact A7i hcs y hy
  . cases h
theorem Aso {L:Nat->Nat} {bs:List (Nat × B3)}:∀ {xs cs:List SV} {ks:List Nat},Zz xs bs=some (cs,ks)->Hg (xs.map (SV.s L)) (A1 · (Am (B3.box L) bs))=some (cs.map SV.toI1,ks)/\cs.map (SV.c L)=(cs.map SV.toI1).map .i
 | [],cs,ks,h=>by
  simp only [Zz,QF,QL] at h;obtain ⟨rfl,rfl⟩:=h;exact ⟨rfl,rfl⟩
 | x::r,cs,ks,h=>by
  simp only [Zz] at h;split at h
  . rename_i c k cs' ks' hc hcs;simp only [QF,QL] at h;obtain ⟨rfl,rfl⟩:=h;obtain ⟨h1,h2⟩:=Bkx (L:=L) hc;obtain ⟨h3,h4⟩:=Aso (L:=L) hcs
    refine ⟨?_,by simp [h2,h4]⟩
    simp only [QT,Hg,h1,h3];rfl
  . cases h
def L7 (s:St3) (dst:Option Tmp) (r:R3) (q:Res):Prop :=
 match r.eff with
 | .none=>q.eff = .none/\q.val=r.val.s (A5 s.boxes)
 | .new b=>∃ k,dst=some k/\(s.clean k=true->∀ L':Nat->Nat,(∀ j,j ≠ k->L' j=A5 s.boxes j)->L' k=b.len->q.eff = .new (b.box L')/\q.val=r.val.s L')
 | .set h b=>(∃ b0,A1 h s.boxes=some b0/\b.len=b0.len)/\q.eff = .set h (b.box (A5 s.boxes))/\q.val=r.val.s (A5 s.boxes)
 | .app h b=>(∃ e t fz xs,b = .arr e t fz xs) /\ ∀ L':Nat->Nat,L' h=b.len->q.eff = .move h (b.box L')/\q.val=r.val.s L'
 | .frz ks=>q.eff = .freeze ks/\q.val=r.val.s (A5 s.boxes)
theorem By.core {s:St3} {dst:Option Tmp} {r:R3} {r1:Option Res} (h:By (A5 s.boxes) r r1):∃ q,r1=some q/\(∀ p ∈ q.ob,p)/\L7 s dst r q:=by
 obtain ⟨q,h1,h2,h3,h4,h5⟩:=h
 exact ⟨q,h1,h2,by unfold L7;rw [h5];exact ⟨h4,h3⟩⟩
theorem Bw {x:SV} (h:x ≠ .dead):x.alive=true:=by cases x <;> first | rfl | exact absurd rfl h
theorem Hk {x:SV} {n:Int} (h:Q5 x=some n):x.alive=true:=Bw λe=>by subst e;cases h
theorem Tl {x:SV} {ys:List SV} (h:x.cellsV=some ys):x.alive=true:=Bw λe=>by subst e;cases h
theorem A1r {s:St3} {nt:Nat} {ps:Array (Nat × Operand)} (h:∀ p ∈ Ej s ps,p.2.alive=true):Lh (s.st nt) ps=(Ej s ps).map λp=>(p.1,p.2.s (A5 s.boxes)):=by
 unfold Lh Ej;unfold Ej at h;rw [XC]
 exact ZE λp hp=>by
  have:=h (p.1,s.val p.2) (ZK.2 ⟨p,hp,rfl⟩);simp only [Function.comp,Ci rfl this]
theorem A7c {fs:Array Field}:∀ (ps:List (Nat × SV)) (cs ds:List SV),A4z T fs ps cs=some ds->∀ p ∈ ps,p.2.alive=true
 | [],_,_,_,p,hp=>by cases hp
 | (i,v)::r,cs,ds,h,p,hp=>by
  simp only [A4z] at h;split at h
  . rename_i f ys hf hys;split at h
    . rename_i fi hfi
      cases hc:(Nat.beq ys.length fi.size&&Nat.ble (f.offset+fi.size) cs.length) with
      | false=>rw [hc] at h;cases h
      | true =>
       rw [hc] at h;rcases QX.1 hp with rfl | hp
       . exact Tl hys
       . exact A7c r _ _ h p hp
    . cases h
  . cases h
theorem Mq:∀ (i:Nat) (ps:List (Nat × SV)) (rows:List (List SV)),Fv i ps=some rows->∀ p ∈ ps,p.2.alive=true
 | _,[],_,_,p,hp=>by cases hp
 | i,(j,v)::r,rows,h,p,hp=>by
  simp only [Fv] at h
  cases hc:Nat.beq i j with
  | false=>rw [hc] at h;cases h
  | true =>
   rw [hc] at h;simp only [cond] at h;split at h
   . rename_i cs q hcs hq;rcases QX.1 hp with rfl | hp
     . exact Tl hcs
     . exact Mq _ r _ hq p hp
   . cases h
theorem A1z:∀ (i:Nat) (ps:List (Nat × SV)) (rows:List (List SV)),Fv i ps=some rows->rows.length=ps.length
 | _,[],rows,h=>by obtain rfl:=QA h;rfl
 | i,(j,v)::r,rows,h=>by
  simp only [Fv] at h
  cases hc:Nat.beq i j with
  | false=>rw [hc] at h;cases h
  | true =>
   rw [hc] at h;simp only [cond] at h;split at h
   . rename_i cs q hcs hq;obtain rfl:=QA h;simp [A1z _ r _ hq]
   . cases h
theorem Ko {s:St3} {nt:Nat} {lo:Option Operand} {n:Int} {f:Option SV->Option Int} (hf:f (lo.map s.val)=some n) (hd:f (some .dead)=none):(lo.map (s.st nt).val)=(lo.map s.val).map (SV.s (A5 s.boxes)):=by
 cases lo with
 | none=>rfl
 | some x =>
  simp only [QV]
  rw [Ci (nt:=nt) rfl (Bw λe=>by simp only [QV] at hf;rw [e,hd] at hf;cases hf)]
theorem Ai5 {s:St3} {k:Nat} (h:s.clean k=true) (x:Operand):(s.val x).men k=false:=by
 unfold St3.clean at h;simp only [QH,QK] at h
 cases x with
 | tmp t =>
  simp only [St3.val]
  cases hl:A1 t s.slots with
  | none=>rfl
  | some y=>simpa using h.1 _ (A85 hl)
 | const v =>
  simp only [St3.val]
  cases hl:U3 v with
  | none=>rfl
  | some y =>
   unfold U3 at hl;split at hl <;> first | (obtain rfl:=QA hl;rfl) | cases hl
 | global=>rfl
 | func=>rfl
theorem Aeo {x:SV} {ys:List SV} {k:Nat} (h:x.cellsV=some ys) (hm:x.men k=false):∀ y ∈ ys,y.menC k=false:=by
 unfold SV.cellsV at h;split at h
 . rename_i cs
   cases hc:cs.all SV.cellB with
   | false=>rw [hc] at h;cases h
   | true =>
    rw [hc] at h;obtain rfl:=QA h;simpa [SV.men,SV.menV] using hm
 . cases h
 . cases h
 . cases hc:x.cellB with
   | false=>rw [hc] at h;cases h
   | true =>
    rw [hc] at h;obtain rfl:=QA h;intro y hy;simp only [QU] at hy;subst hy
    cases y <;> first | exact hm | cases hc
theorem A1y {s:St3} {k:Nat} (hcl:s.clean k=true):∀ (i:Nat) (ps:List (Nat × SV)) (rows:List (List SV)),(∀ p ∈ ps,p.2.men k=false)->Fv i ps=some rows->∀ r ∈ rows,∀ y ∈ r,y.menC k=false
 | _,[],rows,_,h=>by obtain rfl:=QA h;intro r hr;cases hr
 | i,(j,v)::q,rows,hm,h=>by
  simp only [Fv] at h
  cases hc:Nat.beq i j with
  | false=>rw [hc] at h;cases h
  | true =>
   rw [hc] at h;simp only [cond] at h;split at h
   . rename_i cs rs h1 h2;obtain rfl:=QA h;intro r hr;rcases QX.1 hr with rfl | hr
     . exact Aeo h1 (hm (j,v) (by simp))
     . exact A1y hcl (i+1) q rs (λp hp=>hm p (by simp [hp])) h2 r hr
   . cases h
end Go.Ev

/- DERIVED. One operation over shapes is one over abstract values. -/
namespace Go.Ev
open Go
variable {T:Ty}
theorem Bl3 {s:St3} {nt k:Nat} {t:TypeId} {hint:Option Sh} {x y:Operand} {r:R3} (h:Beq T k t hint (s.val x) (s.val y) s.boxes=some r) (hg:r.g=true) :
  ∃ hnt:Option (List C),∃ q,A6f T k t ((s.st nt).val x) ((s.st nt).val y) (s.st nt).box=some q/\(∀ p ∈ q.ob,p)/\L7 s (some k) r q:=by
 unfold Beq at h;split at h
 . rename_i e hd;split at h
   . cases h
   . rename_i ei hei
     cases hc:(Nat.ble 1 ei.size&&Nat.ble 1 ei.bytes) with
     | false=>rw [hc] at h;cases h
     | true =>
      rw [hc] at h;simp only [cond] at h;split at h
      . rename_i hh hx;split at h
        . rename_i e' sh fz xs hl;split at h
          . rename_i g ys hsrc
            cases hc2:(Nat.beq sh.size ei.size && !fz&&Nat.beq e' e) with
            | false=>rw [hc2] at h;cases h
            | true =>
             rw [hc2] at h;obtain rfl:=QA h;simp only [QH,QO,XH] at hc2 hg;obtain ⟨obs,o1,o2⟩:=Auw hsrc hg.1;rw [QD hc2.1.1] at o1
             have hya:(s.val y).alive=true:=Bw λe=>by rw [e] at hsrc;cases hsrc
             have hxv:(s.st nt).val x = .v (.one (.hs hh 0 (A5 s.boxes hh))):=Ci hx rfl;have hyv:=Ci (nt:=nt) (s:=s) (x:=y) rfl hya
             have hle:A5 s.boxes hh=xs.length:=by simp [A5,hl,B3.len]
             have hbx:(s.st nt).box hh=some ((B3.arr e' sh fz xs).box (A5 s.boxes)):=by
              show A1 hh (Am (B3.box (A5 s.boxes)) s.boxes)=_;rw [Ch,hl];rfl
             refine ⟨none,⟨.v (.one (.hs hh 0 (A5 s.boxes hh+(ys.map λy=>(sh.cells y).map C.i).length))),.move hh { (B3.arr e' sh fz xs).box (A5 s.boxes) with rows:=((B3.arr e' sh fz xs).box (A5 s.boxes)).rows++ys.map λy=>(sh.cells y).map C.i },(A5 s.boxes hh=((B3.arr e' sh fz xs).box (A5 s.boxes)).rows.length)::((A5 s.boxes hh+(ys.map λy=>(sh.cells y).map C.i).length)*ei.bytes<=140737488355328)::obs⟩,?_,?_,?_⟩
             . have hsrc':Ga ei.size ((s.val y).s (A5 s.boxes)) (s.st nt).box=some (ys.map λy=>(sh.cells y).map C.i,obs):=o1
               have c3:(((B3.arr e' sh fz xs).box (A5 s.boxes)).sz.beq ei.size&&((B3.arr e' sh fz xs).box (A5 s.boxes)).hf && !((B3.arr e' sh fz xs).box (A5 s.boxes)).fz&&((B3.arr e' sh fz xs).box (A5 s.boxes)).e.beq e && !((B3.arr e' sh fz xs).box (A5 s.boxes)).tr)=true:=by
                simp only [B3.box,hc2.1.1,hc2.1.2,hc2.2];rfl
               unfold A6f;simp only [hd,hei,hc,cond,hyv,hsrc',hxv,hbx,c3]
             . intro p hp;simp only [QX] at hp;rcases hp with rfl | rfl | hp
               . simp [hle,B3.box]
               . rw [hle,ZA];exact hg.2
               . exact o2 p hp
             . refine ⟨⟨_,_,_,_,rfl⟩,λL' hL'=>⟨?_,?_⟩⟩
               . simp [B3.box]
               . simp only [En,hL',B3.len,hle,ZA,ZC]
          . cases h
        . cases h
      . rename_i u hx;split at h
        . rename_i sh;split at h
          . rename_i g ys hsrc
            cases hc2:Nat.beq sh.size ei.size with
            | false=>rw [hc2] at h;cases h
            | true =>
             rw [hc2] at h;obtain rfl:=QA h;simp only [QH,QO] at hg;obtain ⟨obs,o1,o2⟩:=Auw hsrc hg.1.1;have hsz:=QD hc2;rw [hsz] at o1
             have hya:(s.val y).alive=true:=Bw λe=>by rw [e] at hsrc;cases hsrc
             have hxv:(s.st nt).val x = .v (.one (.i (.lit (.slice none 0 0)))):=Ci hx rfl;have hyv:=Ci (nt:=nt) (s:=s) (x:=y) rfl hya;refine ⟨none,⟨.v (.one (.hs k 0 (ys.map λy=>(sh.cells y).map C.i).length)),.new ⟨e,ei.size,true,false,ys.map λy=>(sh.cells y).map C.i,false⟩,(0<(ys.map λy=>(sh.cells y).map C.i).length)::((ys.map λy=>(sh.cells y).map C.i).length*ei.bytes<=140737488355328)::obs⟩,?_,?_,?_⟩
             . have hsrc':Ga ei.size ((s.val y).s (A5 s.boxes)) (s.st nt).box=some (ys.map λy=>(sh.cells y).map C.i,obs):=o1;unfold A6f;simp only [hd,hei,hc,cond,hyv,hsrc',hxv]
             . intro p hp;simp only [QX] at hp;rcases hp with rfl | rfl | hp
               . rw [ZA];exact hg.1.2
               . rw [ZA];exact hg.2
               . exact o2 p hp
             . refine ⟨k,rfl,λ_ L' _ hk=>⟨?_,?_⟩⟩
               . simp only [B3.box,hsz]
               . simp only [En,hk,B3.len,ZA]
          . cases h
        . cases h
      . cases h
 . cases h
theorem Asm {s:St3} {nt:Nat} {hint:Option Sh} {o:Oper} {r:R3} (h:O5 T hint o s=some r) (hg:r.g=true) :
  ∃ hnt q,J1 T hnt o (s.st nt)=some q/\(∀ p ∈ q.ob,p)/\L7 s o.dst r q:=by
 obtain ⟨dst,op,type,pos,after,guard⟩:=o;unfold O5 at h;unfold J1;simp only at h ⊢;split at h
 . -- move
   try dsimp only
   rename_i x;obtain ⟨rfl,ha⟩:=Xy h;exact ⟨none,By.core (By.pure (Ci rfl ha))⟩
 . -- assign,a nil pointer
   obtain rfl:=QA h
   exact ⟨none,_,rfl,by simp [Res.pure],rfl,rfl⟩
 . -- assign,a nil function
   obtain rfl:=QA h
   exact ⟨none,_,rfl,by simp [Res.pure],rfl,rfl⟩
 . -- assign
   try dsimp only
   rename_i x;obtain ⟨rfl,ha⟩:=Xy h;exact ⟨none,By.core (By.pure (Ci rfl ha))⟩
 . -- pick
   try dsimp only
   rename_i c a b;obtain ⟨y,hy,he,_,hv,hal⟩:=Bb5 h;have hc:(s.st nt).val c=S.bool y:=Ci hy rfl;rw [hc]
   have key:∀ z:Operand,r.val=s.val z->By (A5 s.boxes) r (some (.pure ((s.st nt).val z))):=λz hz =>
    ⟨.pure _,rfl,by simp [Res.pure],by rw [hz] at hal ⊢;exact Ci rfl hal,rfl,he⟩
   cases y with
   | true=>exact ⟨none,By.core (key a hv)⟩
   | false=>exact ⟨none,By.core (key b hv)⟩
 . -- alloc
   try dsimp only
   rename_i e;split at h
   . rename_i ti k hti;split at h
     . rename_i z hz;obtain rfl:=QA h
       refine ⟨none,⟨.v (.one (.hp k 0 0)),.new ⟨e,(Cj ti).length,true,false,[Cj ti],false⟩,[]⟩,by simp only [hti],by simp,?_⟩
       refine ⟨k,rfl,λ_ L' _ _=>⟨?_,rfl⟩⟩;have:=(A7w (L:=L') hz).1;simp only [B3.box,this];rw [<- this,ZA]
     . cases h
   . cases h
 . -- box
   try dsimp only
   rename_i e x;split at h
   . rename_i cs k hcs;obtain rfl:=QA h;obtain ⟨k1,k2,k3⟩:=Uq (L:=A5 s.boxes) hcs;have hv:=Ci (nt:=nt) (x:=x) (s:=s) rfl (Tl hcs)
     refine ⟨none,⟨.v (.one (.hp k 0 0)),.new ⟨e,((s.val x).v (A5 s.boxes)).cells.length,((s.val x).v (A5 s.boxes)).cells.all Dc,false,[((s.val x).v (A5 s.boxes)).cells],false⟩,[]⟩,by simp only [hv,k1],by simp,?_⟩
     refine ⟨k,rfl,λhcl L' hL' _=>⟨?_,rfl⟩⟩;have hm:=Aeo hcs (Ai5 hcl x);have e1:cs.map (SV.c (A5 s.boxes))=cs.map (SV.c L'):=ZE λy hy=>(Nm hL' (hm y hy)).symm
     have e2:(cs.map (SV.c (A5 s.boxes))).all Dc=cs.all SV.imm:=by
      rw [YB];apply Qbj.2;simp only [QK,Function.comp]
      exact ⟨λhh y hy=>by rw [<- Mr (QK.1 k3 y hy)];exact hh y hy,λhh y hy=>by rw [Mr (QK.1 k3 y hy)];exact hh y hy⟩
     simp only [B3.box,k2,e2,ZA];rw [e1]
   . cases h
 . -- build
   try dsimp only
   rename_i t ps
   have hal:∀ p ∈ Ej s ps,p.2.alive=true:=by
    unfold Aes at h;split at h
    . split at h
      . rename_i fs z _ _
        cases hc:fs.toList.all (λf=>(T f.type).isSome) with
        | false=>rw [hc] at h;cases h
        | true =>
         rw [hc] at h;simp only [cond] at h;split at h
         . rename_i hf;exact A7c _ _ _ hf
         . cases h
      . cases h
    . cases h
   rw [A1r hal];exact ⟨none,By.core (B9y h)⟩
 . -- buildSlice
   try dsimp only
   rename_i t len ps;split at h
   . rename_i k sh e hd;split at h
     . rename_i ei rows hei hrows;split at h
       . rename_i xs hxs
         cases hc:(Nat.beq ps.toList.length len&&Nat.ble 1 ei.size&&Nat.beq sh.size ei.size&&rows.all (λr=>Nat.beq r.length ei.size)&&Nat.ble (len*ei.size) 16777216) with
         | false=>rw [hc] at h;cases h
         | true =>
          rw [hc] at h;obtain rfl:=QA h;simp only [QH] at hc;obtain ⟨i1,i2⟩:=Acn (L:=A5 s.boxes) hxs;have hr:=V2 (L:=A5 s.boxes) _ _ _ hrows
          refine ⟨none,⟨.v (.one (.hs k 0 len)),.new ⟨e,ei.size,true,false,rows.map λr=>r.map (SV.c (A5 s.boxes)),false⟩,[]⟩,?_,by simp,?_⟩
          . rw [A1r (Mq _ _ _ hrows)]
            have hl:((Ej s ps).map λp=>(p.1,p.2.s (A5 s.boxes))).length=ps.toList.length:=by simp [Ej]
            have h1:(rows.map λr=>r.map (SV.c (A5 s.boxes))).all (λr=>Nat.beq r.length ei.size)=true:=by
             rw [YB]
             exact Ii (λx hx=>by simpa using hx) hc.1.2
            have h2:(rows.map λr=>r.map (SV.c (A5 s.boxes))).all (λr=>r.all Dc)=true:=by
             rw [YB]
             exact Ii (λx hx=>by
              simp only [Function.comp,YB]
              exact Ii (p:=SV.imm) (λy hy=>Qo hy) hx) i2
            simp only [A6d,hd,hei,hr,hl,hc.1.1.1.1,hc.1.1.1.2,h1,h2,hc.2,ZO,cond]
          . refine ⟨k,rfl,λ_ L' _ hk=>⟨?_,?_⟩⟩
            . simp only [B3.box,i1,QD hc.1.1.2]
            . have hxl : xs.length = len := by
               have e1:=ZY List.length i1
               have e2:rows.length=ps.toList.length:=by
                have:=A1z _ _ _ hrows;rw [this];simp [Ej]
               simp at e1;have:=QD hc.1.1.1.1;omega
              simp only [SV.s,SV.v,SV.c,hk,B3.len,hxl]
       . split at h
         . rename_i cs _
           cases hc:(Nat.beq ps.toList.length len&&Nat.beq len 1&&Nat.ble 1 ei.size&&Nat.beq cs.length ei.size&&Nat.ble (len*ei.size) 16777216&&cs.all SV.cellB) with
           | false=>rw [hc] at h;cases h
           | true =>
            rw [hc] at h;obtain rfl:=QA h;simp only [QH] at hc;obtain ⟨⟨⟨⟨⟨m1,m2⟩,m3⟩,m4⟩,m5⟩,m6⟩:=hc;obtain rfl:=QD m2;have hr:=V2 (L:=A5 s.boxes) _ _ _ hrows
            have e2:(cs.map (SV.c (A5 s.boxes))).all Dc=cs.all SV.imm:=by
             rw [YB];apply Qbj.2;simp only [QK,Function.comp]
             exact ⟨λhh y hy=>by rw [<- Mr (QK.1 m6 y hy)];exact hh y hy,λhh y hy=>by rw [Mr (QK.1 m6 y hy)];exact hh y hy⟩
            refine ⟨none,⟨.v (.one (.hs k 0 1)),.new ⟨e,ei.size,cs.all SV.imm,false,[cs.map (SV.c (A5 s.boxes))],false⟩,[]⟩,?_,by simp,?_⟩
            . rw [A1r (Mq _ _ _ hrows)]
              have hl:((Ej s ps).map λp=>(p.1,p.2.s (A5 s.boxes))).length=ps.toList.length:=by simp [Ej]
              have h1:([cs].map λr=>r.map (SV.c (A5 s.boxes))).all (λr=>Nat.beq r.length ei.size)=true:=by simpa using m4
              have h2:([cs].map λr=>r.map (SV.c (A5 s.boxes))).all (λr=>r.all Dc)=cs.all SV.imm:=by
               simp only [QT,XN,XJ,KT,XR,e2]
              simp only [A6d,hd,hei,hr,hl,m1,m3,h1,h2,m5,ZO,cond];rfl
            . refine ⟨k,rfl,λhcl L' hL' hk=>⟨?_,?_⟩⟩
              . have hm := A1y hcl _ _ _ (fun p hp => by
                 unfold Ej at hp;obtain ⟨q,_,rfl⟩:=ZK.1 hp
                 exact Ai5 hcl q.2) hrows cs (by simp)
                have e1:cs.map (SV.c (A5 s.boxes))=cs.map (SV.c L'):=ZE λy hy=>(Nm hL' (hm y hy)).symm;simp only [B3.box,e1,QD m4]
              . simp only [SV.s,SV.v,SV.c,hk,B3.len]
         . cases h
     . cases h
   . cases h
 . -- load
   try dsimp only
   rename_i t a
   have ha:(s.val a).alive=true:=Bw λe=>by
    rw [e] at h;unfold A4w at h;split at h
    . cases h
    . simp [SV.refs] at h
   obtain ⟨hnt,hp⟩:=Bba (L:=A5 s.boxes) h hg;rw [<- Ci (nt:=nt) rfl ha] at hp;exact ⟨hnt,By.core hp⟩
 . -- store
   try dsimp only
   rename_i t a x
   have ha:(s.val a).alive=true:=Bw λe=>by
    rw [e] at h;unfold A1c at h;split at h
    . cases h
    . cases h
   have hx:(s.val x).alive=true:=Bw λe=>by
    rw [e] at h;unfold A1c at h;split at h
    . cases h
    . split at h
      . rename_i hys;cases hys
      . cases h
   obtain ⟨hnt,q,hh,b,b0,h1,h2,h3,h4,h5,h6,h7⟩:=B3f (L:=A5 s.boxes) h hg;rw [<- Ci (nt:=nt) rfl ha,<- Ci (nt:=nt) rfl hx] at h1
   exact ⟨hnt,q,h1,h2,by unfold L7;rw [h4];exact ⟨⟨b0,h5,h6⟩,h7,h3⟩⟩
 . -- nilCheck
   try dsimp only
   rename_i x
   have hx:(s.val x).alive=true:=Bw λe=>by rw [e] at h;cases h
   have:=Bh3 (L:=A5 s.boxes) h;rw [<- Ci (nt:=nt) rfl hx] at this;exact ⟨none,By.core this⟩
 . -- binOp
   try dsimp only
   rename_i bop t x y yt
   have hx:(s.val x).alive=true:=Bw λe=>by rw [e] at h;cases h
   have hy:(s.val y).alive=true:=Bw λe=>by
    rw [e] at h;unfold B2u at h;split at h
    . rename_i h2;cases h2
    . rename_i h2;cases h2
    . rename_i h2;cases h2
    . rename_i h2;cases h2
    . rename_i h2;cases h2
    . cases h
   have:=Bl1 (L:=A5 s.boxes) h hg;rw [<- Ci (nt:=nt) rfl hx,<- Ci (nt:=nt) rfl hy] at this;exact ⟨none,By.core this⟩
 . -- unOp
   try dsimp only
   rename_i uop t x
   have hx:(s.val x).alive=true:=Bw λe=>by
    rw [e] at h;unfold un3 at h;split at h
    . rename_i h2;cases h2
    . rename_i h2;cases h2
    . cases h
   have:=Blc (L:=A5 s.boxes) h;rw [<- Ci (nt:=nt) rfl hx] at this;exact ⟨none,By.core this⟩
 . -- convert
   try dsimp only
   rename_i src dst' x
   have hx:(s.val x).alive=true:=Bw λe=>by
    rw [e] at h;unfold Amh at h;split at h
    . rename_i h2;cases h2
    . cases h
   have:=Bei (L:=A5 s.boxes) h;rw [<- Ci (nt:=nt) rfl hx] at this;exact ⟨none,By.core this⟩
 . -- makeFunc
   try dsimp only
   rename_i f first caps;split at h
   . rename_i cs ks sh h1 h2;split at h
     . rename_i x hx;obtain rfl:=QA h;obtain ⟨c1,c2⟩:=Aso (L:=A5 s.boxes) h2;have hal:∀ y ∈ caps.toList,(s.val y).alive=true:=A7i h2
       have hmap:caps.toList.map (s.st nt).val=(caps.toList.map s.val).map (SV.s (A5 s.boxes)):=by
        rw [XC];exact ZE λy hy=>Ci rfl (hal y hy)
       have hI:cs.map SV.toI1=sh.cells x:=B4f (by rw [<- c2];exact (Et hx).1 _)
       refine ⟨none,⟨.v (.one (.i (.fn f (cs.map SV.toI1)))),.freeze ks,[]⟩,?_,by simp,?_⟩
       . rw [hmap];have:Hg ((caps.toList.map s.val).map (SV.s (A5 s.boxes))) (s.st nt).box=some (cs.map SV.toI1,ks):=c1;simp only [h1,this]
       . refine ⟨rfl,?_⟩;rw [hI];rfl
     . cases h
   . cases h
 . -- makeSlice
   try dsimp only
   rename_i t l c;split at h
   . rename_i k e n hd hn
     cases hc:Nat.beq l c with
     | false=>rw [hc] at h;cases h
     | true =>
      rw [hc] at h;simp only [cond] at h;split at h
      . rename_i ei hei;split at h
        . rename_i z hz
          cases hs':(Nat.ble 1 ei.size&&Nat.beq z.length ei.size) with
          | false=>rw [hs'] at h;cases h
          | true =>
           rw [hs'] at h;obtain rfl:=QA h;simp only [QH] at hs';have hs:=hs'.1;simp only [QH,QO] at hg;have hv:=Ci (nt:=nt) (x:=.tmp l) (s:=s) rfl (Hk hn);refine ⟨none,⟨.v (.one (.hs k 0 n.toNat)),.new ⟨e,ei.size,true,false,List.replicate n.toNat (Cj ei),false⟩,[0<=n,n<=4611686018427387904,(ei.bytes:Int)*n<=281474976710656]⟩,?_,?_,?_⟩
           . simp only [cond,A3v,hd,hv,Ms hn,hei,hs]
           . simp only [QX,YK,or_false,forall_eq_or_imp,forall_eq];exact ⟨hg.1.1,hg.1.2,hg.2⟩
           . refine ⟨k,rfl,λ_ L' _ hk=>⟨?_,?_⟩⟩
             . have:=(A7w (L:=L') hz).1;have hzl:z.length=ei.size:=QD hs'.2;simp only [B3.box,this,hzl]
             . simp only [SV.s,SV.v,SV.c,hk,B3.len]
        . cases h
      . cases h
   . cases h
 . -- slice
   try dsimp only
   rename_i t x lo hi
   have hx:(s.val x).alive=true:=Bw λe=>by
    rw [e] at h;unfold A1e at h;split at h
    . split at h
      . cases h
      . cases h
    . cases h
   have hlh:lo.map (s.st nt).val=(lo.map s.val).map (SV.s (A5 s.boxes))/\hi.map (s.st nt).val=(hi.map s.val).map (SV.s (A5 s.boxes)):=by
    unfold A1e at h;split at h
    . split at h
      . cases h
      . rename_i ei hei;split at h
        . split at h
          . cases h
          . rename_i b hb
            cases hc:Nat.beq b.rowSize ei.size with
            | false=>rw [hc] at h;cases h
            | true =>
             rw [hc] at h;simp only [cond] at h;split at h
             . rename_i h1 h2;exact ⟨Ko (f:=lo3) h1 rfl,Ko (f:=hi3 _) h2 rfl⟩
             . cases h
        . split at h
          . cases h
          . rename_i b hb
            cases hc:Nat.beq b.rowSize ei.size with
            | false=>rw [hc] at h;cases h
            | true =>
             rw [hc] at h;simp only [cond] at h;split at h
             . rename_i h1 h2;exact ⟨Ko (f:=lo3) h1 rfl,Ko (f:=hi3 _) h2 rfl⟩
             . cases h
        . rename_i sh xs _
          cases hc:Nat.beq sh.size ei.size with
          | false=>rw [hc] at h;cases h
          | true =>
           rw [hc] at h;simp only [cond] at h;split at h
           . rename_i h1 h2;exact ⟨Ko (f:=lo3) h1 rfl,Ko (f:=hi3 _) h2 rfl⟩
           . cases h
        . cases h
    . cases h
   have:=B3k h hg;rw [<- hlh.1,<- hlh.2,<- Ci (nt:=nt) rfl hx] at this;exact ⟨none,By.core this⟩
 . -- fieldAddr
   try dsimp only
   rename_i t x f
   have hx:(s.val x).alive=true:=Bw λe=>by
    rw [e] at h;unfold Acy at h;split at h
    . split at h
      . cases h
      . split at h
        . cases h
        . rename_i fi hfi
          cases hc:Nat.beq fi.size 0 <;> rw [hc] at h <;> simp [SV.refs] at h
    . cases h
   have:=B53 (L:=A5 s.boxes) h;rw [<- Ci (nt:=nt) rfl hx] at this;exact ⟨none,By.core this⟩
 . -- indexAddr
   try dsimp only
   rename_i t x i
   have hxi:(s.val x).alive=true/\(s.val i).alive=true:=by
    unfold Acl at h;split at h
    . rename_i e n hd hn;refine ⟨Bw λe=>?_,Hk hn⟩;split at h
      . cases h
      . rw [e] at h;cases h
    . cases h
   have:=B4w h hg;rw [<- Ci (nt:=nt) rfl hxi.1,<- Ci (nt:=nt) rfl hxi.2] at this;exact ⟨none,By.core this⟩
 . -- extract
   try dsimp only
   rename_i x k
   have hx:(s.val x).alive=true:=Bw λe=>by rw [e] at h;cases h
   have:=Auj (L:=A5 s.boxes) h;rw [<- Ci (nt:=nt) rfl hx] at this;exact ⟨none,By.core this⟩
 . -- call
   try dsimp only
   rename_i c;split at h
   . rename_i hcal;split at h
     . rename_i x t hx ht
       have ha:(s.val x).alive=true:=Bw λe=>by
        rw [e] at h;unfold Azh at h;split at h
        . cases h
        . cases h
        . cases h
       have:=Bh6 h;rw [<- Ci (nt:=nt) rfl ha] at this;obtain ⟨q,h1,h2,h3⟩:=By.core (dst:=dst) this
       exact ⟨none,q,(by simp only [hcal,hx,ht];exact h1),h2,h3⟩
     . cases h
   . rename_i hcal;split at h
     . rename_i x y hx
       have hxy:(s.val x).alive=true/\(s.val y).alive=true:=by
        unfold Afm at h;split at h
        . rename_i h1 h2;exact ⟨Hk h1,Hk h2⟩
        . cases h
       have:=Ave (L:=A5 s.boxes) h;rw [<- Ci (nt:=nt) rfl hxy.1,<- Ci (nt:=nt) rfl hxy.2] at this;obtain ⟨q,h1,h2,h3⟩:=By.core (dst:=dst) this
       exact ⟨none,q,(by simp only [hcal,hx];exact h1),h2,h3⟩
     . cases h
   . rename_i hcal;split at h
     . rename_i x y hx
       have hxy:(s.val x).alive=true/\(s.val y).alive=true:=by
        unfold Afm at h;split at h
        . rename_i h1 h2;exact ⟨Hk h1,Hk h2⟩
        . cases h
       have:=Ave (L:=A5 s.boxes) h;rw [<- Ci (nt:=nt) rfl hxy.1,<- Ci (nt:=nt) rfl hxy.2] at this;obtain ⟨q,h1,h2,h3⟩:=By.core (dst:=dst) this
       exact ⟨none,q,(by simp only [hcal,hx];exact h1),h2,h3⟩
     . cases h
   . rename_i hcal;split at h
     . rename_i x y t t' k hx ht
       cases hc:Nat.beq t t' with
       | false=>rw [hc] at h;cases h
       | true =>
        rw [hc] at h;simp only [cond] at h;obtain ⟨hnt,q,h1,h2,h3⟩:=Bl3 (nt:=nt) h hg
        exact ⟨hnt,q,(by simp only [hcal,hx,ht,hc,cond];exact h1),h2,h3⟩
     . cases h
   . cases h
 . cases h
end Go.Ev

/- DERIVED. Contracts over shapes; calls; what is settled; results. -/
namespace Go.Ev
open Go
variable {P:Program} {T:Ty}
@[reducible] def HL:List Sh->Type
 | []=>Unit
 | [t]=>t.den
 | t::u::r=>t.den × HL (u::r)
def Sh.v (t:Sh) (x:t.den):V:=bif t.one then .one (.i (hd1 (t.cells x))) else .agg ((t.cells x).map .i)
def Sh.sv (t:Sh) (x:t.den):SV:=bif t.one then .d t x else .agg (t.exp x)
theorem La {L:Nat->Nat} (t:Sh) (x:t.den):(t.sv x).v L=t.v x/\(t.sv x).s L = .v (t.v x):=by
 unfold Sh.sv Sh.v
 cases h:t.one with
 | true=>exact ⟨rfl,rfl⟩
 | false=>simp only [cond,SV.v,SV.s,Qb];exact ⟨trivial,trivial⟩
def Bl:(ts:List Sh)->HL ts->List V
 | [],_=>[]
 | [t],x=>[t.v x]
 | t::u::r,x=>t.v x.1::Bl (u::r) x.2
def G9:(ts:List Sh)->HL ts->List SV
 | [],_=>[]
 | [t],x=>[t.sv x]
 | t::u::r,x=>t.sv x.1::G9 (u::r) x.2
theorem A7z {L:Nat->Nat}:∀ (ts:List Sh) (x:HL ts),(G9 ts x).map (SV.v L)=Bl ts x
 | [],_=>rfl
 | [t],x=>by simp [G9,Bl,La]
 | t::u::r,x=>by simp [G9,Bl,La,A7z (u::r)]
theorem Abx:∀ (ts:List Sh) (x:HL ts),(G9 ts x).length=ts.length
 | [],_=>rfl
 | [t],x=>rfl
 | t::u::r,x=>by simp [G9,Abx (u::r)]
theorem Ai4:∀ (ts:List Sh) (x:HL ts),(Bl ts x).length=ts.length
 | [],_=>rfl
 | [t],x=>rfl
 | t::u::r,x=>by simp [Bl,Ai4 (u::r)]
def Jo:List SV->SV
 | [x]=>x
 | xs=>.tup xs
def Nu (ts:List Sh) (x:HL ts):SV:=Jo (G9 ts x)
def Mo (ts:List Sh) (x:HL ts):S:=F1 (Bl ts x)
theorem Afh {L:Nat->Nat} (ts:List Sh) (x:HL ts):(Nu ts x).s L=Mo ts x:=by
 match ts,x with
 | [],_=>rfl
 | [t],x=>exact (La t x).2
 | t::u::r,x =>
  have:=A7z (L:=L) (t::u::r) x;have hl:=Abx (t::u::r) x;unfold Nu Mo;rw [<- this]
  match h:G9 (t::u::r) x,hl with
  | a::b::q,_=>rfl
structure Ent where
 f:Nat
 ts:List Sh
 rs:List Sh
 m:HL ts->Option (HL rs)
def Ent.Sound (P:Program) (E:Ent):Prop:=∀ (nt:Nat) (x:HL E.ts) (r:HL E.rs),E.m x=some r->Me P E.f nt [] [] (Bl E.ts x) (Mo E.rs r) nt []
def Sh.closed:Sh->Bool
 | .int _=>true
 | .bool=>true
 | .str=>true
 | .nil=>true
 | .fn _=>true
 | .pair a b=>a.closed&&b.closed
 | .st t=>t.closed
 | .unit=>true
 | _=>false
def H2 (bs:List (Nat × B3)) (t:Sh) (v:SV):Option (Bool × t.den × List Nat) :=
 match v with
 | .hw h=>match t with
  | .sl t0=>match A1 h bs with
   | some (.arr _ sh false xs)=>((Sh.sl sh).to (.sl t0) xs).map λx=>(true,x,[h])
   | some (.tree _ sh false xs)=>((Sh.sl sh).to (.sl t0) xs).map λx=>(true,x,[h])
   | _=>none
  | _=>none
 | .hs h off len=>match t with
  | .sl t0=>match A1 h bs with
   | some (.arr _ sh false xs)=>((Sh.sl sh).to (.sl t0) xs).map λx=>(decide (off+len<=x.length),(x.drop off).take len,[h])
   | _=>none
  | _=>none
 | .agg cs=>match t with
  | .st t0=>(t0.all true cs).map λx=>(true,x,[])
  | _=>none
 | .rf cs=>match t with
  | .ref t0=>bif cs.all SV.isD then (t0.all false cs).map λx=>(true,x,[]) else none
  | _=>none
 | v=>bif t.one then (v.as true t).map λx=>(true,x,[]) else none
def Sh.impL (bs:List (Nat × B3)):(t:Sh)->List SV->Option (Bool × t.den × List Nat × List SV)
 | .pair a b,cs=>match a.impL bs cs with
  | some (g,x,k,r)=>match b.impL bs r with
   | some (g',y,k',q)=>some (g&&g',(x,y),k++k',q)
   | none=>none
  | none=>none
 | .st t,cs=>t.impL bs cs
 | .unit,cs=>some (true,(),[],cs)
 | .int k,c::r=>(H2 bs (.int k) c).map λp=>(p.1,p.2.1,p.2.2,r)
 | .bool,c::r=>(H2 bs .bool c).map λp=>(p.1,p.2.1,p.2.2,r)
 | .str,c::r=>(H2 bs .str c).map λp=>(p.1,p.2.1,p.2.2,r)
 | .nil,c::r=>(H2 bs .nil c).map λp=>(p.1,p.2.1,p.2.2,r)
 | .fn f,c::r=>(H2 bs (.fn f) c).map λp=>(p.1,p.2.1,p.2.2,r)
 | .sl t,c::r=>(H2 bs (.sl t) c).map λp=>(p.1,p.2.1,p.2.2,r)
 | .ref t,c::r=>(H2 bs (.ref t) c).map λp=>(p.1,p.2.1,p.2.2,r)
 | .clo f d,c::r=>(H2 bs (.clo f d) c).map λp=>(p.1,p.2.1,p.2.2,r)
 | _,[]=>none
def Abh (bs:List (Nat × B3)) (t:Sh) (v:SV):Option (Bool × t.den × List Nat) :=
 match H2 bs t v with
 | some q=>some q
 | none=>match v with
  | .agg cs=>match t with
   | .st t0=>bif cs.all SV.imm then none else match t0.impL bs cs with
    | some (g,x,k,[])=>some (g,x,k)
    | _=>none
   | _=>none
  | _=>none
def Fp (bs:List (Nat × B3)):(ts:List Sh)->List SV->Option (Bool × HL ts × List Nat)
 | [],[]=>some (true,(),[])
 | [t],[v]=>Abh bs t v
 | t::u::r,v::vs=>match Abh bs t v,Fp bs (u::r) vs with
  | some (g,x,k),some (g',xs,ks)=>some (g&&g',(x,xs),k++ks)
  | _,_=>none
 | _,_=>none
def A6g (x:SV):Option (Nat × List SV) :=
 match x with
 | .d (.fn f) _=>some (f,[])
 | .d (.clo f c) y=>some (f,c.exp y)
 | _=>none
def Ur (E:Ent) (o:Oper) (s:St3):Option (Bool × HL E.ts) :=
 match o.op with
 | .call c=>match c.callee with
  | .value f=>match A6g (s.val f) with
   | some (fid,caps)=>bif Nat.beq fid E.f then (match Fp s.boxes E.ts (c.args.toList.map s.val++caps) with
    | some (g,x,bor)=>bif bor.isEmpty || E.rs.all Sh.closed then some (g,x) else none
    | none=>none) else none
   | none=>none
  | _=>none
 | _=>none
def Gi (bs:List (Nat × B3)) (t:Sh) (v:SV):Option (Bool × t.den × List Nat) :=
 match v with
 | .hw h=>match t with
  | .sl t0=>match A1 h bs with
   | some (.arr _ sh _ xs)=>bif Nat.blt h 1000 then ((Sh.sl sh).to (.sl t0) xs).map λx=>(true,x,[h]) else none
   | _=>none
  | _=>none
 | .hs h off len=>match t with
  | .sl t0=>match A1 h bs with
   | some (.arr _ sh _ xs)=>bif Nat.blt h 1000 then ((Sh.sl sh).to (.sl t0) xs).map λx=>(decide (off+len<=x.length),(x.drop off).take len,[h]) else none
   | _=>none
  | _=>none
 | .rf cs=>match t with
  | .ref t0=>bif cs.all SV.isD then (t0.all false cs).map λx=>(true,x,[]) else none
  | _=>none
 | v=>bif t.one then (v.as true t).map λx=>(true,x,[]) else none
def Sh.impB (bs:List (Nat × B3)):(t:Sh)->List SV->Option (Bool × t.den × List Nat × List SV)
 | .pair a b,cs=>match a.impB bs cs with
  | some (g,x,k,r)=>match b.impB bs r with
   | some (g',y,k',q)=>some (g&&g',(x,y),k++k',q)
   | none=>none
  | none=>none
 | .st t,cs=>t.impB bs cs
 | .unit,cs=>some (true,(),[],cs)
 | .int k,c::r=>(Gi bs (.int k) c).map λp=>(p.1,p.2.1,p.2.2,r)
 | .bool,c::r=>(Gi bs .bool c).map λp=>(p.1,p.2.1,p.2.2,r)
 | .str,c::r=>(Gi bs .str c).map λp=>(p.1,p.2.1,p.2.2,r)
 | .nil,c::r=>(Gi bs .nil c).map λp=>(p.1,p.2.1,p.2.2,r)
 | .fn f,c::r=>(Gi bs (.fn f) c).map λp=>(p.1,p.2.1,p.2.2,r)
 | .sl t,c::r=>(Gi bs (.sl t) c).map λp=>(p.1,p.2.1,p.2.2,r)
 | .ref t,c::r=>(Gi bs (.ref t) c).map λp=>(p.1,p.2.1,p.2.2,r)
 | .clo f d,c::r=>(Gi bs (.clo f d) c).map λp=>(p.1,p.2.1,p.2.2,r)
 | _,[]=>none
def A41 (bs:List (Nat × B3)) (t:Sh) (v:SV):Option (Bool × t.den × List Nat) :=
 bif t.one then Gi bs t v else match v with
 | .agg cs=>match t.impB bs cs with
  | some (g,x,k,[])=>some (g,x,k)
  | _=>none
 | _=>none
def Ql (s:St3) (t:Nat) (sh:Sh):Option (Bool × St3) :=
 match A1 t s.slots with
 | some v=>match A41 s.boxes sh v with
  | some (g,x,ks)=>some (g,⟨B2 t (sh.sv x) s.slots,C9 s.boxes ks⟩)
  | none=>none
 | none=>none
def B3.kill (h:Nat):B3->B3
 | .var e false fz cs=>.var e false fz (cs.map λc=>bif c.menC h then .dead else c)
 | b=>b
def B3.safe (h:Nat):B3->Bool
 | .var _ false _ _=>true
 | .hole _ _ _ _ _ _ _=>false
 | b=>!b.men h
theorem Bbe {L L':Nat->Nat} {h:Nat} (hL:∀ k,k ≠ h->L' k=L k) {b:B3} (hs:b.safe h=true):(b.box L).kill h=(b.kill h).box L':=by
 have other:∀ b:B3,(b.box L).hf=true->b.kill h=b->(!b.men h)=true->(b.box L).kill h=(b.kill h).box L':=λb h1 h2 h3=>by
  rw [Qn h1,h2]
  exact A45 (λk hk=>(hL k hk).symm) (by simpa using h3)
 cases b with
 | tree e t fz xs=>exact other _ rfl rfl hs
 | hole=>cases hs
 | arr e t fz xs=>exact other _ rfl rfl hs
 | rep e fz n cs=>exact other _ rfl rfl hs
 | var e hf fz cs =>
  cases hf with
  | true=>exact other _ rfl rfl hs
  | false =>
   simp only [B3.box,Box.kill,cond,B3.kill,QT,XN,ZA,XC,Box.mk.injEq,List.cons.injEq,and_true,Qaf];refine ZE λc hc=>?_;simp only [Function.comp,Ao3]
   cases hm:c.menC h with
   | true=>rfl
   | false=>simp only [cond];exact Nm (λk hk=>(hL k hk).symm) hm
theorem Bbd (h:Nat) (b:B3):(b.kill h).len=b.len:=by
 cases b with
 | var e hf fz cs=>cases hf <;> rfl
 | _=>rfl
def St3.eff3 (K:Aj) (s:St3) (dst:Option Tmp):E3->Option St3
 | .none=>some s
 | .new b=>match dst with
  | some k=>bif (A1 k s.boxes).isNone&&Nat.blt k 1000&&s.clean k then some { s with boxes:=B2 k b s.boxes } else none
  | none=>none
 | .set h b=>some { s with boxes:=B2 h b s.boxes }
 | .app h b=>bif (Nat.blt h 1000 || K.mv.contains h)&&s.boxes.all (λp=>p.2.safe h) then (match dst with
  | some _=>some { slots:=Am (λx=>bif x.men h then .dead else x) s.slots,boxes:=B2 h b (Am (B3.kill h) s.boxes) }
  | none=>none) else none
 | .frz ks=>some { s with boxes:=C9 s.boxes ks }
def St3.put3 (K:Aj) (s:St3) (dst:Option Tmp) (x:SV):Option St3 :=
 match dst with
 | none=>some s
 | some t=>bif Nat.blt t K.N then some { s with slots:=B2 t x s.slots } else none
theorem Vh {K:Aj} {s s':St3} {nt:Nat} {dst:Option Tmp} {x:SV} (h:s.put3 K dst x=some s'):(s.st nt).putD K dst (x.s (A5 s.boxes))=some (s'.st nt):=by
 unfold St3.put3 at h;unfold St.putD
 cases dst with
 | none=>obtain rfl:=QA h;rfl
 | some t =>
  simp only at h ⊢
  cases hb:Nat.blt t K.N with
  | false=>rw [hb] at h;cases h
  | true =>
   rw [hb] at h;obtain rfl:=QA h;simp only [cond,St3.st,Gs]
theorem Bkz {L:Nat->Nat} {b:B3} {h:Nat} (hb:b.men h=false):(b.box L).men h=false:=by
 cases b with
 | arr=>rfl
 | rep=>rfl
 | tree=>rfl
 | hole e t fz xs row col k =>
  have hb:Nat.beq k h=false:=hb;have hne:(C.hs k 0 (L k)).men h=false:=hb;simp only [B3.box,Box.men];refine YP.2 λq hq=>?_;simp only [ZL,not_exists,not_and,Bool.not_eq_true];intro c hc;unfold Blh at hq
  have old:∀ q ∈ (xs.map λx=>(t.cells x).map C.i),∀ c ∈ q,c.men h=false:=λq hq c hc=>by
   obtain ⟨x,_,rfl⟩:=ZK.1 hq;obtain ⟨y,_,rfl⟩:=ZK.1 hc;rfl
  rcases Qap hq with hq | rfl
  . exact old q hq c hc
  . rcases Qap hc with hc | rfl
    . cases hg:(xs.map λx=>(t.cells x).map C.i)[row]? with
      | none=>rw [QJ,hg] at hc;cases hc
      | some q=>rw [QJ,hg] at hc;exact old q (ZN hg) c hc
    . exact hne
 | var e hf fz cs =>
  simp only [B3.men] at hb
  have:(cs.map (SV.c L)).any (C.men h)=false:=by
   rw [Qbi]
   have:(C.men h ∘ SV.c L)=SV.menC h:=by funext y;exact Ao3 y
   rw [this,hb]
  simp only [B3.box,Box.men,JH,List.any_nil,this];simp
theorem Bkw {K:Aj} {s s1:St3} {nt:Nat} {dst:Option Tmp} {r:R3} {q:Res} (h:s.eff3 K dst r.eff=some s1) (hr:L7 s dst r q) :
  (s.st nt).eff K dst q.eff=some (s1.st nt)/\q.val=r.val.s (A5 s1.boxes):=by
 unfold L7 at hr;unfold St3.eff3 at h;split at h
 . rename_i he;rw [he] at hr;obtain rfl:=QA h;rw [hr.1];exact ⟨rfl,hr.2⟩
 . rename_i b he;rw [he] at hr;obtain ⟨k,rfl,hr⟩:=hr;simp only at h
   cases hc:((A1 k s.boxes).isNone&&Nat.blt k 1000&&s.clean k) with
   | false=>rw [hc] at h;cases h
   | true =>
    rw [hc] at h;obtain rfl:=QA h;simp only [QH] at hc;have hL:∀ j,j ≠ k->A5 (B2 k b s.boxes) j=A5 s.boxes j:=λj hj=>V4 hj;obtain ⟨h1,h2⟩:=hr hc.2 _ hL Pa;have hcl:=hc.2;unfold St3.clean at hcl;simp only [QH,QK] at hcl;rw [h1];refine ⟨?_,h2⟩
    have hnone:(A1 k (s.st nt).boxes).isNone=true:=by
     simp only [St3.st,Au]
     cases hl:A1 k s.boxes with
     | none=>rfl
     | some b'=>rw [hl] at hc;simp at hc
    simp only [St.eff,hnone,hc.1.2,ZO,cond,QF];simp only [St3.st];congr 1
    . exact Q3 λp hp=>Afg (λj hj=>(hL j hj).symm) (by simpa using hcl.1 p hp)
    . rw [<- Gs];congr 1
      exact Q3 λp hp=>A45 (λj hj=>(hL j hj).symm) (by simpa using hcl.2 p hp)
 . rename_i hh b he;rw [he] at hr;obtain rfl:=QA h;obtain ⟨⟨b0,h1,h2⟩,h3,h4⟩:=hr;rw [h3];have hL:=Aij h1 h2
   refine ⟨?_,by rw [h4];show _=r.val.s (A5 (B2 hh b s.boxes));rw [hL]⟩
   simp only [St.eff,QF,St3.st];rw [hL,Gs]
 . rename_i hh b he;rw [he] at hr;obtain ⟨⟨e,t,fz,xs,rfl⟩,hr⟩:=hr
   cases hc:((Nat.blt hh 1000 || K.mv.contains hh)&&s.boxes.all (λp=>p.2.safe hh)) with
   | false=>rw [hc] at h;cases h
   | true =>
    rw [hc] at h;simp only [cond] at h
    cases dst with
    | none=>cases h
    | some k =>
     simp only at h
     skip
     . skip
       obtain rfl:=QA h;simp only [QH] at hc;obtain ⟨h1,h2⟩:=hr (A5 (B2 hh (.arr e t fz xs) (Am (B3.kill hh) s.boxes))) Pa
       have hL:∀ j,j ≠ hh->A5 (B2 hh (.arr e t fz xs) (Am (B3.kill hh) s.boxes)) j=A5 s.boxes j:=λj hj=>by
        rw [V4 hj];unfold A5;rw [Au]
        cases A1 j s.boxes with
        | none=>rfl
        | some b0=>exact Bbd hh b0
       rw [h1];refine ⟨?_,h2⟩;simp only [St.eff,hc.1,cond,QF,St.app];simp only [St3.st];congr 1
       . unfold Lk Am;rw [XC,XC];refine ZE λp hp=>?_;simp only [Function.comp,Aze]
         cases hm:p.2.men hh with
         | true=>rfl
         | false=>simp only [cond];rw [Afg (λj hj=>(hL j hj).symm) hm];rfl
       . rw [<- Gs];congr 1;unfold killB;simp only [Am,XC];refine ZE λp hp=>?_;exact ZY (Prod.mk p.1) (Bbe hL (QK.1 hc.2 p hp))
 . rename_i ks he;rw [he] at hr;obtain rfl:=QA h;rw [hr.1]
   refine ⟨?_,by rw [hr.2];show _=r.val.s (A5 (C9 s.boxes ks));rw [E6]⟩
   simp only [St.eff,QF,St3.st];rw [E6,Iq]
end Go.Ev

/- DERIVED. Calls and settling over shapes. -/
namespace Go.Ev
open Go
variable {P:Program} {T:Ty}
theorem Tj:∀ (t:Sh) (x:t.den),t.closed=true->∀ c ∈ t.cells x,IClosed c:=by
 intro t
 induction t with
 | pair a b iha ihb =>
  intro x h c hc;simp only [Sh.closed,QH] at h;simp only [Sh.cells,QG] at hc;rcases hc with hc | hc
  . exact iha _ h.1 _ hc
  . exact ihb _ h.2 _ hc
 | st t ih=>intro x h c hc;exact ih x h c hc
 | unit=>intro x h c hc;cases hc
 | int k=>intro x h c hc;simp only [Sh.cells,QU] at hc;subst hc;exact .lit _
 | bool=>intro x h c hc;simp only [Sh.cells,QU] at hc;subst hc;exact .lit _
 | str=>intro x h c hc;simp only [Sh.cells,QU] at hc;subst hc;exact .lit _
 | nil=>intro x h c hc;simp only [Sh.cells,QU] at hc;subst hc;exact .lit _
 | fn f=>intro x h c hc;simp only [Sh.cells,QU] at hc;subst hc;exact .lit _
 | _=>intro x h;cases h
def Sh.lits:Sh->Bool
 | .pair a b=>a.lits&&b.lits
 | .st t=>t.lits
 | .sl _=>false
 | .ref _=>false
 | .clo _ _=>false
 | _=>true
def Sh.flat:Sh->Bool
 | .pair a b=>a.flat&&b.flat
 | .st t=>t.flat
 | .sl t=>t.lits
 | .ref _=>false
 | .clo _ _=>false
 | _=>true
theorem Bly:∀ (t:Sh) (x:t.den),t.lits=true->∀ c ∈ t.cells x,∃ v,c = .lit v:=by
 intro t
 induction t with
 | pair a b iha ihb =>
  intro x h c hc;simp only [Sh.lits,QH] at h;simp only [Sh.cells,QG] at hc;rcases hc with hc | hc
  . exact iha _ h.1 _ hc
  . exact ihb _ h.2 _ hc
 | st t ih=>intro x h c hc;exact ih x h c hc
 | unit=>intro x h c hc;cases hc
 | int k=>intro x h c hc;simp only [Sh.cells,QU] at hc;exact ⟨_,hc⟩
 | bool=>intro x h c hc;simp only [Sh.cells,QU] at hc;exact ⟨_,hc⟩
 | str=>intro x h c hc;simp only [Sh.cells,QU] at hc;exact ⟨_,hc⟩
 | nil=>intro x h c hc;simp only [Sh.cells,QU] at hc;exact ⟨_,hc⟩
 | fn f=>intro x h c hc;simp only [Sh.cells,QU] at hc;exact ⟨_,hc⟩
 | _=>intro x h;cases h
theorem Bmh:∀ (t:Sh) (x:t.den),t.flat=true->∀ c ∈ t.cells x,A6p c:=by
 intro t
 induction t with
 | pair a b iha ihb =>
  intro x h c hc;simp only [Sh.flat,QH] at h;simp only [Sh.cells,QG] at hc;rcases hc with hc | hc
  . exact iha _ h.1 _ hc
  . exact ihb _ h.2 _ hc
 | st t ih=>intro x h c hc;exact ih x h c hc
 | unit=>intro x h c hc;cases hc
 | int k=>intro x h c hc;simp only [Sh.cells,QU] at hc;exact .inl ⟨_,hc⟩
 | bool=>intro x h c hc;simp only [Sh.cells,QU] at hc;exact .inl ⟨_,hc⟩
 | str=>intro x h c hc;simp only [Sh.cells,QU] at hc;exact .inl ⟨_,hc⟩
 | nil=>intro x h c hc;simp only [Sh.cells,QU] at hc;exact .inl ⟨_,hc⟩
 | fn f=>intro x h c hc;simp only [Sh.cells,QU] at hc;exact .inl ⟨_,hc⟩
 | sl t _ =>
  intro x h c hc;simp only [Sh.cells,QU] at hc;refine .inr ⟨_,_,_,hc,λi r j y hi hj=>?_⟩;rw [QQ] at hi;obtain ⟨z,_,rfl⟩:=QI.1 hi;exact Bly t z h y (ZN hj)
 | _=>intro x h;cases h
theorem Bfb (t:Sh) (x:t.den):(t.v x).noH=true:=by
 unfold Sh.v
 cases h:t.one with
 | true=>rfl
 | false=>simp [cond,V.noH,Dc]
theorem A7y:∀ (ts:List Sh) (x:HL ts),(Bl ts x).all V.noH=true
 | [],_=>rfl
 | [t],x=>by simp [Bl,Bfb]
 | t::u::r,x=>by
  have:=A7y (u::r) x.2;simp only [Bl,XJ,Bfb,ZZ];exact this
theorem Bgv (ts:List Sh) (x:HL ts):(Mo ts x).noH=true:=Aim (A7y ts x)
theorem Amw (t:Sh) (x:t.den) (h:t.closed=true):Ww (t.v x):=by
 unfold Sh.v
 cases ht:t.one with
 | true =>
  have:=Tj t x h (hd1 (t.cells x)) (by rw [Wq t x ht];simp [hd1])
  exact this
 | false =>
  simp only [cond];intro j c hc;rw [QQ] at hc;obtain ⟨y,hy,rfl⟩:=QI.1 hc;exact Tj t x h y (ZN hy)
theorem A6w:∀ (ts:List Sh) (x:HL ts),ts.all Sh.closed=true->∀ (j:Nat) v,(Bl ts x)[j]? = some v->Ww v
 | [],_,_,j,v,h=>by simp [Bl] at h
 | [t],x,hc,j,v,h=>by
  simp only [XJ,KT,XR] at hc
  cases j with
  | zero=>simp [Bl] at h;subst h;exact Amw t x hc
  | succ j=>simp [Bl] at h
 | t::u::r,x,hc,j,v,h=>by
  rw [XJ,QH] at hc
  cases j with
  | zero=>simp [Bl] at h;subst h;exact Amw t x.1 hc.1
  | succ j=>exact A6w (u::r) x.2 hc.2 j v (by simpa [Bl] using h)
theorem Az3 (ts:List Sh) (x:HL ts) (h:ts.all Sh.closed=true):Nn (Mo ts x):=by
 have key:=A6w ts x h;unfold Mo
 match hv:Bl ts x with
 | []=>intro j v hj;simp at hj
 | [a]=>exact key 0 a (by rw [hv];rfl)
 | a::b::q=>intro j v hj;exact key j v (by rw [hv];exact hj)
theorem Wu {L:Nat->Nat} {t:Sh} {v:SV} {x:t.den} (ht:t.one=true) (h:v.as true t=some x):v.isD=true /\ ∃ ob,Xj (v.c L) (.i (hd1 (t.cells x)))=some ob /\ ∀ p ∈ ob,p:=by
 rcases Bl2 h with rfl | ⟨t0,rfl,rfl,hx⟩
 . refine ⟨ht,?_⟩;simp only [SV.c];unfold Xj;split
   . exact ⟨[],rfl,by simp⟩
   . exact ⟨_,rfl,by simp⟩
 . simp only at hx;subst hx
   exact ⟨rfl,[],rfl,by simp⟩
def Hz (L:Nat->Nat) (cs:List SV) (ds:List I):Prop:=∃ ob,G1 (cs.map (SV.c L)) (ds.map .i)=some ob /\ ∀ p ∈ ob,p
theorem Hz.app {L:Nat->Nat}:∀ {cs cs':List SV} {ds ds':List I},Hz L cs ds->Hz L cs' ds'->Hz L (cs++cs') (ds++ds')
 | [],cs',[],ds',_,h=>h
 | [],cs',d::ds,ds',h,_=>by obtain ⟨ob,h,_⟩:=h;simp [G1] at h
 | c::cs,cs',[],ds',h,_=>by obtain ⟨ob,h,_⟩:=h;simp [G1] at h
 | c::cs,cs',d::ds,ds',h,h'=>by
  obtain ⟨ob,h,ho⟩:=h;simp only [QT,G1] at h;split at h
  . rename_i p q h1 h2;obtain rfl:=QA h;obtain ⟨ob2,h3,ho2⟩:=Hz.app (cs:=cs) (ds:=ds) ⟨q,h2,λx hx=>ho x (QG.2 (.inr hx))⟩ h';refine ⟨p++ob2,?_,λx hx=>?_⟩
    . simp only [YD,QT,G1,h1,h3]
    . rcases QG.1 hx with hx | hx
      . exact ho x (QG.2 (.inl hx))
      . exact ho2 x hx
  . cases h
theorem Hz.one {L:Nat->Nat} {c:SV} {d:I} (h:∃ ob,Xj (c.c L) (.i d)=some ob /\ ∀ p ∈ ob,p):Hz L [c] [d]:=by
 obtain ⟨ob,h,ho⟩:=h
 exact ⟨ob++[],by simp only [QT,XN,G1,h],by simpa using ho⟩
theorem Bbu {L:Nat->Nat}:∀ (t:Sh) (cs:List SV) (x:t.den) (r:List SV),t.imp true cs=some (x,r)->∃ pre,cs=pre++r/\Hz L pre (t.cells x)/\pre.all SV.imm=true:=by
 have cell:∀ (t:Sh) (c:SV) (r q:List SV) (x:t.den),t.one=true->(c.as true t).map (·,r)=some (x,q)->∃ pre,c::r=pre++q/\Hz L pre (t.cells x)/\pre.all SV.imm=true:=by
  intro t c r q x ht h;obtain ⟨h1,rfl⟩:=Avq h;obtain ⟨h2,h3⟩:=Wu (L:=L) ht h1
  refine ⟨[c],rfl,?_,by simp [Afq h2]⟩
  rw [Wq t x ht]
  exact Hz.one (by simpa [hd1] using h3)
 intro t
 induction t with
 | pair a b iha ihb =>
  intro cs x r h;simp only [Sh.imp] at h;split at h
  . rename_i y q h1;split at h
    . rename_i z q' h2;simp only [QF,QL] at h;obtain ⟨rfl,rfl⟩:=h;obtain ⟨p1,e1,c1,i1⟩:=iha _ _ _ h1;obtain ⟨p2,e2,c2,i2⟩:=ihb _ _ _ h2
      exact ⟨p1++p2,by rw [e1,e2,ZP],c1.app c2,by simp [i1,i2]⟩
    . cases h
  . cases h
 | st t ih=>intro cs x r h;exact ih _ _ _ h
 | unit =>
  intro cs x r h;simp only [Sh.imp,QF,QL] at h;obtain ⟨_,rfl⟩:=h
  exact ⟨[],rfl,⟨[],rfl,by simp⟩,rfl⟩
 | ref t _ =>
  intro cs x r h
  cases cs with
  | nil=>simp [Sh.imp] at h
  | cons c cs =>
   simp only [Sh.imp] at h;split at h
   . rename_i ds
     cases hd:ds.all SV.isD with
     | false=>rw [hd] at h;cases h
     | true =>
      rw [hd] at h;simp only [cond] at h;split at h
      . rename_i y hy;simp only [QF,QL] at h;obtain ⟨rfl,rfl⟩:=h;obtain ⟨p,e,_,_,d1,_⟩:=Aip _ _ _ _ hy;rw [XT] at e;subst e
        refine ⟨[.rf ds],rfl,?_,by simpa [SV.imm] using hd⟩
        refine Hz.one (d:=.ref 0 (t.cells y)) ?_;simp only [SV.c,d1 hd]
        exact ⟨_,rfl,by simp⟩
      . cases h
   . exact cell _ _ _ _ _ rfl h
 | int k=>intro cs x r h;cases cs with | nil=>simp [Sh.imp] at h | cons c cs=>exact cell _ _ _ _ _ rfl h
 | bool=>intro cs x r h;cases cs with | nil=>simp [Sh.imp] at h | cons c cs=>exact cell _ _ _ _ _ rfl h
 | str=>intro cs x r h;cases cs with | nil=>simp [Sh.imp] at h | cons c cs=>exact cell _ _ _ _ _ rfl h
 | nil=>intro cs x r h;cases cs with | nil=>simp [Sh.imp] at h | cons c cs=>exact cell _ _ _ _ _ rfl h
 | fn f=>intro cs x r h;cases cs with | nil=>simp [Sh.imp] at h | cons c cs=>exact cell _ _ _ _ _ rfl h
 | sl t _=>intro cs x r h;cases cs with | nil=>simp [Sh.imp] at h | cons c cs=>exact cell _ _ _ _ _ rfl h
 | clo f c _=>intro cs x r h;cases cs with | nil=>simp [Sh.imp] at h | cons v cs=>exact cell _ _ _ _ _ rfl h
theorem Abj {L:Nat->Nat} {t:Sh} {cs:List SV} {x:t.den} (h:t.all true cs=some x):Hz L cs (t.cells x)/\cs.all SV.imm=true:=by
 unfold Sh.all at h;split at h
 . rename_i y hy;obtain rfl:=QA h;obtain ⟨p,e,h1,h2⟩:=Bbu (L:=L) _ _ _ _ hy;rw [XT] at e;subst e;exact ⟨h1,h2⟩
 . cases h
theorem Bhh {L:Nat->Nat} {cs:List SV} (h:cs.all SV.imm=true):(cs.map (SV.c L)).all Dc=true:=by
 rw [YB];exact Ii (p:=SV.imm) (λy hy=>Qo hy) h
theorem At0 {bs:List (Nat × B3)} {t:Sh} {v:SV} {g:Bool} {x:t.den} {bor:List Nat} (h:H2 bs t v=some (g,x,bor)) (hg:g=true) :
  ∃ ob,Jg (A1 · (Am (B3.box (A5 bs)) bs)) (v.s (A5 bs)) (t.v x)=some (ob,bor)/\(∀ p ∈ ob,p) /\ ∀ k ∈ bor,∃ b,A1 k (Am (B3.box (A5 bs)) bs)=some b/\b.fz=false:=by
 unfold H2 at h;split at h
 . rename_i hh;split at h
   . rename_i t0;split at h
     . rename_i e sh xs hl;simp only [QI,QL] at h;obtain ⟨y,hy,rfl,rfl,rfl⟩:=h;obtain ⟨rfl,rfl⟩:=F0 hy
       have hle:A5 bs hh=xs.length:=by simp [A5,hl,B3.len]
       refine ⟨[0+A5 bs hh<=(xs.map λy=>(sh.cells y).map C.i).length,((xs.map λy=>(sh.cells y).map C.i).drop 0).take (A5 bs hh)=(xs.map sh.cells).map (·.map .i)],?_,?_,?_⟩
       . simp only [Jg,SV.s,SV.v,SV.c,Ch,hl,QV,B3.box,Sh.v,Sh.one,cond,Sh.cells,hd1,YC,ZO,ZW]
       . simp only [QX,YK,or_false,forall_eq_or_imp,forall_eq]
         refine ⟨by simp [hle],?_⟩
         rw [ZR,hle,XS (by simp),XC]
         rfl
       . intro k hk;simp only [QU] at hk;subst hk
         exact ⟨_,by rw [Ch,hl];rfl,rfl⟩
     . rename_i e sh xs hl;simp only [QI,QL] at h;obtain ⟨y,hy,rfl,rfl,rfl⟩:=h;obtain ⟨rfl,rfl⟩:=F0 hy
       have hle:A5 bs hh=xs.length:=by simp [A5,hl,B3.len]
       refine ⟨[0+A5 bs hh<=(xs.map λy=>(sh.cells y).map C.i).length,((xs.map λy=>(sh.cells y).map C.i).drop 0).take (A5 bs hh)=(xs.map sh.cells).map (·.map .i)],?_,?_,?_⟩
       . simp only [Jg,SV.s,SV.v,SV.c,Ch,hl,QV,B3.box,Sh.v,Sh.one,cond,Sh.cells,hd1,YC,ZO,ZW]
       . simp only [QX,YK,or_false,forall_eq_or_imp,forall_eq]
         refine ⟨by simp [hle],?_⟩
         rw [ZR,hle,XS (by simp),XC]
         rfl
       . intro k hk;simp only [QU] at hk;subst hk
         exact ⟨_,by rw [Ch,hl];rfl,rfl⟩
     . cases h
   . cases h
 . rename_i hh off len;split at h
   . rename_i t0;split at h
     . rename_i e sh xs hl;simp only [QI,QL] at h;obtain ⟨y,hy,rfl,rfl,rfl⟩:=h;obtain ⟨rfl,rfl⟩:=F0 hy;simp only [QO] at hg;refine ⟨[off+len<=(xs.map λy=>(sh.cells y).map C.i).length,((xs.map λy=>(sh.cells y).map C.i).drop off).take len=(((xs.drop off).take len).map sh.cells).map (·.map .i)],?_,?_,?_⟩
       . simp only [Jg,SV.s,SV.v,SV.c,Ch,hl,QV,B3.box,Sh.v,Sh.one,cond,Sh.cells,hd1,YC,ZO,ZW]
       . simp only [QX,YK,or_false,forall_eq_or_imp,forall_eq]
         refine ⟨by simpa using hg,?_⟩
         rw [XC,JP,KM];rfl
       . intro k hk;simp only [QU] at hk;subst hk
         exact ⟨_,by rw [Ch,hl];rfl,rfl⟩
     . cases h
   . cases h
 . rename_i cs;split at h
   . rename_i t0;simp only [QI,QL] at h;obtain ⟨y,hy,rfl,rfl,rfl⟩:=h;obtain ⟨⟨ob,h1,h2⟩,h3⟩:=Abj (L:=A5 bs) hy
     refine ⟨ob,?_,h2,by simp⟩
     have hn:=Bhh (L:=A5 bs) h3
     have hn2:((t0.cells y).map C.i).all Dc=true:=by simp [Dc]
     simp only [Jg,SV.s,SV.v,Sh.v,Sh.one,cond,V.noH,hn,Sh.cells,hn2,ZO,A81,h1,QV]
   . cases h
 . rename_i cs;split at h
   . rename_i t0
     cases hd:cs.all SV.isD with
     | false=>rw [hd] at h;cases h
     | true =>
      rw [hd] at h;simp only [cond,QI,QL] at h;obtain ⟨y,hy,rfl,rfl,rfl⟩:=h;obtain ⟨_,_,h3,_⟩:=Et hy
      refine ⟨[C.i (.ref 0 (cs.map SV.i0))=C.i (.ref 0 (t0.cells y))],?_,by simp [h3 hd],by simp⟩
      rfl
   . cases h
 . rename_i h1 h2 h3 h4
   cases ht:t.one with
   | false=>rw [ht] at h;cases h
   | true =>
    rw [ht] at h;simp only [cond,QI,QL] at h;obtain ⟨y,hy,rfl,rfl,rfl⟩:=h;obtain ⟨q1,ob,q2,q3⟩:=Wu (L:=A5 bs) ht hy
    have hs:v.s (A5 bs) = .v (.one (v.c (A5 bs))):=by cases v <;> first | rfl | cases q1
    have hI:Dc (v.c (A5 bs))=true:=Qo (Afq q1)
    have hnh:∀ h off len,v.c (A5 bs) ≠ .hs h off len:=λh off len e=>by rw [e] at hI;cases hI
    refine ⟨ob,?_,q3,by simp⟩
    rw [hs];unfold Jg;split
    . rename_i hh oo ll he;injection he with he;injection he with he;exact absurd he (hnh _ _ _)
    . rename_i z _ he;injection he with he;subst he;have e1:Dc (C.i (hd1 (t.cells y)))=true:=rfl;simp only [V.noH,hI,e1,ZO,cond,Sh.v,ht,A81,q2,QV]
    . rename_i _ hne;exact absurd rfl (hne _)
theorem B2v {bs:List (Nat × B3)} {t:Sh} {v:SV} {q} (ht:t.one=true) (h:H2 bs t v=some q):v.cellB=true:=by
 unfold H2 at h;split at h
 . rfl
 . rfl
 . split at h
   . cases ht
   . cases h
 . split at h
   . rename_i cs _ t0
     cases hd:cs.all SV.isD with
     | false=>rw [hd] at h;cases h
     | true=>exact hd
   . cases h
 . rw [ht] at h;simp only [cond,QI] at h;obtain ⟨y,hy,_⟩:=h;exact U5 (Wu (L:=λ_=>0) ht hy).1
def Tr (bs:List (Nat × B3)) (cs:List SV) (ds:List I) (ks:List Nat):Prop :=
 (∃ ob,Dy (A1 · (Am (B3.box (A5 bs)) bs)) (cs.map (SV.c (A5 bs))) (ds.map .i)=some (ob,ks) /\ ∀ p ∈ ob,p) /\ ∀ k ∈ ks,∃ b,A1 k (Am (B3.box (A5 bs)) bs)=some b/\b.fz=false
theorem Tr.app {bs:List (Nat × B3)}:∀ {cs cs':List SV} {ds ds':List I} {ks ks':List Nat},Tr bs cs ds ks->Tr bs cs' ds' ks'->Tr bs (cs++cs') (ds++ds') (ks++ks')
 | [],cs',[],ds',ks,ks',h,h'=>by
  obtain ⟨⟨ob,h,_⟩,_⟩:=h;simp only [XN,Dy,QF,QL] at h;obtain ⟨_,rfl⟩:=h;exact h'
 | [],cs',d::ds,ds',_,_,h,_=>by obtain ⟨⟨ob,h,_⟩,_⟩:=h;simp [Dy] at h
 | c::cs,cs',[],ds',_,_,h,_=>by obtain ⟨⟨ob,h,_⟩,_⟩:=h;simp [Dy] at h
 | c::cs,cs',d::ds,ds',ks,ks',h,h'=>by
  obtain ⟨⟨ob,h,ho⟩,hk⟩:=h;simp only [QT,Dy] at h;split at h
  . rename_i p k q l h1 h2;simp only [QF,QL] at h;obtain ⟨rfl,rfl⟩:=h;obtain ⟨⟨ob2,h3,ho2⟩,hk2⟩:=Tr.app (cs:=cs) (ds:=ds) (ks:=l) ⟨⟨q,h2,λx hx=>ho x (QG.2 (.inr hx))⟩,λk hk'=>hk k (QG.2 (.inr hk'))⟩ h';refine ⟨⟨p++ob2,?_,λx hx=>?_⟩,λj hj=>?_⟩
    . simp only [YD,QT,Dy,h1,h3,ZP]
    . rcases QG.1 hx with hx | hx
      . exact ho x (QG.2 (.inl hx))
      . exact ho2 x hx
    . rw [ZP] at hj;rcases QG.1 hj with hj | hj
      . exact hk j (QG.2 (.inl hj))
      . exact hk2 j hj
  . cases h
theorem Bhf {bs:List (Nat × B3)}:∀ (t:Sh) (cs:List SV) (g:Bool) (x:t.den) (ks:List Nat) (r:List SV),t.impL bs cs=some (g,x,ks,r)->g=true->∃ pre,cs=pre++r/\Tr bs pre (t.cells x) ks/\pre.all SV.cellB=true:=by
 have cell:∀ (t:Sh) (c:SV) (r q:List SV) (g:Bool) (x:t.den) (ks:List Nat),t.one=true->(H2 bs t c).map (λp=>(p.1,p.2.1,p.2.2,r))=some (g,x,ks,q)->g=true->∃ pre,c::r=pre++q/\Tr bs pre (t.cells x) ks/\pre.all SV.cellB=true:=by
  intro t c r q g x ks ht h hg;simp only [QI,QL] at h;obtain ⟨⟨g',x',k'⟩,h1,rfl,rfl,rfl,rfl⟩:=h;obtain ⟨ob,h2,h3,h4⟩:=At0 h1 hg;have hc:=B2v ht h1
  have e1:c.s (A5 bs) = .v (.one (c.c (A5 bs))):=by cases c <;> first | rfl | cases hc
  have e2:t.v x' = .one (.i (hd1 (t.cells x'))):=by unfold Sh.v;rw [ht];rfl
  rw [e1,e2] at h2
  refine ⟨[c],rfl,⟨⟨ob++[],?_,by simpa using h3⟩,h4⟩,by simp [hc]⟩
  rw [Wq t x' ht];simp only [QT,XN,Dy,h2,XT]
 intro t
 induction t with
 | pair a b iha ihb =>
  intro cs g x ks r h hg;simp only [Sh.impL] at h;split at h
  . rename_i g1 y k1 q h1;split at h
    . rename_i g2 z k2 q' h2;simp only [QF,QL] at h;obtain ⟨rfl,rfl,rfl,rfl⟩:=h;simp only [QH] at hg;obtain ⟨p1,e1,c1,i1⟩:=iha _ _ _ _ _ h1 hg.1;obtain ⟨p2,e2,c2,i2⟩:=ihb _ _ _ _ _ h2 hg.2
      refine ⟨p1++p2,by rw [e1,e2,ZP],c1.app c2,by simp [i1,i2]⟩
    . cases h
  . cases h
 | st t ih=>intro cs g x ks r h hg;exact ih cs g x ks r h hg
 | unit =>
  intro cs g x ks r h hg;simp only [Sh.impL,QF,QL] at h;obtain ⟨_,_,rfl,rfl⟩:=h
  exact ⟨[],rfl,⟨⟨[],rfl,by simp⟩,by simp⟩,rfl⟩
 | _ =>
  intro cs g x ks r h hg
  cases cs with
  | nil=>simp [Sh.impL] at h
  | cons c cs=>exact cell _ c cs r g x ks rfl h hg
theorem Ahx {bs:List (Nat × B3)} {t:Sh} {v:SV} {g:Bool} {x:t.den} {bor:List Nat} (h:Abh bs t v=some (g,x,bor)) (hg:g=true) :
  ∃ ob,A03 (A1 · (Am (B3.box (A5 bs)) bs)) (v.s (A5 bs)) (t.v x)=some (ob,bor)/\(∀ p ∈ ob,p) /\ ∀ k ∈ bor,∃ b,A1 k (Am (B3.box (A5 bs)) bs)=some b/\b.fz=false:=by
 unfold Abh at h;split at h
 . rename_i q hq;obtain rfl:=QA h;obtain ⟨ob,h1,h2⟩:=At0 hq hg
   exact ⟨ob,by unfold A03;rw [h1],h2⟩
 . split at h
   . rename_i cs _;split at h
     . rename_i t0 _ _
       cases him:cs.all SV.imm with
       | true=>rw [him] at h;cases h
       | false =>
        rw [him] at h;simp only [cond] at h;split at h
        . rename_i g' x' k' hi;simp only [QF,QL] at h;obtain ⟨rfl,rfl,rfl⟩:=h;obtain ⟨pre,e,⟨⟨ob,h1,h2⟩,h3⟩,h4⟩:=Bhf _ _ _ _ _ _ hi hg;rw [XT] at e;subst e;refine ⟨ob,?_,h2,h3⟩;have hv:(Sh.st t0).v x' = .agg ((t0.cells x').map .i):=rfl
          have hn:(cs.map (SV.c (A5 bs))).all Dc=false:=by
           cases hb:(cs.map (SV.c (A5 bs))).all Dc with
           | false=>rfl
           | true =>
            have:cs.all SV.imm=true:=by
             rw [YB] at hb
             exact QK.2 λz hz=>by
              rw [<- Mr (L:=A5 bs) (QK.1 h4 z hz)];exact QK.1 hb z hz
            rw [him] at this;cases this
          unfold A03;rw [hv];simp only [SV.s,SV.v,Jg,V.noH,hn,Bool.false_and,cond];exact h1
        . cases h
     . cases h
   . cases h
theorem Asz {bs:List (Nat × B3)}:∀ {ts:List Sh} {vs:List SV} {g:Bool} {x:HL ts} {bor:List Nat},Fp bs ts vs=some (g,x,bor)->g=true ->
  ∃ ob,K5 (A1 · (Am (B3.box (A5 bs)) bs)) (vs.map (SV.s (A5 bs))) (Bl ts x)=some (ob,bor)/\(∀ p ∈ ob,p) /\ ∀ k ∈ bor,∃ b,A1 k (Am (B3.box (A5 bs)) bs)=some b/\b.fz=false
 | [],[],g,x,bor,h,_=>by
  simp only [Fp,QF,QL] at h;obtain ⟨_,_,rfl⟩:=h
  exact ⟨[],rfl,by simp,by simp⟩
 | [],_::_,g,x,bor,h,_=>by simp [Fp] at h
 | [t],[],g,x,bor,h,_=>by simp [Fp] at h
 | [t],[v],g,x,bor,h,hg=>by
  simp only [Fp] at h;obtain ⟨ob,h1,h2,h3⟩:=Ahx h hg
  refine ⟨ob++[],?_,by simpa using h2,h3⟩
  simp only [QT,XN,Bl,K5,h1,XT]
 | [t],v::w::r,g,x,bor,h,_=>by simp [Fp] at h
 | t::u::r,[],g,x,bor,h,_=>by simp [Fp] at h
 | t::u::r,v::vs,g,x,bor,h,hg=>by
  simp only [Fp] at h;split at h
  . rename_i g1 x1 k1 g2 x2 k2 h1 h2;simp only [QF,QL] at h;obtain ⟨rfl,rfl,rfl⟩:=h;simp only [QH] at hg;obtain ⟨ob1,a1,a2,a3⟩:=Ahx h1 hg.1;obtain ⟨ob2,b1,b2,b3⟩:=Asz h2 hg.2;refine ⟨ob1++ob2,?_,λp hp=>?_,λk hk=>?_⟩
    . simp only [QT,Bl,K5,a1,b1]
    . rcases QG.1 hp with hp | hp
      . exact a2 p hp
      . exact b2 p hp
    . rcases QG.1 hk with hk | hk
      . exact a3 k hk
      . exact b3 k hk
  . cases h
theorem A04 {bs:List (Nat × B3)} {t:Sh} {v:SV} {q} (h:Abh bs t v=some q):v.alive=true:=Bw λe=>by
 subst e;unfold Abh H2 at h;simp only at h
 cases ht:t.one with
 | false=>rw [ht] at h;cases h
 | true=>rw [ht] at h;cases h
theorem A7l {bs:List (Nat × B3)}:∀ {ts:List Sh} {vs:List SV} {q},Fp bs ts vs=some q->∀ v ∈ vs,v.alive=true
 | [],[],_,_,v,hv=>by cases hv
 | [],_::_,_,h,_,_=>by simp [Fp] at h
 | [t],[],_,h,_,_=>by simp [Fp] at h
 | [t],[v],_,h,w,hw=>by
  simp only [QU] at hw;subst hw;simp only [Fp] at h;exact A04 h
 | [t],v::w::r,_,h,_,_=>by simp [Fp] at h
 | t::u::r,[],_,h,_,_=>by simp [Fp] at h
 | t::u::r,v::vs,q,h,w,hw=>by
  simp only [Fp] at h;split at h
  . rename_i g1 x1 k1 g2 x2 k2 h1 h2;rcases QX.1 hw with rfl | hw
    . exact A04 h1
    . exact A7l h2 w hw
  . cases h
theorem Aeq {L:Nat->Nat} {x:SV} {f:Nat} {caps:List SV} (h:A6g x=some (f,caps)):∃ cs:List I,Nl (x.s L)=some (f,cs)/\caps.map (SV.s L)=cs.map λc=>.v (.one (.i c)):=by
 unfold A6g at h;split at h
 . simp only [QF,QL] at h;obtain ⟨rfl,rfl⟩:=h;exact ⟨[],rfl,rfl⟩
 . rename_i g c y;simp only [QF,QL] at h;obtain ⟨rfl,rfl⟩:=h;refine ⟨c.cells y,rfl,?_⟩;have h1:=Qb L c y;have h2:=(L4 c y).2
   have:(c.exp y).map (SV.s L)=((c.exp y).map (SV.c L)).map λz=>.v (.one z):=by
    rw [XC]
    exact ZE λz hz=>by
     have:=QK.1 h2 z hz
     cases z <;> first | rfl | cases this
   rw [this,h1,XC];rfl
 . cases h
theorem Abc {E:Ent} {o:Oper} {s:St3} {nt:Nat} {x:HL E.ts} {r:HL E.rs} (h:Ur E o s=some (true,x)) (hm:E.m x=some r) (hE:E.Sound P) :
  ∃ obs,(∀ p ∈ obs,p)/\quiet P T o { call:=some ⟨Bl E.ts x,Mo E.rs r,nt⟩ } (s.st nt)=some (Mo E.rs r,obs):=by
 obtain ⟨dst,op,type,pos,after,guard⟩:=o;unfold Ur at h;simp only at h;split at h
 . rename_i c;split at h
   . rename_i f hf;split at h
     . rename_i fid caps hcal
       cases hc:Nat.beq fid E.f with
       | false=>rw [hc] at h;cases h
       | true =>
        rw [hc] at h;simp only [cond] at h;obtain rfl:=QD hc;split at h
        . rename_i g y bor hargs
          cases hb:(bor.isEmpty || E.rs.all Sh.closed) with
          | false=>rw [hb] at h;cases h
          | true =>
           rw [hb] at h;simp only [cond,QF,QL] at h;obtain ⟨rfl,rfl⟩:=h;obtain ⟨cs,k1,k2⟩:=Aeq (L:=A5 s.boxes) hcal
           have hfa:(s.val f).alive=true:=Bw λe=>by rw [e] at hcal;cases hcal
           have hfv:=Ci (nt:=nt) rfl hfa;have hal:=A7l hargs
           have hmap:c.args.toList.map (s.st nt).val++cs.map (λx=>S.v (V.one (C.i x)))=(c.args.toList.map s.val++caps).map (SV.s (A5 s.boxes)):=by
            rw [YS,k2,XC];congr 1;exact ZE λz hz=>Ci rfl (hal _ (QG.2 (.inl (ZK.2 ⟨z,hz,rfl⟩))))
           obtain ⟨ob,a1,a2,a3⟩:=Asz hargs rfl
           have a1':K5 (s.st nt).box (c.args.toList.map (s.st nt).val++cs.map λx=>S.v (V.one (C.i x))) (Bl E.ts y)=some (ob,bor):=by
            rw [hmap];exact a1
           have hlend:bor.all (s.st nt).lendable=true:=QK.2 λk hk=>by
            obtain ⟨b,hb1,hb2⟩:=a3 k hk;have:(s.st nt).box k=some b:=hb1;simp [St.lendable,this,hb2]
           refine ⟨Me P E.f nt [] [] (Bl E.ts y) (Mo E.rs r) nt []::(bor=[] \/ Nn (Mo E.rs r))::(Mo E.rs r=Mo E.rs r)::ob,?_,?_⟩
           . intro p hp;simp only [QX] at hp;rcases hp with rfl | rfl | hp | hp
             . exact hE nt y r hm
             . simp only [XA,YU] at hb;exact hb.imp_right (Az3 _ _)
             . rw [hp];trivial
             . exact a2 p hp
           . unfold quiet;simp only [hf,hfv,k1,a1',Bgv,hlend,ZO,cond,Option.getD_none];rfl
        . cases h
     . cases h
   . cases h
 . cases h
end Go.Ev
