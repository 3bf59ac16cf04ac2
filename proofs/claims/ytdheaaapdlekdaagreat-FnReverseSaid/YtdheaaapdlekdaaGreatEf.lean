/- DERIVED. The reading of the arguments of a row. -/
import Derived.ProofKit
import Derived.SizedLaws
import Derived.ChangeArms
import Derived.DataReads
import Derived.Test.YtdheaaapdlekdaaGreatEi

set_option linter.all false
set_option linter.unusedVariables false
set_option linter.unusedSimpArgs false

/- DERIVED. A call that leaves the old blocks alone and answers true: what the row asks behind the call. -/
namespace Go.Ev
open Go Go.ChangeShapes Go.WideShapes Go.RowKit
variable {H:Type} {enc:TypeId × Value->H} {P:Program}
theorem A0d (hl:laidOutB P=true) {W W':World} (hb:Below W.heap.size W W'):∀ {ts:List TypeId} {vs:List Value} {ds:List (DataW H)} {ps:List MemPlace},(ts.all λt=>P.readableRec t&&decide (t<P.types.size))=true ->
  DataW.TrodAll enc P W 0 (λ_=>true) true ts vs ds ps->(∀ x ∈ ps,x.block<W.heap.size)->DataW.TrodAll enc P W' 0 (λb=>decide (b<W.heap.size)) true ts vs ds ps
 | [],_,_,_,_,h,_=>by
  obtain ⟨rfl,rfl,rfl⟩:=trodAll_nil h;exact h
 | t::ts,_,_,_,hr,h,hlt=>by
  obtain ⟨v,vs1,d,ds1,a,b,rfl,rfl,rfl,h1,h2⟩:=trodAll_cons h;simp only [XJ,QH,QO] at hr;exact ⟨a,b,Below.trod hl hr.1.1 hr.1.2 h1 hb (λx hx=>hlt x (QG.2 (.inl hx))),A0d hl hb hr.2 h2 (λx hx=>hlt x (QG.2 (.inr hx))),rfl⟩
theorem Az8 {f:Func} {s:ChangeSpec} {W W':World} {args:Array Value} {ds gs:List (DataW H)} {before:List MemPlace} {t:TypeId} (hl:laidOutB P=true)
  (hrec:(f.params.toList.all λt=>P.readableRec t&&decide (t<P.types.size))=true) (hvr:s.vars=[])
  (hW:DataW.Whole enc P f.params.toList s.vars false W args.toList ds gs before) (hb:Below W.heap.size W W') (hrt:f.resultTypes = #[t]) (htb:P.underlying t=some .bool)
  (hfn:s.fn H (ds++gs)={ results:=[.lit (.bool true)],args:=ds,vars:=gs }):s.post enc P f false true false false W args (.bool true) W':=by
 have hlt:=hW.lt;obtain ⟨p,q,hA,hV,rfl,hfz,hnd⟩:=hW
 refine ⟨ds,gs,p++q,[],p,q,⟨p,q,hA,hV,rfl,hfz,hnd⟩,?_,?_,?_,hb.frame _,λh=>by cases h⟩
 . rw [hfn,hrt];exact trodAll_mk1 (shut_bool htb _)
 . rw [hfn];exact A0d hl hb hrec hA (λx hx=>hlt x (QG.2 (.inl hx)))
 . rw [hfn];rw [hvr] at hV ⊢
   cases gs with
   | nil=>exact hV
   | cons=>exact hV.elim
end Go.Ev

/- DERIVED. What a row hands over, read as a value of a shape. -/
namespace Go.Ev
open Go
def Sh.bnd:(s:Sh)->s.den->Prop
 | .int k,x=>k.min<=x/\x<=k.max
 | .bool,_=>True
 | .str,x=>x.size<=maxLen
 | .sl s,xs=>xs.length<=maxLen /\ ∀ y ∈ xs,s.bnd y
 | .pair a b,x=>a.bnd x.1/\b.bnd x.2
 | .st s,x=>s.bnd x
 | _,_=>True
def RdL (w:World) (E:Env) (cs:List Value) (is:List I):Prop:=cs.length=is.length /\ ∀ (j:Nat) v i,cs[j]? = some v->is[j]? = some i->Ri w E v i
theorem RdL.app {w:World} {E:Env} {a b:List Value} {c d:List I} (h:RdL w E a c) (h':RdL w E b d):RdL w E (a++b) (c++d):=by
 refine ⟨by simp [h.1,h'.1],λj v i hv hi=>?_⟩
 by_cases hj:j<a.length
 . rw [ZH hj] at hv
   rw [ZH (by rw [<- h.1];exact hj)] at hi
   exact h.2 j v i hv hi
 . rw [ZG (by omega)] at hv
   rw [ZG (by rw [<- h.1];omega),<- h.1] at hi
   exact h'.2 _ v i hv hi
def E7 (P:Program):Sh->(TypeId->Bool) × (List Field->Nat->Bool)
 | .pair a b=>(λ_=>false,λfs off=>match fs with
  | f::r=>Nat.beq f.offset off&&Nat.beq (P.cellsOf f.type) a.size&&(E7 P a).1 f.type&&(E7 P b).2 r (off+a.size)
  | []=>false)
 | .st s=>
  let T:=λt=>match P.underlying t with
   | some (.struct fs)=>Nat.beq (P.cellsOf t) s.size&&(E7 P s).2 fs.toList 0
   | _=>false
  (T,λfs off=>match fs with
   | [f]=>Nat.beq f.offset off&&Nat.beq (P.cellsOf f.type) s.size&&T f.type
   | _=>false)
 | .sl s =>
  let T:=λt=>match P.underlying t with
   | some (.slice e)=>Nat.beq (P.cellsOf e) s.size&&Nat.ble 1 s.size&&(E7 P s).1 e
   | _=>false
  (T,λfs off=>match fs with
   | [f]=>Nat.beq f.offset off&&Nat.beq (P.cellsOf f.type) 1&&T f.type
   | _=>false)
 | .int k =>
  let T:=λt=>match P.underlying t with
   | some (.int k')=>IntKind.eqb k k'
   | _=>false
  (T,λfs off=>match fs with
   | [f]=>Nat.beq f.offset off&&Nat.beq (P.cellsOf f.type) 1&&T f.type
   | _=>false)
 | .bool =>
  let T:=λt=>match P.underlying t with
   | some .bool=>true
   | _=>false
  (T,λfs off=>match fs with
   | [f]=>Nat.beq f.offset off&&Nat.beq (P.cellsOf f.type) 1&&T f.type
   | _=>false)
 | _=>(λ_=>false,λ_ _=>false)
section
variable {H:Type} {enc:TypeId × Value->H} {P:Program} {w:World} {base:Nat} {spare:Nat->Bool} {held:Bool}
abbrev E0:Env:={ A:=λ_=>False,τ:=λ_=>Option.none,β:=λ_=>Option.none,ω:=λ_=>Option.none }
def A6o (enc:TypeId × Value->H) (P:Program) (w:World) (base:Nat) (spare:Nat->Bool) (held:Bool) (s:Sh):Prop :=
 ∀ (t:TypeId) (fuel:Nat) (cs:List Value) (y:DataW H × List MemPlace),(E7 P s).1 t=true->DataW.trod enc P w base spare held fuel t cs=some y->∃ x:s.den,s.bnd x/\RdL w E0 cs (s.cells x)
def Bs4 (enc:TypeId × Value->H) (P:Program) (w:World) (base:Nat) (spare:Nat->Bool) (held:Bool) (s:Sh):Prop :=
 ∀ (fs:List Field) (off fuel:Nat) (cs:List Value) (ys:List (DataW H × List MemPlace)),(E7 P s).2 fs off=true->off+s.size<=cs.length->(fs.mapM λf=>DataW.trod enc P w base spare held fuel f.type ((cs.drop f.offset).take (P.cellsOf f.type)))=some ys ->
  ∃ x:s.den,s.bnd x/\RdL w E0 ((cs.drop off).take s.size) (s.cells x)
theorem U1 {s:Sh} (h:A6o enc P w base spare held s) {f:Field} {off fuel:Nat} {cs:List Value} {ys} (hf:(Nat.beq f.offset off&&Nat.beq (P.cellsOf f.type) s.size&&(E7 P s).1 f.type)=true)
  (hm:([f].mapM λf=>DataW.trod enc P w base spare held fuel f.type ((cs.drop f.offset).take (P.cellsOf f.type)))=some ys):∃ x:s.den,s.bnd x/\RdL w E0 ((cs.drop off).take s.size) (s.cells x):=by
 simp only [QH] at hf;obtain ⟨⟨h1,h2⟩,h3⟩:=hf;have h1:=QD h1;have h2:=QD h2;rw [Qbv] at hm
 cases hy:DataW.trod enc P w base spare held fuel f.type ((cs.drop f.offset).take (P.cellsOf f.type)) with
 | none=>rw [hy] at hm;cases hm
 | some y =>
  rw [h1,h2] at hy;exact h f.type fuel _ y h3 hy
theorem B9v {g o:Nat} {e:Nat} {i j:Nat} (v:Option Value) (h:w.cell? (((⟨g,o,none⟩:Addr).add (i*e)).add j)=v):w.cell? ⟨g,o+(i*e+j),none⟩=v:=by
 have e1:((⟨g,o,none⟩:Addr).add (i*e)).add j=⟨g,o+(i*e+j),none⟩:=by
  unfold Addr.add;split <;> split <;> simp <;> omega
 rw [e1] at h;exact h
theorem Bff:∀ s:Sh,A6o enc P w base spare held s/\Bs4 enc P w base spare held s:=by
 intro s
 induction s with
 | int k =>
  have hT:A6o enc P w base spare held (.int k):=by
   intro t fuel cs y hf h;simp only [E7] at hf;split at hf
   . rename_i k' hu;obtain rfl:=Aoa hf;obtain ⟨m,rfl,_,hw⟩:=DataW.trod_int hu h;simp only [Lit.wf,QH,QO] at hw
     exact ⟨m,hw,rfl,λj v i hv hi=>by
      cases j with
      | zero=>simp [Sh.cells] at hv hi;subst hv;subst hi;exact .lit _ rfl
      | succ j=>simp at hv⟩
   . cases hf
  refine ⟨hT,λfs off fuel cs ys hf hle hm=>?_⟩;simp only [E7] at hf;split at hf
  . exact U1 hT hf hm
  . cases hf
 | bool =>
  have hT:A6o enc P w base spare held .bool:=by
   intro t fuel cs y hf h;simp only [E7] at hf;split at hf
   . rename_i hu;obtain ⟨b,rfl,_⟩:=DataW.trod_bool hu h
     exact ⟨b,trivial,rfl,λj v i hv hi=>by
      cases j with
      | zero=>simp [Sh.cells] at hv hi;subst hv;subst hi;exact .lit _ rfl
      | succ j=>simp at hv⟩
   . cases hf
  refine ⟨hT,λfs off fuel cs ys hf hle hm=>?_⟩;simp only [E7] at hf;split at hf
  . exact U1 hT hf hm
  . cases hf
 | sl s ih =>
  have hT:A6o enc P w base spare held (.sl s):=by
   intro t fuel cs y hf h;simp only [E7] at hf;split at hf
   . rename_i e hu;simp only [QH] at hf;obtain ⟨⟨h1,h2⟩,h3⟩:=hf;have h1:=QD h1;have h2:=XO h2;rcases DataW.trod_slice hu h with ⟨rfl,_⟩ | ⟨a,len,cap,elems,rest,n,_,rfl,_,hb,hl,hm,hlen,hel,_,_⟩
     . exact ⟨[], ⟨by simp, by simp⟩, rfl, fun j v i hv hi => by
        cases j with
        | zero=>simp [Sh.cells] at hv hi;subst hv;subst hi;exact .nil _ _ _ _ _ (λe=>by cases e) (λ_=>rfl)
        | succ j=>simp at hv⟩
     . -- each row
       have each:∀ i,i<len->∃ (x:s.den) (row:List Value),s.bnd x/\RdL w E0 row (s.cells x)/\row.length=s.size /\ ∀ j,j<s.size->w.cell? ((a.add (i*s.size)).add j)=row[j]?:=by
        intro i hi;have:=hel i hi;rw [h1] at this
        have hs:elems[i]? = some (elems[i]'(by omega)):=QN (by omega)
        rw [hs,YX] at this;obtain ⟨row,hrow,hy⟩:=this;obtain ⟨x,hx,hr⟩:=ih.1 e n row _ h3 hy;obtain ⟨_,q1,q2⟩:=World.cells?_some hrow;exact ⟨x,row,hx,hr,q1,q2⟩
       by_cases h0:len=0
       . subst h0
         exact ⟨[],⟨by simp,by simp⟩,rfl,λj v i hv hi=>by
          cases j with
          | zero=>simp [Sh.cells] at hv hi;subst hv;subst hi;exact .nil _ _ _ _ _ (λe=>by cases e) (λe=>by cases e)
          | succ j=>simp at hv⟩
       . have hspot : ∃ g o, a = ⟨g, o, none⟩ /\ g < w.heap.size := by
          obtain ⟨x,row,_,_,q1,q2⟩:=each 0 (by omega)
          have:=q2 0 (by omega)
          rw [JM] at this;have hadd:(a.add 0).add 0=a:=rfl
          rw [hadd,QN (by omega)] at this
          obtain ⟨g,o,sp⟩:=a;unfold World.cell? at this;split at this
          . rename_i hh
            cases sp with
            | none=>exact ⟨g,o,rfl,(ZU.1 hh).1⟩
            | some z=>simp at this
          . cases this
         obtain ⟨g,o,rfl,hg⟩:=hspot
         let pick:Nat->s.den:=λi=>if h:i<len then (each i h).choose else s.dflt
         have hp:∀ i (h:i<len),pick i=(each i h).choose:=λi h=>by simp [pick,h]
         refine ⟨(List.range len).map pick,⟨by simpa using ZQ hl hm,λy hy=>?_⟩,rfl,λj v i hv hi=>?_⟩
         . obtain ⟨i,hi,rfl⟩:=ZK.1 hy;have hi:=XP.1 hi;rw [hp i hi];obtain ⟨row,k1,_⟩:=(each i hi).choose_spec;exact k1
         . cases j with
           | succ j=>simp at hv
           | zero =>
            simp [Sh.cells] at hv hi;subst hv;subst hi
            have hrows:∀ (i:Nat) (r:List I),(((List.range len).map pick).map s.cells)[i]? = some r->∃ h:i<len,r=s.cells ((each i h).choose):=by
             intro i r hr
             have hlt:i<len:=by have:=(ZD.1 hr).1;simpa using this
             refine ⟨hlt,?_⟩;rw [QQ,QQ,Qaj hlt] at hr;simp only [QV,QF] at hr;rw [<- hr,hp i hlt]
            have hcell:∀ (i:Nat) (r:List I) (j:Nat) (c:I),(((List.range len).map pick).map s.cells)[i]? = some r->r[j]? = some c->∃ v,w.cell? ⟨g,o+(i*s.size+j),none⟩=some v/\Ri w E0 v c:=by
             intro i r j c hi hj;obtain ⟨hlt,rfl⟩:=hrows i r hi;obtain ⟨row,_,k2,k3,k4⟩:=(each i hlt).choose_spec
             have hjl:j<s.size:=by have:=(ZD.1 hj).1;rw [Sh.cells_len] at this;exact this
             have hv:row[j]? = some row[j]:=QN (by omega)
             exact ⟨_,B9v _ ((k4 j hjl).trans hv),k2.2 j _ c hv hj⟩
            have key:=Ri.sl (w:=w) (E:=E0) 0 s.size g o cap (((List.range len).map pick).map s.cells) (λi j=>(w.cell? ⟨g,o+(i*s.size+j),none⟩).getD undef) (by simp;omega) (by simpa using hl) hg (by simp [Env.blk])
             (λi r hr=>by obtain ⟨_,rfl⟩:=hrows i r hr;exact Sh.cells_len _ _)
             (λi r j c hi hj=>by obtain ⟨v,hv,_⟩:=hcell i r j c hi hj;rw [hv];rfl)
             (λi r j c hi hj=>by obtain ⟨v,hv,hr⟩:=hcell i r j c hi hj;rw [hv];exact hr)
            simp only [ZA,JI] at key;simpa using key
   . cases hf
  refine ⟨hT,λfs off fuel cs ys hf hle hm=>?_⟩;simp only [E7] at hf;split at hf
  . exact U1 hT hf hm
  . cases hf
 | st s ih =>
  have hT:A6o enc P w base spare held (.st s):=by
   intro t fuel cs y hf h;simp only [E7] at hf;split at hf
   . rename_i fs hu;simp only [QH] at hf;have h1:=QD hf.1
     cases fuel with
     | zero=>simp [DataW.trod] at h
     | succ fuel =>
      unfold DataW.trod at h;rw [hu] at h;simp only at h;split at h
      . rename_i hlen;rw [QI] at h;obtain ⟨xs,hxs,_⟩:=h
        obtain ⟨x,hx,hr⟩:=ih.2 fs.toList 0 fuel cs xs hf.2 (by omega) hxs
        rw [ZR,XS (by omega)] at hr
        exact ⟨x,hx,hr⟩
      . cases h
   . cases hf
  refine ⟨hT,λfs off fuel cs ys hf hle hm=>?_⟩;simp only [E7] at hf;split at hf
  . exact U1 hT hf hm
  . cases hf
 | pair a b iha ihb =>
  refine ⟨λt fuel cs y hf _=>by simp [E7] at hf,λfs off fuel cs ys hf hle hm=>?_⟩
  simp only [E7] at hf;split at hf
  . rename_i f r;simp only [QH] at hf;obtain ⟨⟨⟨h1,h2⟩,h3⟩,h4⟩:=hf;have h1:=QD h1;have h2:=QD h2;simp only [Sh.size] at hle;rw [Qbv] at hm
    cases hy:DataW.trod enc P w base spare held fuel f.type ((cs.drop f.offset).take (P.cellsOf f.type)) with
    | none=>rw [hy] at hm;cases hm
    | some y =>
     rw [hy] at hm
     cases hz:(r.mapM λf=>DataW.trod enc P w base spare held fuel f.type ((cs.drop f.offset).take (P.cellsOf f.type))) with
     | none=>rw [hz] at hm;cases hm
     | some zs =>
      rw [h1,h2] at hy;obtain ⟨x,hx,hr⟩:=iha.1 f.type fuel _ y h3 hy
      obtain ⟨x',hx',hr'⟩:=ihb.2 r (off+a.size) fuel cs zs h4 (by omega) hz
      refine ⟨(x,x'),⟨hx,hx'⟩,?_⟩
      have e:(cs.drop off).take (Sh.pair a b).size=(cs.drop off).take a.size++(cs.drop (off+a.size)).take b.size:=by
       simp only [Sh.size];rw [List.take_add,List.drop_drop]
      rw [e];exact hr.app hr'
  . cases hf
 | _=>exact ⟨λt fuel cs y hf _=>by simp [E7] at hf,λfs off fuel cs ys hf _ _=>by simp [E7] at hf⟩
end
end Go.Ev

/- DERIVED. From a law's model to its row. -/
namespace Go.Ev
open Go Go.ChangeShapes Go.WideShapes Go.RowKit
variable {H:Type} {enc:TypeId × Value->H} {P:Program}
def Ll (P:Program):List Sh->List TypeId->Bool
 | [],[]=>true
 | s::ss,t::ts=>(E7 P s).1 t&&Ll P ss ts
 | _,_=>false
def Ba1:(ss:List Sh)->HL ss->Prop
 | [],_=>True
 | [s],x=>s.bnd x
 | s::u::r,x=>s.bnd x.1/\Ba1 (u::r) x.2
theorem Amu {w:World} {base:Nat} {s:Sh} {t:TypeId} {v:Value} {x:s.den} (hf:(E7 P s).1 t=true) (hok:Value.okWide P w .any base t v) (h:RdL w E0 v.cells.toList (s.cells x)):Rv w E0 v (s.v x):=by
 have one:s.one=true->(∀ cs,v ≠ .agg cs)->Rv w E0 v (s.v x):=by
  intro h1 hna
  have hc:v.cells = #[v]:=by cases v <;> first | rfl | exact absurd rfl (hna _)
  rw [hc,Wq s x h1] at h;unfold Sh.v;rw [h1];exact .one (.i (h.2 0 v _ rfl rfl))
 cases s with
 | int k =>
  refine one rfl λcs e=>?_;subst e;simp only [E7] at hf;split at hf
  . rename_i k' hu;unfold Value.okWide at hok;rw [hu] at hok;simp only [Cell.okWide,Cell.ok,hu] at hok
  . cases hf
 | bool =>
  refine one rfl λcs e=>?_;subst e;simp only [E7] at hf;split at hf
  . rename_i hu;unfold Value.okWide at hok;rw [hu] at hok;simp only [Cell.okWide,Cell.ok,hu] at hok
  . cases hf
 | sl s =>
  refine one rfl λcs e=>?_;subst e;simp only [E7] at hf;split at hf
  . rename_i e hu;unfold Value.okWide at hok;rw [hu] at hok;simp only [Cell.okWide,Cell.ok,hu] at hok
  . cases hf
 | st s =>
  simp only [E7] at hf;split at hf
  . rename_i fs hu;unfold Value.okWide at hok;rw [hu] at hok;obtain ⟨cs,rfl,_,_⟩:=hok;unfold Sh.v
    have e:cs=cs.toList.toArray:=by simp
    rw [show (Sh.st s).one=false from rfl];simp only [cond];rw [e]
    refine .agg ⟨by have:=h.1;simpa [Value.cells] using this,λj v c hv hc=>?_⟩
    rw [QQ] at hc;obtain ⟨i,hi,rfl⟩:=QI.1 hc;exact .i (h.2 j v i hv hi)
  . cases hf
 | _=>simp [E7] at hf
theorem A7k {w:World} {base:Nat} {spare:Nat->Bool} {held:Bool}:∀ (ss:List Sh) (ts:List TypeId) (vs:List Value) (ds:List (DataW H)) (ps:List MemPlace),Ll P ss ts=true->DataW.TrodAll enc P w 0 spare held ts vs ds ps ->
  (∀ (j:Nat) t v,ts[j]? = some t->vs[j]? = some v->Value.okWide P w .any base t v)->∃ x:HL ss,Ba1 ss x/\P2 w E0 vs (Bl ss x)
 | [],[],vs,ds,ps,_,h,_=>by
  obtain ⟨rfl,rfl,rfl⟩:=trodAll_nil h
  exact ⟨(),trivial,rfl,λj v x hv=>by simp at hv⟩
 | [],_::_,_,_,_,hf,_,_=>by simp [Ll] at hf
 | _::_,[],_,_,_,hf,_,_=>by simp [Ll] at hf
 | [s],t::ts,vs,ds,ps,hf,h,hok=>by
  simp only [Ll,QH] at hf;obtain ⟨v,vs1,d,ds1,a,b,rfl,rfl,rfl,⟨fuel,h1⟩,h2⟩:=trodAll_cons h
  cases ts with
  | cons=>simp [Ll] at hf
  | nil =>
   obtain ⟨rfl,rfl,rfl⟩:=trodAll_nil h2;obtain ⟨x,hx,hr⟩:=(Bff s).1 t fuel _ _ hf.1 h1;refine ⟨x,hx,rfl,λj v' y hv hy=>?_⟩
   cases j with
   | zero=>simp [Bl] at hv hy;subst hv;subst hy;exact Amu hf.1 (hok 0 t _ rfl rfl) hr
   | succ j=>simp at hv
 | s::u::r,t::ts,vs,ds,ps,hf,h,hok=>by
  simp only [Ll,QH] at hf;obtain ⟨v,vs1,d,ds1,a,b,rfl,rfl,rfl,⟨fuel,h1⟩,h2⟩:=trodAll_cons h;obtain ⟨x,hx,hr⟩:=(Bff s).1 t fuel _ _ hf.1 h1
  obtain ⟨xs,hxs,hrs⟩:=A7k (u::r) ts vs1 ds1 b (by
   cases ts with
   | nil=>simp [Ll] at hf
   | cons t' ts'=>simp only [Ll,QH] at hf ⊢;exact hf.2) h2 (λj t v ht hv=>hok (j+1) t v (by simpa using ht) (by simpa using hv))
  refine ⟨(x,xs),⟨hx,hxs⟩,by simp [Bl,hrs.1],λj v' y hv hy=>?_⟩
  cases j with
  | zero=>simp [Bl] at hv hy;subst hv;subst hy;exact Amu hf.1 (hok 0 t _ rfl rfl) hr
  | succ j=>exact hrs.2 j v' y (by simpa using hv) (by simpa [Bl] using hy)
theorem B4n {f:Nat} {ts:List Sh} {m:HL ts->Option Bool} (hE:(⟨f,ts,[.bool],m⟩:Ent).Sound P) {x:HL ts} (hm:m x=some true) {W:World} {args:Array Value} (hv:P2 W E0 args.toList (Bl ts x)) :
  Calls P f args W λe W'=>e = .returned (.bool true)/\Below W.heap.size W W':=by
 have hd:=hE 1 x true hm
 have hin:FIn W E0 1 []:=⟨⟨λb hb=>hb.elim,λt g ht=>(by cases ht),λt t' g ht=>(by cases ht),λg h hg=>(by cases hg)⟩,λh b hb=>(by cases hb),λh h' b b' g g' z z' hb=>(by cases hb),λh x hx=>(by cases hx),λg h hg=>(by cases hg)⟩
 have:=hd.2 W E0 args.toList hin hv;rw [Qae] at this;refine Calls.mono' this ?_
 rintro e W' ⟨v,E',rfl,hr,hout⟩
 have hv':v = .bool true:=by
  cases hr with
  | v hr=>cases hr with
   | one hr=>cases hr with
    | i hr=>cases hr with | lit=>rfl
 subst hv'
 exact ⟨rfl,hout.fr.os,hout.fr.tape,hout.fr.output,hout.fr.size,λk hk=>hout.fr.block k hk (λ⟨_,_,hx,_⟩=>by cases hx)⟩
end Go.Ev
