/- DERIVED. An evaluator of code over abstract states: whole paths, calls, loops. -/
import Derived.OrdersHeld
import Derived.Test.YtaebdcandpfmgaaGreatEa

set_option linter.all false
set_option linter.unusedVariables false
set_option linter.unusedSimpArgs false

/- DERIVED. A function's contract, and a call. -/
namespace Go.Ev
open Go
variable {P:Program} {T:Ty}
structure FIn (w:World) (E:Env) (nt:Nat) (bs:List (Nat × Box)):Prop where
 wf:WfE w E nt
 boxes:∀ h b,A1 h bs=some b->F4 w E h b/\b.fz=false/\1000<=h
 inj:∀ h h' b b' g g' z z',A1 h bs=some b->A1 h' bs=some b'->E.β h=some (g,z)->E.β h'=some (g',z')->h ≠ h'->g ≠ g'
 dom:∀ h x,E.β h=some x->(A1 h bs).isSome=true
 odom:∀ g h,E.ω g=some h->(A1 h bs).isSome=true
def handed (E:Env) (bs:List (Nat × Box)) (g:Nat):Prop:=∃ h b,A1 h bs=some b/\((∃ z,E.β h=some (g,z)) \/ E.ω g=some h)
structure B6r (w:World) (E:Env) (nt:Nat) (bs:List (Nat × Box)) (mv:List Nat) (w':World) (E':Env) (nt':Nat) (bs':List (Nat × Box)):Prop where
 fr:Fr w (handed E bs) w'
 wf:WfE w' E' nt'
 old:∀ b,b<w.heap.size->(E'.A b ↔ E.A b)
 ntle:nt<=nt'
 tag:∀ t,t<nt->E'.τ t=E.τ t
 new:∀ t g,nt<=t->E'.τ t=some g->w.heap.size<=g
 boxes:∀ h b,A1 h bs'=some b->F4 w' E' h b/\b.fz=false
 inj:∀ h h' b b' g g' z z',A1 h bs'=some b->A1 h' bs'=some b'->E'.β h=some (g,z)->E'.β h'=some (g',z')->h ≠ h'->g ≠ g'
 own:∀ h b g z,A1 h bs'=some b->E'.β h=some (g,z)->w.heap.size<=g \/ ∃ b0,A1 h bs=some b0/\E.β h=some (g,z)
 stay:∀ h b,A1 h bs=some b->mv.contains h=false->E'.β h=E.β h/\(A1 h bs').isSome=true
 tow:∀ g h,E'.ω g=some h->w.heap.size<=g \/ handed E bs g
def Bk3 (P : Program) (f : FuncId) : Prop := ∃ fn, P.funcs[f]? = some fn /\ (fn.name == "runtime.NumGoroutine") = false /\ fn.body.isNone = false
def Jk (P:Program) (f:FuncId) (nt:Nat) (mv:List Nat) (bs:List (Nat × Box)) (args:List V) (r:S) (nt':Nat) (bs':List (Nat × Box)):Prop :=
 Bk3 P f /\ ∀ (w:World) (E:Env) (vs:List Value),FIn w E nt bs->Ln w E vs args ->
  Calls P f vs.toArray w (λe w'=>∃ v E',e = .returned v/\Rs w' E' v r/\B6r w E nt bs mv w' E' nt' bs')
def V.noH:V->Bool
 | .one c=>C4 c
 | .agg cs=>cs.all C4
def S.noH:S->Bool
 | .v x=>x.noH
 | .tup xs=>xs.all V.noH
 | .dead=>true
theorem Rc.noH {w:World} {E E':Env} (hA:E'.A=E.A) (hτ:E'.τ=E.τ) {v:Value} {c:C} (hc:C4 c=true) (h:Rc w E v c):Rc w E' v c:=by
 cases h with
 | i h =>
  refine .i (h.keepI (QY _) (λtag g _ hb=>?_) (λ_ _ _ _ _ h=>h));unfold Env.blk at hb ⊢;rw [hA,hτ];exact hb
 | hs=>cases hc
 | hp=>cases hc
theorem F2 {α:Type} {p:α->Bool} {l:List α} (h:l.all p=true) {j:Nat} {c:α} (hj:l[j]? = some c):p c=true :=
 QM.1 h c (QX hj)
theorem Rv.noH {w:World} {E E':Env} (hA:E'.A=E.A) (hτ:E'.τ=E.τ) {v:Value} {x:V} (hx:x.noH=true) (h:Rv w E v x):Rv w E' v x:=by
 cases h with
 | one h=>exact .one (h.noH hA hτ hx)
 | agg h=>exact .agg ⟨h.1,λj v c hv hc=>(h.2 j v c hv hc).noH hA hτ (F2 hx hc)⟩
theorem Rs.noH {w:World} {E E':Env} (hA:E'.A=E.A) (hτ:E'.τ=E.τ) {v:Value} {x:S} (hx:x.noH=true) (h:Rs w E v x):Rs w E' v x:=by
 cases h with
 | v h=>exact .v (h.noH hA hτ hx)
 | tup h=>exact .tup ⟨h.1,λj v c hv hc=>(h.2 j v c hv hc).noH hA hτ (F2 hx hc)⟩
 | dead=>exact .dead
inductive IClosed:I->Prop
 | lit (v:Value):IClosed (.lit v)
 | nil (tag:Nat) (nl:Bool) (sz:Nat):IClosed (.sl tag nl sz [])
 | sl (tag:Nat) (nl:Bool) (sz:Nat) (rows:List (List I)) (ht:tag ≠ 0) (h:∀ (i:Nat) (r:List I) (j:Nat) (c:I),rows[i]? = some r->r[j]? = some c->IClosed c):IClosed (.sl tag nl sz rows)
theorem Ri.closed {w:World} {E E':Env} (hτ:E'.τ=E.τ) {v:Value} {x:I} (h:Ri w E v x) (hc:IClosed x):Ri w E' v x:=by
 induction h with
 | lit v h=>exact .lit v h
 | nil tag sz cap a nl hn hcap=>exact .nil tag sz cap a nl hn hcap
 | sl tag sz g o cap rows vs hne hcap hg hb hlen hcell _ ih =>
  cases hc with
  | nil=>exact absurd rfl hne
  | sl _ _ _ _ ht hcl =>
   refine .sl tag sz g o cap rows vs hne hcap hg ?_ hlen hcell (λi r j c hi hj=>ih i r j c hi hj (hcl i r j c hi hj));unfold Env.blk at hb ⊢;rw [QJ ht] at hb ⊢;rw [hτ];exact hb
 | ref=>cases hc
 | fn=>cases hc
 | any=>cases hc
def Abd:C->Prop
 | .i x=>IClosed x
 | _=>False
def S5:V->Prop
 | .one c=>Abd c
 | .agg cs=>∀ (j:Nat) (c:C),cs[j]? = some c->Abd c
def Ki:S->Prop
 | .v x=>S5 x
 | .tup xs=>∀ (j:Nat) (x:V),xs[j]? = some x->S5 x
 | .dead=>True
theorem Rc.closed {w:World} {E E':Env} (hτ:E'.τ=E.τ) {v:Value} {c:C} (h:Rc w E v c) (hc:Abd c):Rc w E' v c:=by
 cases h with
 | i h=>exact .i (h.closed hτ hc)
 | hs=>exact hc.elim
 | hp=>exact hc.elim
theorem Rv.closed {w:World} {E E':Env} (hτ:E'.τ=E.τ) {v:Value} {x:V} (h:Rv w E v x) (hc:S5 x):Rv w E' v x:=by
 cases h with
 | one h=>exact .one (h.closed hτ hc)
 | agg h=>exact .agg ⟨h.1,λj v c hv hj=>(h.2 j v c hv hj).closed hτ (hc j c hj)⟩
theorem Rs.closed {w:World} {E E':Env} (hτ:E'.τ=E.τ) {v:Value} {x:S} (h:Rs w E v x) (hc:Ki x):Rs w E' v x:=by
 cases h with
 | v h=>exact .v (h.closed hτ hc)
 | tup h=>exact .tup ⟨h.1,λj v c hv hj=>(h.2 j v c hv hj).closed hτ (hc j c hj)⟩
 | dead=>exact .dead
def Sb (c c':C):Option (List Prop) :=
 match c,c' with
 | .i (.lit (.slice none 0 0)),.i (.sl _ _ _ [])=>some []
 | c,c'=>some [c=c']
def En:List C->List C->Option (List Prop)
 | [],[]=>some []
 | c::r,c'::r'=>match Sb c c',En r r' with
  | some p,some q=>some (p++q)
  | _,_=>none
 | _,_=>none
def A1s:V->V->Option (List Prop)
 | .one c,.one c'=>Sb c c'
 | .agg cs,.agg cs'=>En cs cs'
 | _,_=>none
theorem M6 {w:World} {E:Env} {v:Value} {c c':C} {obs:List Prop} (hv:Rc w E v c) (h:Sb c c'=some obs) (ho:∀ p ∈ obs,p):Rc w E v c':=by
 unfold Sb at h;split at h
 . cases hv with | i hv=>cases hv with | lit=>exact .i (.nil _ _ _ _ _ (λ_=>rfl) (λ_=>rfl))
 . obtain rfl:=QA h
   have:c=c':=ho _ (by simp)
   subst this;exact hv
theorem A0y {w:World} {E:Env}:∀ (cs cs':List C) (vs:List Value) (obs:List Prop),Ei w E vs cs->En cs cs'=some obs->(∀ p ∈ obs,p)->Ei w E vs cs'
 | [],[],vs,_,hv,_,_=>hv
 | [],_::_,_,_,_,h,_=>by simp [En] at h
 | _::_,[],_,_,_,h,_=>by simp [En] at h
 | c::r,c'::r',[],_,hv,_,_=>by have:=hv.1;simp at this
 | c::r,c'::r',v::vs,obs,hv,h,ho=>by
  simp only [En] at h;split at h
  . rename_i p q h1 h2;obtain rfl:=QA h;have r1:=M6 (hv.2 0 v c rfl rfl) h1 (λx hx=>ho x (QF.2 (.inl hx)))
    have r2:=A0y r r' vs q ⟨by simpa using hv.1,λj v c hv' hc'=>hv.2 (j+1) v c (by simpa using hv') (by simpa using hc')⟩ h2 (λx hx=>ho x (QF.2 (.inr hx)))
    refine ⟨by simp [r2.1],λj v' x' hv' hx'=>?_⟩
    cases j with
    | zero=>simp at hv' hx';subst hv';subst hx';exact r1
    | succ j=>exact r2.2 j v' x' (by simpa using hv') (by simpa using hx')
  . cases h
theorem Aqd {w:World} {E:Env} {v:Value} {y a:V} {obs:List Prop} (hv:Rv w E v y) (h:A1s y a=some obs) (ho:∀ p ∈ obs,p):Rv w E v a:=by
 cases hv with
 | one hv=>cases a with
  | one c'=>exact .one (M6 hv h ho)
  | agg=>simp [A1s] at h
 | agg hv=>cases a with
  | one c'=>simp [A1s] at h
  | agg cs'=>exact .agg (A0y _ _ _ _ hv h ho)
def H0 (bx:Nat->Option Box) (x:S) (a:V):Option (List Prop × List Nat) :=
 match x with
 | .v (.one (.hs h off len))=>match bx h,a with
  | some b,.one (.i (.sl 0 false sz rows))=>bif Nat.beq b.sz sz&&b.hf && !b.fz then some ([off+len<=b.rows.length,(b.rows.drop off).take len=rows.map (·.map .i)],[h]) else none
  | _,_=>none
 | .v y=>bif y.noH&&a.noH then (A1s y a).map λp=>(p,[]) else none
 | _=>none
def Cz (bx:Nat->Option Box):List C->List C->Option (List Prop × List Nat)
 | [],[]=>some ([],[])
 | c::cs,a::as=>match H0 bx (.v (.one c)) (.one a),Cz bx cs as with
  | some (p,h),some (ps,hs)=>some (p++ps,h++hs)
  | _,_=>none
 | _,_=>none
def V5 (bx:Nat->Option Box) (x:S) (a:V):Option (List Prop × List Nat) :=
 match H0 bx x a with
 | some q=>some q
 | none=>match x,a with
  | .v (.agg cs),.agg as=>Cz bx cs as
  | _,_=>none
def Hq (bx:Nat->Option Box):List S->List V->Option (List Prop × List Nat)
 | [],[]=>some ([],[])
 | x::xs,a::as=>match V5 bx x a,Hq bx xs as with
  | some (p,h),some (ps,hs)=>some (p++ps,h++hs)
  | _,_=>none
 | _,_=>none
theorem Calls.mono' {f:FuncId} {args:Array Value} {w:World} {R R':Ending->World->Prop} (h:Calls P f args w R) (hr:∀ e w,R e w->R' e w):Calls P f args w R':=by
 intro cs;obtain ⟨e,w',fr,hR,hc⟩:=h cs;exact ⟨e,w',fr,hr _ _ hR,hc⟩
def Q6 (E:Env) (bor:List Nat) (g:Nat):Prop:=∃ h,h ∈ bor/\((∃ z,E.β h=some (g,z)) \/ E.ω g=some h)
def Env.lend (E:Env) (bor:List Nat):Env:={ A:=λb=>E.A b /\ ¬ Q6 E bor b,τ:=E.τ,β:=λ_=>none,ω:=λ_=>none }
theorem A5g {Γ:Ctx} {w:World} {E:Env} {s:St} {tmps:Array Value} (hs:A8 Γ w E s tmps) {bor:List Nat} {v:Value} {x:S} {a:V} {obs:List Prop} {hh:List Nat}
  (hv:Rs w E v x) (h:H0 (A1 · s.boxes) x a=some (obs,hh)) (ho:∀ p ∈ obs,p) (hb:∀ k ∈ hh,k ∈ bor):Rv w (E.lend bor) v a:=by
 have kI:∀ v y,Ri w E v y->Ri w (E.lend bor) v y:=by
  intro v y hr;refine hr.keepI (QY _) (λtag g _ hb=>?_) (λ_ _ _ _ _ h=>h);unfold Env.blk at hb ⊢;split
  . rename_i e;rw [QL e] at hb;exact λh=>hb h.1
  . rename_i e;rw [QJ e] at hb;exact hb
 have kC:∀ v (c:C),C4 c=true->Rc w E v c->Rc w (E.lend bor) v c:=by
  intro v c hc hr
  cases hr with
  | i h=>exact .i (kI _ _ h)
  | hs=>cases hc
  | hp=>cases hc
 unfold H0 at h;split at h
 . rename_i k off len;split at h
   . rename_i b sz rows hbx
     cases hc:(Nat.beq b.sz sz&&b.hf && !b.fz) with
     | false=>rw [hc] at h;cases h
     | true =>
      rw [hc] at h;simp only [cond,QD,QI] at h;obtain ⟨rfl,rfl⟩:=h;simp only [QE,ZJ] at hc;obtain ⟨⟨c1,c2⟩,c3⟩:=hc;have c1:=QC c1
      have o1:off+len<=b.rows.length:=ho _ (by simp)
      have o2:(b.rows.drop off).take len=rows.map (·.map .i):=ho _ (by simp)
      have hkb:k ∈ bor:=hb k (by simp)
      obtain ⟨g,z,cap,ad,hβ,hle,had,rfl⟩:=hv.hs_inv;obtain ⟨rfl,_,hat,_⟩:=hs.box hbx hβ
      have kT:∀ v y,Ri w (E.rd k b.tr) v y->Ri w (E.lend bor) v y:=by
       intro v y hr;refine hr.keepI (QY _) (λtag g _ hb=>?_) (λ_ _ _ _ _ h=>h)
       cases htr:b.tr with
       | false =>
        rw [htr] at hb;have hb:E.blk tag g:=hb;unfold Env.blk at hb ⊢;split
        . rename_i e;rw [QL e] at hb;exact λh=>hb h.1
        . rename_i e;rw [QJ e] at hb;exact hb
       | true =>
        rw [htr] at hb;unfold Env.blk at hb ⊢;split
        . rename_i e;rw [QL e] at hb;exact λh=>hb ⟨h.1,λh2=>h.2 ⟨k,hkb,.inr h2⟩⟩
        . rename_i e;rw [QJ e] at hb;exact hb
      have hlt:=hat.lt;obtain ⟨arr,hg,hsz',hl,hm,hlen,hcell,hhf,hA,hT'⟩:=hat
      have hrl:rows.length=len:=by have:=XU List.length o2;simp at this;omega
      have hget:∀ (i:Nat) (q:List I),rows[i]? = some q->b.rows[off+i]? = some (q.map .i):=by
       intro i q hi
       have hi':i<len:=by rw [<- hrl];exact (QP.1 hi).1
       have:((b.rows.drop off).take len)[i]? = some (q.map .i):=by rw [o2,QK,hi];rfl
       rwa [XG,QL hi',YG] at this
      by_cases h0:len=0
      . subst h0;obtain rfl:=XL hrl
        exact .one (.i (.nil _ _ _ _ _ (λe=>by cases e) (λe=>by cases e)))
      . obtain rfl:=had (.inl (by omega))
        have hblk:(E.lend bor).blk 0 g:=by
         simp only [Env.blk,if_true,Env.lend];exact λh=>h.2 ⟨k,hkb,.inl ⟨_,hβ⟩⟩
        have:=Ri.sl (w:=w) (E:=E.lend bor) 0 sz g (off*b.sz) (cap-off) rows (λi j=>(arr[(off+i)*b.sz+j]?).getD undef) (λe=>by subst e;simp at hrl;omega) (by omega) hlt hblk
         (λi q hi=>by have:=hlen _ _ (hget i q hi);simp at this;omega)
         (λi q j c hi hj=>by
          obtain ⟨u,hu,_⟩:=hcell _ _ j (.i c) (hget i q hi) (by rw [QK,hj];rfl)
          rw [show off*b.sz+(i*sz+j)=(off+i)*b.sz+j by rw [<- c1,YM];omega]
          simp [World.cell?,hg,hu])
         (λi q j c hi hj=>by
          obtain ⟨u,hu,hr⟩:=hcell _ _ j (.i c) (hget i q hi) (by rw [QK,hj];rfl)
          rw [hu]
          cases hr with | i hr=>exact kT _ _ hr)
        rw [hrl] at this;exact .one (.i this)
   . cases h
 . rename_i y _
   cases hc:(y.noH&&a.noH) with
   | false=>rw [hc] at h;cases h
   | true =>
    rw [hc] at h;simp only [cond,QB,QI] at h;obtain ⟨p,hp,rfl,rfl⟩:=h;simp only [QE] at hc;refine Aqd ?_ hp ho
    cases hv.v_inv with
    | one hr=>exact .one (kC _ _ hc.1 hr)
    | agg hr=>exact .agg ⟨hr.1,λj v c hv hj=>kC _ _ (F2 hc.1 hj) (hr.2 j v c hv hj)⟩
 . cases h
theorem A16 {Γ:Ctx} {w:World} {E:Env} {s:St} {tmps:Array Value} (hs:A8 Γ w E s tmps) {bor:List Nat}:∀ {vs:List Value} {cs as:List C} {obs:List Prop} {hh:List Nat},
  Ei w E vs cs->Cz (A1 · s.boxes) cs as=some (obs,hh)->(∀ p ∈ obs,p)->(∀ k ∈ hh,k ∈ bor)->Ei w (E.lend bor) vs as
 | vs,[],[],_,_,hv,_,_,_=>⟨hv.1,λj v c _ hc=>by simp at hc⟩
 | _,[],_::_,_,_,_,h,_,_=>by simp [Cz] at h
 | _,_::_,[],_,_,_,h,_,_=>by simp [Cz] at h
 | [],c::cs,a::as,_,_,hv,_,_,_=>by have:=hv.1;simp at this
 | v::vs,c::cs,a::as,obs,hh,hv,h,ho,hb=>by
  simp only [Cz] at h;split at h
  . rename_i p k ps ks h1 h2;simp only [QD,QI] at h;obtain ⟨rfl,rfl⟩:=h;have r1:=A5g hs (bor:=bor) (x:=.v (.one c)) (a:=.one a) (.v (.one (hv.2 0 v c rfl rfl))) h1 (λq hq=>ho q (QF.2 (.inl hq))) (λq hq=>hb q (QF.2 (.inl hq)))
    have r2:=A16 hs (vs:=vs) (cs:=cs) ⟨by simpa using hv.1,λj v' c' h1 h2=>hv.2 (j+1) v' c' (by simpa using h1) (by simpa using h2)⟩ h2 (λq hq=>ho q (QF.2 (.inr hq))) (λq hq=>hb q (QF.2 (.inr hq)))
    refine ⟨by simp [r2.1],λj v' x' hv' hx'=>?_⟩
    cases j with
    | zero=>simp at hv' hx';subst hv';subst hx';cases r1 with | one r1=>exact r1
    | succ j=>exact r2.2 j v' x' (by simpa using hv') (by simpa using hx')
  . cases h
theorem Ae7 {Γ:Ctx} {w:World} {E:Env} {s:St} {tmps:Array Value} (hs:A8 Γ w E s tmps) {bor:List Nat} {v:Value} {x:S} {a:V} {obs:List Prop} {hh:List Nat}
  (hv:Rs w E v x) (h:V5 (A1 · s.boxes) x a=some (obs,hh)) (ho:∀ p ∈ obs,p) (hb:∀ k ∈ hh,k ∈ bor):Rv w (E.lend bor) v a:=by
 unfold V5 at h;split at h
 . rename_i q hq;obtain rfl:=QA h;exact A5g hs hv hq ho hb
 . split at h
   . cases hv with | v hv=>cases hv with | agg hv=>exact .agg (A16 hs hv h ho hb)
   . cases h
theorem Ae6 {Γ:Ctx} {w:World} {E:Env} {s:St} {tmps:Array Value} (hs:A8 Γ w E s tmps) (bor:List Nat):∀ (xs:List S) (as:List V) (vs:List Value) (obs:List Prop) (hh:List Nat),vs.length=xs.length ->
  (∀ (j:Nat) v x,vs[j]? = some v->xs[j]? = some x->Rs w E v x)->Hq (A1 · s.boxes) xs as=some (obs,hh)->(∀ p ∈ obs,p)->(∀ k ∈ hh,k ∈ bor)->Ln w (E.lend bor) vs as
 | [],[],vs,obs,hh,hl,_,_,_,_=>⟨by simpa using hl,λj v x _ hx=>by simp at hx⟩
 | [],_::_,_,_,_,_,_,h,_,_=>by simp [Hq] at h
 | _::_,[],_,_,_,_,_,h,_,_=>by simp [Hq] at h
 | x::xs,a::as,[],_,_,hl,_,_,_,_=>by simp at hl
 | x::xs,a::as,v::vs,obs,hh,hl,hv,h,ho,hb=>by
  simp only [Hq] at h;split at h
  . rename_i p k ps ks h1 h2;simp only [QD,QI] at h;obtain ⟨rfl,rfl⟩:=h;have r1:=Ae7 hs (bor:=bor) (hv 0 v x rfl rfl) h1 (λq hq=>ho q (QF.2 (.inl hq))) (λq hq=>hb q (QF.2 (.inl hq)))
    have r2:=Ae6 hs bor xs as vs ps ks (by simpa using hl) (λj v x hv' hx'=>hv (j+1) v x (by simpa using hv') (by simpa using hx')) h2 (λq hq=>ho q (QF.2 (.inr hq))) (λq hq=>hb q (QF.2 (.inr hq)))
    refine ⟨by simp [r2.1],λj v' x' hv' hx'=>?_⟩
    cases j with
    | zero=>simp at hv' hx';subst hv';subst hx';exact r1
    | succ j=>exact r2.2 j v' x' (by simpa using hv') (by simpa using hx')
  . cases h
theorem Au8 {Γ:Ctx} {w:World} {E:Env} {s:St} {tmps:Array Value} (hs:A8 Γ w E s tmps) {f:FuncId} {mv:List Nat} {xs:List S} {as:List V} {vs:List Value} {r:S} {nt':Nat} {obs:List Prop} {bor:List Nat}
  (hd:Jk P f s.nt mv [] as r nt' []) (hl:vs.length=xs.length) (hv:∀ (j:Nat) v x,vs[j]? = some v->xs[j]? = some x->Rs w E v x) (ha:Hq (A1 · s.boxes) xs as=some (obs,bor)) (ho:∀ p ∈ obs,p)
  (hr:r.noH=true) (hcl:bor=[] \/ Ki r) (hfz:∀ h ∈ bor,∃ b,A1 h s.boxes=some b/\b.fz=false) :
  Calls P f vs.toArray w (λe w'=>∃ v E',e = .returned v/\Rs w' E' v r/\A8 Γ w' E' { s with nt:=nt' } tmps):=by
 have hin:FIn w (E.lend bor) s.nt []:=by
  refine ⟨⟨λb hb=>hs.wf.alt b hb.1,λt g ht=>?_,hs.wf.inj,λ_ _ h=>nomatch h⟩,(λh b hb=>by cases hb),(λh h' b b' g g' z z' hb=>by cases hb),(λh x hx=>by cases hx),λ_ _ h=>nomatch h⟩
  obtain ⟨h1,h2,h3⟩:=hs.wf.tag t g ht;refine ⟨h1,h2,h3,?_⟩
  rintro ⟨h,hh,hz⟩
  obtain ⟨b,hb,_⟩:=hfz h hh;rcases hz with ⟨z,hz⟩ | hz
  . obtain ⟨_,_,_,_,_,hT,_⟩:=(hs.boxes h b hb).facts hz;exact hT t ht
  . exact (hs.wf.om g h hz).2.1 t ht
 refine Calls.mono' (hd.2 w (E.lend bor) vs hin (Ae6 hs bor xs as vs obs bor hl hv ha ho (λ_ h=>h))) ?_
 rintro e w' ⟨v,Ec,rfl,hrv,hout⟩
 have hblock:∀ b,b<w.heap.size->w'.heap[b]? = w.heap[b]?:=λb hb=>hout.fr.block b hb (λ⟨_,_,hx,_⟩=>by cases hx)
 have ht:Ji w w' (λ_=>False):=⟨hout.fr.os,hout.fr.tape,hout.fr.output,hout.fr.size,λb hb _=>hblock b hb⟩
 have lentA:∀ g,Q6 E bor g->E.A g/\g<w.heap.size /\ ∀ t,E.τ t ≠ some g:=by
  rintro g ⟨h,hh,hz⟩
  obtain ⟨b,hb,hf⟩:=hfz h hh;rcases hz with ⟨z,hz⟩ | hz
  . obtain ⟨_,_,_,ha,hA,hT,_⟩:=(hs.boxes h b hb).facts hz;exact ⟨hA hf,(ZI.1 ha).1,hT⟩
  . obtain ⟨h1,h2,_⟩:=hs.wf.om g h hz;exact ⟨h1,hs.wf.alt g h1,h2⟩
 let E':Env:={ A:=λb=>Ec.A b \/ Q6 E bor b,τ:=Ec.τ,β:=E.β,ω:=E.ω }
 have hAold:∀ b,b<w.heap.size->(E'.A b ↔ E.A b):=by
  intro b hb;have:=hout.old b hb;constructor
  . rintro (h' | h')
    . exact (this.1 h').1
    . exact (lentA b h').1
  . intro h';by_cases hlb:Q6 E bor b
    . exact .inr hlb
    . exact .inl (this.2 ⟨h',hlb⟩)
 have kk:C0 w w' E E':=by
  refine ⟨ht.size,λtag g hg hb=>?_,λ_ _ h=>h,λtag g o v _ hc=>ht.cell hc (λh=>h)⟩;unfold Env.blk at hb ⊢;split
  . rename_i e;rw [QL e] at hb;exact λh'=>hb ((hAold g hg).1 h')
  . rename_i e;rw [QJ e] at hb;have:=(hs.wf.tag tag g hb).1;exact (hout.tag tag this).trans hb
 have tagfr:∀ g,g<w.heap.size->(∀ t,E.τ t ≠ some g)->∀ t,E'.τ t ≠ some g:=by
  intro g hg hT t ht';by_cases hlt:t<s.nt
  . exact hT t ((hout.tag t hlt).symm.trans ht')
  . have:=hout.new t g (by omega) ht'
    omega
 have hωk:∀ b k,E.ω b=some k->E'.ω b=some k/\w'.heap[b]? = w.heap[b]?:=λb k hb=>⟨hb,hblock b (hs.wf.alt b (hs.wf.om b k hb).1)⟩;refine ⟨v,E',rfl,?_,?_⟩
 . rcases hcl with rfl | hcl
   . have hA0 : E'.A = Ec.A := by
      funext b
      exact propext ⟨λh=>h.elim id (λ⟨_,hh,_⟩=>by cases hh),λh=>.inl h⟩
     exact Rs.noH (E:=Ec) (E':=E') hA0 rfl hr hrv
   . exact Rs.closed (E:=Ec) (E':=E') rfl hrv hcl
 . refine ⟨hs.fr.trans ht.os ht.tape ht.output ht.size (λb hb _=>hblock b (ZU hb hs.fr.size)),⟨λb hb=>?_,λt g htg=>?_,hout.wf.inj,λb k hb=>?_⟩,λb hb=>?_,ZK hs.nt hout.ntle,λt htn=>?_,λt g htn htg=>?_,λh b hb=>?_,hs.inj,hs.own,λt x hx=>(hs.slots t x hx).keep kk,hs.tsize,hs.dom,hs.stay,λh b g z hb hβ hf hA=>?_,λb o hb=>⟨(hs.held b o hb).1,(hblock b (ZI.1 (hs.held b o hb).2).1).trans (hs.held b o hb).2⟩,hs.tow⟩
   . rcases hb with hb | hb
     . exact hout.wf.alt b hb
     . exact ZU (lentA b hb).2.1 ht.size
   . obtain ⟨h1,h2,h3⟩:=hout.wf.tag t g htg;exact ⟨h1,h2,.inl h3⟩
   . obtain ⟨h1,h2,h3⟩:=hs.wf.omk (λb k hb=>(hωk b k hb).2) b k hb;exact ⟨(hAold b (hs.wf.alt b h1)).2 h1,tagfr b (hs.wf.alt b h1) h2,h3⟩
   . rw [hAold b (ZU hb hs.fr.size)];exact hs.old b hb
   . exact (hout.tag t (ZU htn hs.nt)).trans (hs.tag t htn)
   . by_cases hlt:t<s.nt
     . exact hs.new t g htn ((hout.tag t hlt).symm.trans htg)
     . exact ZK hs.fr.size (hout.new t g (by omega) htg)
   . obtain ⟨g,cap,hβ,hat,hω,hS⟩:=hs.boxes h b hb
     exact F4.keep hat hω hS hβ (hblock g hat.lt) (λ_ _ _ _ _ _ _ hr=>hr.keep (kk.rd h b.tr hωk)) (λhA=>(hAold g hat.lt).2 hA) (tagfr g hat.lt (by obtain ⟨_,_,_,_,_,_,_,_,_,hT⟩:=hat;rw [Env.rd_τ] at hT;exact hT)) (λb' hb'=>hωk b' _ hb') hω
   . exact hs.fzn h b g z hb hβ hf ((hAold g (hs.lt hb hβ)).1 hA)
end Go.Ev

/- DERIVED. A call that is handed boxes, or hands out boxes. -/
namespace Go.Ev
open Go
variable {P:Program} {T:Ty}
def C.ren (σ:Nat->Nat):C->C
 | .i x=>.i x
 | .hs h o l=>.hs (σ h) o l
 | .hp h r c=>.hp (σ h) r c
def V.ren (σ:Nat->Nat):V->V
 | .one c=>.one (c.ren σ)
 | .agg cs=>.agg (cs.map (C.ren σ))
def S.ren (σ:Nat->Nat):S->S
 | .v x=>.v (x.ren σ)
 | .tup xs=>.tup (xs.map (V.ren σ))
 | .dead=>.dead
def C.okH (p:Nat->Bool):C->Bool
 | .i _=>true
 | .hs h _ _=>p h
 | .hp h _ _=>p h
def V.okH (p:Nat->Bool):V->Bool
 | .one c=>c.okH p
 | .agg cs=>cs.all (C.okH p)
def S.okH (p:Nat->Bool):S->Bool
 | .v x=>x.okH p
 | .tup xs=>xs.all (V.okH p)
 | .dead=>true
def C.allI (Q:I->Prop):C->Prop
 | .i x=>Q x
 | _=>True
def V.allI (Q:I->Prop):V->Prop
 | .one c=>c.allI Q
 | .agg cs=>∀ (j:Nat) (c:C),cs[j]? = some c->c.allI Q
def S.allI (Q:I->Prop):S->Prop
 | .v x=>x.allI Q
 | .tup xs=>∀ (j:Nat) (x:V),xs[j]? = some x->x.allI Q
 | .dead=>True
theorem C.allI_mono {Q R:I->Prop} (h:∀ y,Q y->R y) {c:C} (hc:c.allI Q):c.allI R:=by
 cases c with
 | i x=>exact h x hc
 | hs=>trivial
 | hp=>trivial
theorem C.allI_true {c:C}:c.allI (λ_=>True):=by cases c <;> trivial
theorem V.allI_true {x:V}:x.allI (λ_=>True):=by cases x with | one=>exact C.allI_true | agg=>exact λ_ _ _=>C.allI_true
theorem S.allI_true {x:S}:x.allI (λ_=>True):=by cases x with | v=>exact V.allI_true | tup=>exact λ_ _ _=>V.allI_true | dead=>trivial
section
variable {w:World} {E E':Env} {σ:Nat->Nat} {p:Nat->Bool} {Q:I->Prop}
theorem Rc.ren (kI:∀ v y,Ri w E v y->Q y->Ri w E' v y) (hβ:∀ k,p k=true->E'.β (σ k)=E.β k) {v:Value} {c:C} (ho:c.okH p=true) (hq:c.allI Q) (h:Rc w E v c):Rc w E' v (c.ren σ):=by
 cases h with
 | i h=>exact .i (kI _ _ h hq)
 | hs h off len g sz cap ad hb hle had=>exact .hs (σ h) off len g sz cap ad ((hβ h ho).trans hb) hle had
 | hp h row col g sz cap hb=>exact .hp (σ h) row col g sz cap ((hβ h ho).trans hb)
theorem Rv.ren (kI:∀ v y,Ri w E v y->Q y->Ri w E' v y) (hβ:∀ k,p k=true->E'.β (σ k)=E.β k) {v:Value} {x:V} (ho:x.okH p=true) (hq:x.allI Q) (h:Rv w E v x):Rv w E' v (x.ren σ):=by
 cases h with
 | one h=>exact .one (h.ren kI hβ ho hq)
 | @agg vs cs h =>
  refine .agg ⟨by simp [h.1],λj v c hv hc=>?_⟩
  rw [QK,QB] at hc;obtain ⟨c0,hc0,rfl⟩:=hc;exact (h.2 j v c0 hv hc0).ren kI hβ (F2 ho hc0) (hq j c0 hc0)
theorem Rs.ren (kI:∀ v y,Ri w E v y->Q y->Ri w E' v y) (hβ:∀ k,p k=true->E'.β (σ k)=E.β k) {v:Value} {x:S} (ho:x.okH p=true) (hq:x.allI Q) (h:Rs w E v x):Rs w E' v (x.ren σ):=by
 cases h with
 | v h=>exact .v (h.ren kI hβ ho hq)
 | @tup vs xs h =>
  refine .tup ⟨by simp [h.1],λj v c hv hc=>?_⟩
  rw [QK,QB] at hc;obtain ⟨c0,hc0,rfl⟩:=hc;exact (h.2 j v c0 hv hc0).ren kI hβ (F2 ho hc0) (hq j c0 hc0)
 | dead=>exact .dead
end
def Env.give (E:Env) (bor:List Nat) (bs:List (Nat × Box)) (σ:Nat->Nat) (π:Nat->Option Nat:=λ_=>none):Env :=
 { A:=λb=>E.A b /\ ¬ Q6 E bor b,τ:=E.τ,β:=λk=>if (A1 k bs).isSome then E.β (σ k) else none,
   ω:=λg=>(E.ω g).bind λh=>(π h).bind λk=>if (A1 k bs).isSome then some k else none }
def Qe (hd:Nat->Nat->Bool) (bx:Nat->Option Box) (c a:C):Option (List Prop × List Nat) :=
 match c,a with
 | .hs h o l,.hs k o' l'=>bif hd k h then some ([o=o',l=l'],[]) else none
 | .hp h r c,.hp k r' c'=>bif hd k h then some ([r=r',c=c'],[]) else none
 | c,a=>H0 bx (.v (.one c)) (.one a)
def Ms (hd:Nat->Nat->Bool) (bx:Nat->Option Box):List C->List C->Option (List Prop × List Nat)
 | [],[]=>some ([],[])
 | c::cs,a::as=>match Qe hd bx c a,Ms hd bx cs as with
  | some (p,h),some (ps,hs)=>some (p++ps,h++hs)
  | _,_=>none
 | _,_=>none
def A5i (hd:Nat->Nat->Bool) (bx:Nat->Option Box) (im:Bool) (x:S) (a:V):Option (List Prop × List Nat) :=
 bif im then V5 bx x a else match x,a with
 | .v (.one c),.one a=>Qe hd bx c a
 | .v (.agg cs),.agg as=>Ms hd bx cs as
 | _,_=>none
def Hr (hd:Nat->Nat->Bool) (bx:Nat->Option Box):List Bool->List S->List V->Option (List Prop × List Nat)
 | [],[],[]=>some ([],[])
 | i::is,x::xs,a::as=>match A5i hd bx i x a,Hr hd bx is xs as with
  | some (p,h),some (ps,hs)=>some (p++ps,h++hs)
  | _,_=>none
 | _,_,_=>none
theorem A5h {bx:Nat->Option Box} {x:S} {a:V} {q:List Prop × List Nat} (h:H0 bx x a=some q):a.noH=true:=by
 unfold H0 at h;split at h
 . split at h
   . rfl
   . cases h
 . rename_i y _
   cases hc:(y.noH&&a.noH) with
   | false=>rw [hc] at h;cases h
   | true=>exact (QE _ _ ▸ hc).2
 . cases h
theorem A62 {bx:Nat->Option Box}:∀ {cs as:List C} {q:List Prop × List Nat},Cz bx cs as=some q->as.all C4=true
 | [],[],_,_=>rfl
 | [],_::_,_,h=>by simp [Cz] at h
 | _::_,[],_,h=>by simp [Cz] at h
 | c::cs,a::as,q,h=>by
  simp only [Cz] at h;split at h
  . rename_i h1 h2;have e1:=A5h h1;have e2:=A62 h2;simp only [XY,e2,XP];exact e1
  . cases h
theorem B6m {bx:Nat->Option Box} {x:S} {a:V} {q:List Prop × List Nat} (h:V5 bx x a=some q):a.noH=true:=by
 unfold V5 at h;split at h
 . rename_i q' hq;exact A5h hq
 . split at h
   . exact A62 h
   . cases h
section
variable {Γ:Ctx} {w:World} {E:Env} {s:St} {tmps:Array Value} {bor:List Nat} {bs:List (Nat × Box)} {σ:Nat->Nat} {hd:Nat->Nat->Bool} {π:Nat->Option Nat}
theorem Ae8 (hs:A8 Γ w E s tmps) (hhd:∀ k h,hd k h=true->σ k=h/\(A1 k bs).isSome=true) {v:Value} {c a:C} {obs:List Prop} {hh:List Nat}
  (hv:Rc w E v c) (h:Qe hd (A1 · s.boxes) c a=some (obs,hh)) (ho:∀ p ∈ obs,p) (hb:∀ k ∈ hh,k ∈ bor):Rc w (E.give bor bs σ π) v a:=by
 have dflt:H0 (A1 · s.boxes) (.v (.one c)) (.one a)=some (obs,hh)->Rc w (E.give bor bs σ π) v a:=by
  intro h;have r:=A5g hs (bor:=bor) (x:=.v (.one c)) (a:=.one a) (.v (.one hv)) h ho hb;have:=Rv.noH (E:=E.lend bor) (E':=E.give bor bs σ π) rfl rfl (A5h h) r
  cases this with | one h=>exact h
 unfold Qe at h;split at h
 . rename_i h0 o l k o' l'
   cases hc:hd k h0 with
   | false=>rw [hc] at h;cases h
   | true =>
    rw [hc] at h;simp only [cond,QD,QI] at h;obtain ⟨rfl,rfl⟩:=h;obtain ⟨e1,e2⟩:=hhd k h0 hc
    have p1:o=o':=ho _ (by simp)
    have p2:l=l':=ho _ (by simp)
    subst p1;subst p2
    cases hv with
    | hs _ _ _ g sz cap ad hβ hle had=>exact .hs k o l g sz cap ad (by show (if _ then _ else _)=_;rw [QL e2,e1];exact hβ) hle had
 . rename_i h0 o l k o' l'
   cases hc:hd k h0 with
   | false=>rw [hc] at h;cases h
   | true =>
    rw [hc] at h;simp only [cond,QD,QI] at h;obtain ⟨rfl,rfl⟩:=h;obtain ⟨e1,e2⟩:=hhd k h0 hc
    have p1:o=o':=ho _ (by simp)
    have p2:l=l':=ho _ (by simp)
    subst p1;subst p2
    cases hv with
    | hp _ _ _ g sz cap hβ=>exact .hp k o l g sz cap (by show (if _ then _ else _)=_;rw [QL e2,e1];exact hβ)
 . exact dflt h
theorem A82 (hs:A8 Γ w E s tmps) (hhd:∀ k h,hd k h=true->σ k=h/\(A1 k bs).isSome=true):∀ {vs:List Value} {cs as:List C} {obs:List Prop} {hh:List Nat},
  Ei w E vs cs->Ms hd (A1 · s.boxes) cs as=some (obs,hh)->(∀ p ∈ obs,p)->(∀ k ∈ hh,k ∈ bor)->Ei w (E.give bor bs σ π) vs as
 | vs,[],[],_,_,hv,_,_,_=>⟨hv.1,λj v c _ hc=>by simp at hc⟩
 | _,[],_::_,_,_,_,h,_,_=>by simp [Ms] at h
 | _,_::_,[],_,_,_,h,_,_=>by simp [Ms] at h
 | [],c::cs,a::as,_,_,hv,_,_,_=>by have:=hv.1;simp at this
 | v::vs,c::cs,a::as,obs,hh,hv,h,ho,hb=>by
  simp only [Ms] at h;split at h
  . rename_i p k ps ks h1 h2;simp only [QD,QI] at h;obtain ⟨rfl,rfl⟩:=h;have r1:=Ae8 (π:=π) hs hhd (bor:=bor) (hv.2 0 v c rfl rfl) h1 (λq hq=>ho q (QF.2 (.inl hq))) (λq hq=>hb q (QF.2 (.inl hq)))
    have r2:=A82 hs hhd (vs:=vs) (cs:=cs) ⟨by simpa using hv.1,λj v' c' h1 h2=>hv.2 (j+1) v' c' (by simpa using h1) (by simpa using h2)⟩ h2 (λq hq=>ho q (QF.2 (.inr hq))) (λq hq=>hb q (QF.2 (.inr hq)))
    refine ⟨by simp [r2.1],λj v' x' hv' hx'=>?_⟩
    cases j with
    | zero=>simp at hv' hx';subst hv';subst hx';exact r1
    | succ j=>exact r2.2 j v' x' (by simpa using hv') (by simpa using hx')
  . cases h
theorem B23 (hs:A8 Γ w E s tmps) (hhd:∀ k h,hd k h=true->σ k=h/\(A1 k bs).isSome=true) {v:Value} {x:S} {a:V} {obs:List Prop} {hh:List Nat}
  {im:Bool} (hv:Rs w E v x) (h:A5i hd (A1 · s.boxes) im x a=some (obs,hh)) (ho:∀ p ∈ obs,p) (hb:∀ k ∈ hh,k ∈ bor):Rv w (E.give bor bs σ π) v a:=by
 unfold A5i at h
 cases im with
 | true=>exact Rv.noH (E:=E.lend bor) (E':=E.give bor bs σ π) rfl rfl (B6m h) (Ae7 hs hv h ho hb)
 | false =>
 simp only [cond] at h;split at h
 . cases hv with | v hv=>cases hv with | one hv=>exact .one (Ae8 hs hhd hv h ho hb)
 . cases hv with | v hv=>cases hv with | agg hv=>exact .agg (A82 hs hhd hv h ho hb)
 . cases h
theorem A81 (hs:A8 Γ w E s tmps) (hhd:∀ k h,hd k h=true->σ k=h/\(A1 k bs).isSome=true):∀ (is:List Bool) (xs:List S) (as:List V) (vs:List Value) (obs:List Prop) (hh:List Nat),vs.length=xs.length ->
  (∀ (j:Nat) v x,vs[j]? = some v->xs[j]? = some x->Rs w E v x)->Hr hd (A1 · s.boxes) is xs as=some (obs,hh)->(∀ p ∈ obs,p)->(∀ k ∈ hh,k ∈ bor)->Ln w (E.give bor bs σ π) vs as
 | [],[],[],vs,obs,hh,hl,_,_,_,_=>⟨by simpa using hl,λj v x _ hx=>by simp at hx⟩
 | i::is,x::xs,a::as,[],_,_,hl,_,_,_,_=>by simp at hl
 | i::is,x::xs,a::as,v::vs,obs,hh,hl,hv,h,ho,hb=>by
  simp only [Hr] at h;split at h
  . rename_i p k ps ks h1 h2;simp only [QD,QI] at h;obtain ⟨rfl,rfl⟩:=h;have r1:=B23 (π:=π) (bor:=bor) hs hhd (hv 0 v x rfl rfl) h1 (λq hq=>ho q (QF.2 (.inl hq))) (λq hq=>hb q (QF.2 (.inl hq)))
    have r2:=A81 hs hhd is xs as vs ps ks (by simpa using hl) (λj v x hv' hx'=>hv (j+1) v x (by simpa using hv') (by simpa using hx')) h2 (λq hq=>ho q (QF.2 (.inr hq))) (λq hq=>hb q (QF.2 (.inr hq)))
    refine ⟨by simp [r2.1],λj v' x' hv' hx'=>?_⟩
    cases j with
    | zero=>simp at hv' hx';subst hv';subst hx';exact r1
    | succ j=>exact r2.2 j v' x' (by simpa using hv') (by simpa using hx')
  . cases h
 | [],[],_::_,_,_,_,_,_,h,_,_=>by simp [Hr] at h
 | [],_::_,_,_,_,_,_,_,h,_,_=>by simp [Hr] at h
 | _::_,[],_,_,_,_,_,_,h,_,_=>by simp [Hr] at h
 | _::_,_::_,[],_,_,_,_,_,h,_,_=>by simp [Hr] at h
end
theorem C.okH_true {p:Nat->Bool} (hp:∀ h,p h=true) (c:C):c.okH p=true:=by cases c <;> first | rfl | exact hp _
theorem V.okH_true {p:Nat->Bool} (hp:∀ h,p h=true) (x:V):x.okH p=true:=by
 cases x with
 | one c=>exact C.okH_true hp c
 | agg cs=>exact QM.2 λc _=>C.okH_true hp c
theorem S.okH_true {p:Nat->Bool} (hp:∀ h,p h=true) (x:S):x.okH p=true:=by
 cases x with
 | v x=>exact V.okH_true hp x
 | tup xs=>exact QM.2 λx _=>V.okH_true hp x
 | dead=>rfl
structure Kj (p:Nat->Bool) (w w':World) (E E':Env):Prop where
 size:w.heap.size<=w'.heap.size
 blk:∀ tag g,g<w.heap.size->E.blk tag g->E'.blk tag g
 β:∀ h x,p h=true->E.β h=some x->E'.β h=some x
 cell:∀ tag g o v,E.blk tag g->w.cell? ⟨g,o,none⟩=some v->w'.cell? ⟨g,o,none⟩=some v
theorem Rc.keepOn {p:Nat->Bool} {w w':World} {E E':Env} (k:Kj p w w' E E') {v:Value} {x:C} (ho:x.okH p=true) (h:Rc w E v x):Rc w' E' v x:=by
 cases h with
 | i h=>exact .i (h.keepI k.size k.blk k.cell)
 | hs h off len g sz cap ad hβ hle had=>exact .hs h off len g sz cap ad (k.β _ _ ho hβ) hle had
 | hp h row col g sz cap hβ=>exact .hp h row col g sz cap (k.β _ _ ho hβ)
theorem Rv.keepOn {p:Nat->Bool} {w w':World} {E E':Env} (k:Kj p w w' E E') {v:Value} {x:V} (ho:x.okH p=true) (h:Rv w E v x):Rv w' E' v x:=by
 cases h with
 | one h=>exact .one (h.keepOn k ho)
 | agg h=>exact .agg ⟨h.1,λj v c hv hc=>(h.2 j v c hv hc).keepOn k (F2 ho hc)⟩
theorem Rs.keepOn {p:Nat->Bool} {w w':World} {E E':Env} (k:Kj p w w' E E') {v:Value} {x:S} (ho:x.okH p=true) (h:Rs w E v x):Rs w' E' v x:=by
 cases h with
 | v h=>exact .v (h.keepOn k ho)
 | tup h=>exact .tup ⟨h.1,λj v c hv hc=>(h.2 j v c hv hc).keepOn k (F2 ho hc)⟩
 | dead=>exact .dead
theorem Kj.rd {p:Nat->Bool} {w w':World} {E E':Env} (k:Kj p w w' E E') (h:Nat) (tr:Bool) (ho:∀ b,E.ω b=some h->E'.ω b=some h/\w'.heap[b]? = w.heap[b]?):Kj p w w' (E.rd h tr) (E'.rd h tr):=by
 cases tr with
 | false=>exact k
 | true =>
  have hb0:∀ tag g,(E.rd h true).blk tag g->E.blk tag g \/ (tag=0/\E.ω g=some h):=by
   intro tag g hb;unfold Env.blk at hb ⊢;by_cases e:tag=0
   . rw [QL e] at hb ⊢;by_cases hA:E.A g
     . refine .inr ⟨e,?_⟩;exact Classical.byContradiction λhn=>hb ⟨hA,hn⟩
     . exact .inl hA
   . rw [QJ e] at hb ⊢;exact .inl hb
  refine ⟨k.size,λtag g hg hb=>?_,k.β,λtag g o v hb hc=>?_⟩
  . rcases hb0 tag g hb with h1 | ⟨e,h1⟩
    . have h2:=k.blk tag g hg h1;unfold Env.blk at h2 ⊢;by_cases e:tag=0
      . rw [QL e] at h2 ⊢;exact λh3=>h2 h3.1
      . rw [QJ e] at h2 ⊢;exact h2
    . unfold Env.blk;rw [QL e];exact λh3=>h3.2 (ho g h1).1
  . rcases hb0 tag g hb with h1 | ⟨_,h1⟩
    . exact k.cell tag g o v h1 hc
    . rw [World.cell?_of_block (a:=⟨g,o,none⟩) (ho g h1).2];exact hc
def V9 (y:I):Prop:=(∃ v,y = .lit v) \/ ∃ nl sz rows,y = .sl 0 nl sz rows /\ ∀ (i:Nat) (r:List I) (j:Nat) (c:I),rows[i]? = some r->r[j]? = some c->∃ v,c = .lit v
theorem Ri.flat {w:World} {E E':Env} {v:Value} {y:I} (h:Ri w E v y) (hy:V9 y) (hb:∀ a len cap,v = .slice (some a) len cap->0<len->E'.blk 0 a.block):Ri w E' v y:=by
 cases h with
 | lit v h=>exact .lit v h
 | nil tag sz cap a nl hn hc=>exact .nil tag sz cap a nl hn hc
 | sl tag sz g o cap rows vs hne hcap hg hbk hlen hcell hrc =>
  rcases hy with ⟨_,hy⟩ | ⟨nl,sz',rows',hy,hl⟩
  . cases hy
  . obtain ⟨rfl,rfl,rfl,rfl⟩:=I.sl.inj hy;refine .sl 0 sz g o cap rows vs hne hcap hg (hb _ _ _ rfl (XA.2 hne)) hlen hcell (λi r j c hi hj=>?_);obtain ⟨u,rfl⟩:=hl i r j c hi hj;have:=hrc i r j _ hi hj;generalize vs i j=z at this ⊢
    cases this with | lit _ h=>exact .lit _ h
 | ref=>rcases hy with ⟨_,hy⟩ | ⟨_,_,_,hy,_⟩ <;> cases hy
 | fn=>rcases hy with ⟨_,hy⟩ | ⟨_,_,_,hy,_⟩ <;> cases hy
 | any=>rcases hy with ⟨_,hy⟩ | ⟨_,_,_,hy,_⟩ <;> cases hy
theorem An0 {Γ:Ctx} {w:World} {E:Env} {s s':St} {tmps:Array Value} (hs:A8 Γ w E s tmps) {f:FuncId} {as:List V} {vs:List Value} {r:S} {nt':Nat} {bor:List Nat} {bs bs':List (Nat × Box)} (σ:Nat->Nat) (π:Nat->Option Nat) (mv:List Nat) (gone:Nat->Bool)
  (hg1:∀ k,(A1 k bs).isSome=true->mv.contains k=true->gone (σ k)=true) (hg2:∀ h,gone h=true->h<1000 \/ Γ.K.mv.contains h=true)
  (hg3:∀ t x,A1 t s.slots=some x->x.okH (λh=>!gone h)=true) (hg4:∀ h b,A1 h s.boxes=some b->b.hf=true \/ ∀ (i:Nat) (q:List C) (j:Nat) (c:C),b.rows[i]? = some q->q[j]? = some c->c.okH (λh=>!gone h)=true)
  (hd:Jk P f s.nt mv bs as r nt' bs') (hv:Ln w (E.give bor bs σ π) vs as)
  (hπ1:∀ k,(A1 k bs').isSome=true->π (σ k)=some k) (hπ2:∀ h k,π h=some k->σ k=h/\(A1 k bs').isSome=true)
  (hi:∀ k b,A1 k bs=some b->1000<=k/\A1 (σ k) s.boxes=some b/\b.fz=false/\b.hf=true/\σ k ∉ bor/\(A1 k bs').isSome=true)
  (ho:∀ k b,A1 k bs'=some b->b.hf=true/\(A1 k bs=none->A1 (σ k) s.boxes=none/\σ k<1000))
  (hcl:bor=[] \/ (r.allI IClosed /\ ∀ k b,A1 k bs'=some b->∀ (i:Nat) (q:List C) (j:Nat) (c:C),b.rows[i]? = some q->q[j]? = some c->c.allI λy=>IClosed y \/ (b.tr=true/\V9 y)))
  (hr:r.okH (λk=>(A1 k bs').isSome)=true) (hfz:∀ h ∈ bor,∃ b,A1 h s.boxes=some b/\b.fz=false)
  (hs1:∀ h,A1 h s'.boxes=match π h with | some k=>A1 k bs' | none=>A1 h s.boxes) (hs2:∀ t x,A1 t s'.slots=some x->x = .dead \/ A1 t s.slots=some x) (hs3:s'.nt=nt') :
  Calls P f vs.toArray w (λe w'=>∃ v E',e = .returned v/\Rs w' E' v (r.ren σ)/\A8 Γ w' E' s' tmps):=by
 have lentA:∀ g,Q6 E bor g->E.A g/\g<w.heap.size /\ ∀ t,E.τ t ≠ some g:=by
  rintro g ⟨h,hh,hz⟩
  obtain ⟨b,hb,hf⟩:=hfz h hh;rcases hz with ⟨z,hz⟩ | hz
  . obtain ⟨_,_,_,ha,hA,hT,_⟩:=(hs.boxes h b hb).facts hz;exact ⟨hA hf,(ZI.1 ha).1,hT⟩
  . obtain ⟨h1,h2,_⟩:=hs.wf.om g h hz;exact ⟨h1,hs.wf.alt g h1,h2⟩
 let E1:=E.give bor bs σ π
 have ω1:∀ g k,E1.ω g=some k ↔ E.ω g=some (σ k)/\(A1 k bs).isSome=true:=by
  intro g k
  show ((E.ω g).bind λh=>(π h).bind λk=>if (A1 k bs).isSome then some k else none)=some k ↔ _
  constructor
  . intro h;obtain ⟨h0,e1,h⟩:=YQ.1 h;obtain ⟨k0,e2,h⟩:=YQ.1 h;split at h
    . rename_i e3;obtain rfl:=QA h;rw [(hπ2 h0 k0 e2).1];exact ⟨e1,e3⟩
    . cases h
  . rintro ⟨e1,e2⟩
    obtain ⟨b,hb⟩:=ZF.1 e2;rw [e1,YC,hπ1 k (hi k b hb).2.2.2.2.2,YC,QL e2]
 have E1β:∀ k b,A1 k bs=some b->E1.β k=E.β (σ k):=λk b hb=>by
  show (if _ then _ else _)=_
  rw [QL (by rw [hb];rfl)]
 have notlent:∀ k b g z,A1 k bs=some b->E.β (σ k)=some (g,z)->¬ Q6 E bor g:=by
  rintro k b g z hb hz ⟨h,hh,hz'⟩
  obtain ⟨_,h2,_,_,h5,_⟩:=hi k b hb;obtain ⟨b',hb',_⟩:=hfz h hh;rcases hz' with ⟨z',hz'⟩ | hz'
  . exact hs.inj h (σ k) b' b g g z' z hb' h2 hz' hz (λe=>h5 (e ▸ hh)) rfl
  . obtain ⟨_,_,_,_,_,_,hω⟩:=(hs.boxes _ _ h2).facts hz;rw [hω] at hz';cases hz'
 have notlentω:∀ k b g,A1 k bs=some b->E.ω g=some (σ k)->¬ Q6 E bor g:=by
  rintro k b g hb hz ⟨h,hh,hz'⟩
  obtain ⟨_,h2,_,_,h5,_⟩:=hi k b hb;obtain ⟨b',hb',_⟩:=hfz h hh;rcases hz' with ⟨z',hz'⟩ | hz'
  . obtain ⟨_,_,_,_,_,_,hω⟩:=(hs.boxes h b' hb').facts hz';rw [hω] at hz;cases hz
  . rw [hz] at hz';exact h5 (QA hz' ▸ hh)
 have hin:FIn w E1 s.nt bs:=by
  refine ⟨⟨λb hb=>hs.wf.alt b hb.1,λt g ht=>?_,hs.wf.inj,λg k hk=>?_⟩,λk b hb=>?_,λk k' b b' g g' z z' hb hb' hz hz' hk=>?_,λk x hx=>?_,λg k hk=>((ω1 g k).1 hk).2⟩
  . obtain ⟨h1,h2,h3⟩:=hs.wf.tag t g ht;exact ⟨h1,h2,h3,λhl=>(lentA g hl).2.2 t ht⟩
  . obtain ⟨e1,e2⟩:=(ω1 g k).1 hk;obtain ⟨b,hb⟩:=ZF.1 e2;obtain ⟨h1,h2,h3⟩:=hs.wf.om g _ e1;exact ⟨⟨h1,notlentω k b g hb e1⟩,h2,h3⟩
  . obtain ⟨h1,h2,h3,h4,h5,_⟩:=hi k b hb;obtain ⟨g,cap,hβ,hat,hω,hS⟩:=hs.boxes _ _ h2;have hnl:=notlent k b g _ hb hβ
    have hω':E1.ω g=none:=by
     cases e:E1.ω g with
     | none=>rfl
     | some k'=>have:=((ω1 g k').1 e).1;rw [hω] at this;cases this
    refine ⟨⟨g,cap,(E1β k b hb).trans hβ,hat.keep rfl (λi q j c v hq hc hrc=>?_) (λhA=>(Env.rd_A hω').2 ⟨(Env.rd_A hω).1 hA,hnl⟩) ?_,hω',λe=>?_⟩,h3,h1⟩
    rotate_left 2
    . refine ⟨λi r j y len cap a h1 h2 h3 h4 h5=>(ω1 _ _).2 ⟨(hS e).1 i r j y len cap a h1 h2 h3 h4 h5,by rw [hb];rfl⟩,(hS e).2⟩
    . obtain ⟨_,_,_,_,_,_,_,hhf,_,_⟩:=hat;obtain ⟨x,rfl⟩:=hhf h4 i q j c hq hc
      cases hrc with
      | i hri =>
       refine .i (hri.keepI (QY _) (λtag g _ hb'=>?_) (λ_ _ _ _ _ h=>h));unfold Env.blk at hb' ⊢;split
       . rename_i e;rw [QL e] at hb'
         cases htr:b.tr with
         | false=>rw [htr] at hb';exact λh=>hb' h.1
         | true =>
          rw [htr] at hb'
          exact λh=>hb' ⟨h.1.1,λh4=>h.2 ((ω1 _ _).2 ⟨h4,by rw [hb];rfl⟩)⟩
       . rename_i e;rw [QJ e,Env.rd_τ] at hb';rw [Env.rd_τ];exact hb'
    . obtain ⟨_,_,_,_,_,_,_,_,_,hT⟩:=hat;rw [Env.rd_τ] at hT ⊢;exact hT
  . rw [E1β k b hb] at hz;rw [E1β k' b' hb'] at hz';have e1:=hi k b hb;have e2:=hi k' b' hb';refine hs.inj _ _ b b' g g' z z' e1.2.1 e2.2.1 hz hz' λe=>hk ?_;have h1:=hπ1 k e1.2.2.2.2.2;have h2:=hπ1 k' e2.2.2.2.2.2;rw [e,h2] at h1;exact (QA h1).symm
  . by_cases hk:(A1 k bs).isSome=true
    . exact hk
    . have:E1.β k=none:=by show (if _ then _ else _)=_;rw [QJ hk]
      rw [this] at hx;cases hx
 refine Calls.mono' (hd.2 w E1 vs hin hv) ?_
 rintro e w' ⟨v,Ec,rfl,hrv,hout⟩
 let hand:Nat->Prop:=handed E1 bs
 have handOld:∀ g,hand g->∃ h b,A1 h s.boxes=some b/\((∃ z,E.β h=some (g,z)) \/ E.ω g=some h)/\b.fz=false /\ ∃ k,σ k=h/\(A1 k bs).isSome=true:=by
  rintro g ⟨k,b,hb,hz⟩
  obtain ⟨h1,h2,h3,_⟩:=hi k b hb
  refine ⟨σ k,b,h2,?_,h3,k,rfl,by rw [hb];rfl⟩
  rcases hz with ⟨z,hz⟩ | hz
  . rw [E1β k b hb] at hz;exact .inl ⟨z,hz⟩
  . exact .inr ((ω1 g k).1 hz).1
 have handA:∀ g,hand g->E.A g/\g<w.heap.size /\ ∀ t,E.τ t ≠ some g:=by
  intro g hg;obtain ⟨h,b,hb,hz,hf,_⟩:=handOld g hg;rcases hz with ⟨z,hz⟩ | hz
  . obtain ⟨_,_,_,ha,hA,hT,_⟩:=(hs.boxes h b hb).facts hz;exact ⟨hA hf,(ZI.1 ha).1,hT⟩
  . obtain ⟨h1,h2,_⟩:=hs.wf.om g h hz;exact ⟨h1,hs.wf.alt g h1,h2⟩
 have hblock:∀ b,b<w.heap.size->¬ hand b->w'.heap[b]? = w.heap[b]?:=λb hb hn=>hout.fr.block b hb hn;have ht:Ji w w' hand:=⟨hout.fr.os,hout.fr.tape,hout.fr.output,hout.fr.size,hblock⟩
 let β':Nat->Option (Nat × Nat × Nat):=λh=>match π h with | some k=>Ec.β k | none=>E.β h
 let ω':Nat->Option Nat:=λg=>@ite _ (hand g \/ w.heap.size<=g) (Classical.propDecidable _) ((Ec.ω g).bind λk=>if (A1 k bs').isSome then some (σ k) else none) (E.ω g)
 let E':Env:=⟨λb=>Ec.A b \/ Q6 E bor b,Ec.τ,β',ω'⟩
 have E'k:∀ k,(A1 k bs').isSome=true->E'.β (σ k)=Ec.β k:=λk hk=>by
  show (match π (σ k) with | some k=>Ec.β k | none=>E.β (σ k))=_
  rw [hπ1 k hk]
 have E'o:∀ h,π h=none->E'.β h=E.β h:=λh hh=>by
  show (match π h with | some k=>Ec.β k | none=>E.β h)=_
  rw [hh]
 have ωnew:∀ g,hand g \/ w.heap.size<=g->E'.ω g=(Ec.ω g).bind λk=>if (A1 k bs').isSome then some (σ k) else none:=λg hg=>QL hg
 have ωold:∀ g,¬ (hand g \/ w.heap.size<=g)->E'.ω g=E.ω g:=λg hg=>QJ hg
 have ωk:∀ g k,(A1 k bs').isSome=true->Ec.ω g=some k->E'.ω g=some (σ k):=by
  intro g k hk hg;have:hand g \/ w.heap.size<=g:=(hout.tow g k hg).symm;rw [ωnew g this,hg,YC,QL hk]
 have ωinv:∀ g h,E'.ω g=some h->(∃ k,(A1 k bs').isSome=true/\σ k=h/\Ec.ω g=some k/\(hand g \/ w.heap.size<=g)) \/ (E.ω g=some h /\ ¬ hand g/\g<w.heap.size):=by
  intro g h hg;by_cases hp:hand g \/ w.heap.size<=g
  . rw [ωnew g hp] at hg;obtain ⟨k,e1,e2⟩:=YQ.1 hg;split at e2
    . rename_i e3;exact .inl ⟨k,e3,QA e2,e1,hp⟩
    . cases e2
  . rw [ωold g hp] at hg;exact .inr ⟨hg,λh=>hp (.inl h),Nat.lt_of_not_le λh=>hp (.inr h)⟩
 have hAold:∀ b,b<w.heap.size->(E'.A b ↔ E.A b):=by
  intro b hb;have:=hout.old b hb;constructor
  . rintro (h' | h')
    . exact (this.1 h').1
    . exact (lentA b h').1
  . intro h';by_cases hlb:Q6 E bor b
    . exact .inr hlb
    . exact .inl (this.2 ⟨h',hlb⟩)
 have stays:∀ k b,A1 k bs=some b->mv.contains k=false->Ec.β k=E.β (σ k):=λk b hb hm=>(hout.stay k b hb hm).1.trans (E1β k b hb)
 have kk:Kj (λh=>!gone h) w w' E E':=by
  refine ⟨ht.size,λtag g hg hb=>?_,λh x hng hx=>?_,λtag g o v hb hc=>ht.cell hc (λhh=>?_)⟩
  . unfold Env.blk at hb ⊢;split
    . rename_i e;rw [QL e] at hb;exact λh'=>hb ((hAold g hg).1 h')
    . rename_i e;rw [QJ e] at hb;exact (hout.tag tag (hs.wf.tag tag g hb).1).trans hb
  . cases hp:π h with
    | none=>rw [E'o h hp];exact hx
    | some k =>
     obtain ⟨e1,e2⟩:=hπ2 h k hp;subst e1;rw [E'k k e2]
     cases hb:A1 k bs with
     | some b =>
      have hm:mv.contains k=false:=by
       cases hm:mv.contains k with
       | false=>rfl
       | true=>simp only [hg1 k (by rw [hb];rfl) hm,ZR] at hng;cases hng
      rw [stays k b hb hm];exact hx
     | none =>
      obtain ⟨b',hb'⟩:=ZF.1 e2;have:=((ho k b' hb').2 hb).1;have hd':=hs.dom _ _ hx;rw [this] at hd';cases hd'
  . have:=handA g hh;unfold Env.blk at hb;split at hb
    . exact hb this.1
    . exact this.2.2 _ hb
 have tagfr:∀ g,g<w.heap.size->(∀ t,E.τ t ≠ some g)->∀ t,E'.τ t ≠ some g:=by
  intro g hg hT t ht';by_cases hlt:t<s.nt
  . exact hT t ((hout.tag t hlt).symm.trans ht')
  . have:=hout.new t g (by omega) ht'
    omega
 have kI:∀ (Q:I->Prop),(bor=[] \/ ∀ y,Q y->IClosed y)->∀ v y,Ri w' Ec v y->Q y->Ri w' E' v y:=by
  intro Q hQ v y hy hq;rcases hQ with hQ | hQ
  . have hA0 : E'.A = Ec.A := by
     funext b
     exact propext ⟨λh=>h.elim id (λ⟨_,hh,_⟩=>by rw [hQ] at hh;cases hh),λh=>.inl h⟩
    refine hy.keepI (QY _) (λtag g _ hb=>?_) (λ_ _ _ _ _ h=>h);unfold Env.blk at hb ⊢;rw [hA0];exact hb
  . exact Ri.closed (E:=Ec) (E':=E') rfl hy (hQ y hq)
 have kB:∀ k b g cap,A1 k bs'=some b->C7 w' (Ec.rd k b.tr) b g cap->(b.tr=true->Sep w' Ec k b g)->∀ (i:Nat) (q:List C) (j:Nat) (y:I) v,b.rows[i]? = some q->q[j]? = some (.i y)->w'.cell? ⟨g,i*b.sz+j,none⟩=some v->Ri w' (Ec.rd k b.tr) v y->Ri w' (E'.rd (σ k) b.tr) v y:=by
  intro k b g cap hk hat hS i q j y v hq hc hcell hri
  have hks:(A1 k bs').isSome=true:=by rw [hk];rfl
  rcases hcl with hb0 | ⟨_,hc0⟩
  . cases htr:b.tr with
    | false =>
     rw [htr] at hri;exact kI (λ_=>True) (.inl hb0) _ _ hri trivial
    | true =>
     rw [htr] at hri
     have hA0:E'.A=Ec.A:=by
      funext b
      exact propext ⟨λh=>h.elim id (λ⟨_,hh,_⟩=>by rw [hb0] at hh;cases hh),λh=>.inl h⟩
     refine hri.keepI (QY _) (λtag g' _ hb=>?_) (λ_ _ _ _ _ h=>h);unfold Env.blk at hb ⊢;split
     . rename_i e;rw [QL e] at hb
       rintro ⟨h1,h2⟩
       rw [hA0] at h1;exact hb ⟨h1,λh3=>h2 (ωk g' k hks h3)⟩
     . rename_i e;rw [QJ e] at hb;exact hb
  . have hc1:=hc0 k b hk i q j _ hq hc;have hc1:IClosed y \/ (b.tr=true/\V9 y):=hc1;rcases hc1 with hc1 | ⟨htr,hfl⟩
    . exact Ri.closed (E:=Ec.rd k b.tr) (E':=E'.rd (σ k) b.tr) (by rw [Env.rd_τ,Env.rd_τ]) hri hc1
    . have hfl':=hfl;rcases hfl with ⟨u,rfl⟩ | ⟨nl,sz',rows',rfl,_⟩
      . cases hri with | lit _ h=>exact .lit _ h
      refine hri.flat hfl' λa len cap' hv hl=>?_;subst hv;have:=(hS htr).1 i q j _ len cap' a hq hc rfl hcell hl;rw [htr];unfold Env.blk;rw [QL rfl];exact λh=>h.2 (ωk _ k hks this)
 have ownc:∀ k b g z,A1 k bs'=some b->Ec.β k=some (g,z)->w.heap.size<=g \/ ∃ b0,A1 k bs=some b0/\E.β (σ k)=some (g,z):=by
  intro k b g z hb hz;rcases hout.own k b g z hb hz with h | ⟨b0,h1,h2⟩
  . exact .inl h
  . rw [E1β k b0 h1] at h2;exact .inr ⟨b0,h1,h2⟩
 have getb:∀ h b,A1 h s'.boxes=some b->(∃ k,π h=some k/\σ k=h/\A1 k bs'=some b/\E'.β h=Ec.β k) \/ (π h=none/\A1 h s.boxes=some b/\E'.β h=E.β h):=by
  intro h b hb;rw [hs1 h] at hb
  cases hp:π h with
  | none=>rw [hp] at hb;exact .inr ⟨rfl,hb,E'o h hp⟩
  | some k =>
   rw [hp] at hb;obtain ⟨e1,e2⟩:=hπ2 h k hp
   exact .inl ⟨k,rfl,e1,hb,by rw [<- e1];exact E'k k e2⟩
 refine ⟨v,E',rfl,?_,?_⟩
 . rcases hcl with hb | ⟨hc,_⟩
   . exact Rs.ren (Q:=λ_=>True) (kI _ (.inl hb)) (λk hk=>E'k k hk) hr S.allI_true hrv
   . exact Rs.ren (Q:=IClosed) (kI _ (.inr λ_ h=>h)) (λk hk=>E'k k hk) hr hc hrv
 . refine ⟨hs.fr.trans ht.os ht.tape ht.output ht.size (λb hb hnp=>hblock b (ZU hb hs.fr.size) (λhh=>?_)),⟨λb hb=>?_,λt g htg=>?_,hout.wf.inj,λg h hg=>?_⟩,λb hb=>?_,by rw [hs3];exact ZK hs.nt hout.ntle,λt htn=>?_,λt g htn htg=>?_,λh b hb=>?_,λh h' b b' g g' z z' hb hb' hz hz' hne=>?_,λh b g z hb hz=>?_,λt x hx=>?_,hs.tsize,λh x hx=>?_,λh hh hh2 hm=>?_,λh b g z hb hβ hf hA=>?_,λb o hb=>⟨(hs.held b o hb).1,(hblock b (ZI.1 (hs.held b o hb).2).1 (λhh=>?_)).trans (hs.held b o hb).2⟩,λg h hg=>?_⟩
   . obtain ⟨h,bx,h1,h2,_⟩:=handOld b hh;rcases h2 with ⟨z,h2⟩ | h2
     . rcases hs.own h bx b z h1 h2 with h' | h'
       . omega
       . exact hnp h'.1
     . rcases hs.tow b h h2 with h' | h'
       . omega
       . exact hnp h'
   . rcases hb with hb | hb
     . exact hout.wf.alt b hb
     . exact ZU (lentA b hb).2.1 ht.size
   . obtain ⟨h1,h2,h3⟩:=hout.wf.tag t g htg;rw [hs3];exact ⟨h1,h2,.inl h3⟩
   . rcases ωinv g h hg with ⟨k,e1,e2,e3,_⟩ | ⟨e1,e2,e3⟩
     . obtain ⟨h1,h2,h3⟩:=hout.wf.om g k e3;exact ⟨.inl h1,h2,h3⟩
     . obtain ⟨h1,h2,o,h3,h4⟩:=hs.wf.om g h e1;exact ⟨(hAold g e3).2 h1,tagfr g e3 h2,o,(hblock g e3 e2).trans h3,h4⟩
   . rw [hAold b (ZU hb hs.fr.size)];exact hs.old b hb
   . exact (hout.tag t (ZU htn hs.nt)).trans (hs.tag t htn)
   . by_cases hlt:t<s.nt
     . exact hs.new t g htn ((hout.tag t hlt).symm.trans htg)
     . exact ZK hs.fr.size (hout.new t g (by omega) htg)
   . rcases getb h b hb with ⟨k,hp,hσ,hk,hβ⟩ | ⟨hp,hk,hβ⟩
     . obtain ⟨g,cap,hβ',hat,hω,hS⟩:=(hout.boxes k b hk).1;have hat0:=hat
       have hω':E'.ω g=none:=by
        cases e:E'.ω g with
        | none=>rfl
        | some h0 =>
         rcases ωinv g h0 e with ⟨k',_,_,e3,_⟩ | ⟨_,e2,e3⟩
         . rw [hω] at e3;cases e3
         . rcases hout.own k b g _ hk hβ' with h4 | ⟨b0,h5,h6⟩
           . omega
           . exact absurd ⟨k,b0,h5,.inl ⟨_,h6⟩⟩ e2
       obtain ⟨arr,a1,a2,a3,a4,a5,a6,hhf,a8,a9⟩:=hat;rw [Env.rd_τ] at a9
       refine ⟨g,cap,hβ.trans hβ',⟨arr,a1,a2,a3,a4,a5,λi q j c hq hc=>?_,hhf,λe=>(Env.rd_A hω').2 (.inl ((Env.rd_A hω).1 (a8 e))),by rw [Env.rd_τ];exact a9⟩,hω',λe=>?_⟩
       . obtain ⟨v,hv1,hrc⟩:=a6 i q j c hq hc;obtain ⟨x,rfl⟩:=hhf (ho k b hk).1 i q j c hq hc;refine ⟨v,hv1,?_⟩
         cases hrc with
         | i hri =>
          rw [<- hσ]
          exact .i (kB k b g cap hk hat0 hS i q j x v hq hc (by simp [World.cell?,a1,hv1]) hri)
       . refine ⟨λi r j y len cap a h1 h2 h3 h4 h5=>?_,(hS e).2⟩;rw [<- hσ]
         exact ωk _ k (by rw [hk];rfl) ((hS e).1 i r j y len cap a h1 h2 h3 h4 h5)
     . obtain ⟨g,cap,hβ',hat,hω,hS⟩:=hs.boxes h b hk
       have hpn:∀ k,(A1 k bs).isSome=true->σ k ≠ h:=by
        intro k q4 e;obtain ⟨bb,hbb⟩:=ZF.1 q4;have:=hπ1 k (hi k bb hbb).2.2.2.2.2;rw [e,hp] at this
        cases this
       have hnω:∀ b',E.ω b'=some h->E'.ω b'=some h/\w'.heap[b']? = w.heap[b']?:=by
        intro b' hb';have hlt:=hs.wf.alt b' (hs.wf.om b' h hb').1
        have hn:¬ hand b':=by
         intro hh;obtain ⟨h2,b2,q1,q2,_,k,q3,q4⟩:=handOld b' hh;rcases q2 with ⟨z,q2⟩ | q2
         . obtain ⟨_,_,_,_,_,_,hω2⟩:=(hs.boxes h2 b2 q1).facts q2;rw [hω2] at hb';cases hb'
         . rw [hb'] at q2;exact hpn k q4 (q3.trans (QA q2).symm)
        exact ⟨by rw [ωold b' (λh'=>h'.elim hn λh'=>by omega)];exact hb',hblock b' hlt hn⟩
       have hnh:¬ hand g:=by
        intro hh;obtain ⟨h2,b2,q1,q2,_,k,q3,q4⟩:=handOld g hh;rcases q2 with ⟨z2,q2⟩ | q2
        rotate_left
        . rw [hω] at q2;cases q2
        by_cases e:h=h2
        . obtain ⟨bb,hbb⟩:=ZF.1 q4;have:=hπ1 k (hi k bb hbb).2.2.2.2.2;rw [q3,<- e,hp] at this
          cases this
        . exact hs.inj h h2 b b2 g g _ z2 hk q1 hβ' q2 e rfl
       exact F4.keep hat hω hS (hβ.trans hβ') (hblock g hat.lt hnh) (λi q j c v hq hc hr=>hr.keepOn (kk.rd h b.tr hnω) (by
        rcases hg4 h b hk with hh | hh
        . obtain ⟨_,_,_,_,_,_,_,hhf,_,_⟩:=hat;obtain ⟨x,rfl⟩:=hhf hh i q j c hq hc;rfl
        . exact hh i q j c hq hc)) (λhA=>(hAold g hat.lt).2 hA) (tagfr g hat.lt (by obtain ⟨_,_,_,_,_,_,_,_,_,hT⟩:=hat;rw [Env.rd_τ] at hT;exact hT)) (λb' hb'=>hnω b' hb') (by rw [ωold g (λh'=>h'.elim hnh λh'=>by have:=hat.lt;omega)];exact hω)
   . rcases getb h b hb with ⟨k,hp,hσ,hk,hβ⟩ | ⟨hp,hk,hβ⟩ <;> rcases getb h' b' hb' with ⟨k',hp',hσ',hk',hβ'⟩ | ⟨hp',hk',hβ'⟩
     . rw [hβ] at hz;rw [hβ'] at hz'
       exact hout.inj k k' b b' g g' z z' hk hk' hz hz' (λe=>hne (by rw [<- hσ,<- hσ',e]))
     . rw [hβ] at hz;rw [hβ'] at hz';have hlt:=hs.lt hk' hz';rcases ownc k b g z hk hz with h1 | ⟨b0,h1,h2⟩
       . omega
       . exact hs.inj (σ k) h' b0 b' g g' z z' (hi k b0 h1).2.1 hk' h2 hz' (by rw [hσ];exact hne)
     . rw [hβ] at hz;rw [hβ'] at hz';have hlt:=hs.lt hk hz;rcases ownc k' b' g' z' hk' hz' with h1 | ⟨b0,h1,h2⟩
       . omega
       . exact hs.inj h (σ k') b b0 g g' z z' hk (hi k' b0 h1).2.1 hz h2 (by rw [hσ'];exact hne)
     . rw [hβ] at hz;rw [hβ'] at hz';exact hs.inj h h' b b' g g' z z' hk hk' hz hz' hne
   . rcases getb h b hb with ⟨k,hp,hσ,hk,hβ⟩ | ⟨hp,hk,hβ⟩
     . rw [hβ] at hz;rcases ownc k b g z hk hz with h1 | ⟨b0,h1,h2⟩
       . exact .inl (ZK hs.fr.size h1)
       . rcases hs.own (σ k) b0 g z (hi k b0 h1).2.1 h2 with h3 | h3
         . exact .inl h3
         . exact .inr ⟨h3.1,(hout.boxes k b hk).2,by rw [<- hσ];exact h3.2.2⟩
     . rw [hβ] at hz;exact hs.own h b g z hk hz
   . rcases hs2 t x hx with rfl | hx
     . exact .dead
     . exact (hs.slots t x hx).keepOn kk (hg3 t x hx)
   . rw [hs1 h]
     cases hp:π h with
     | none=>rw [E'o h hp] at hx;exact hs.dom h x hx
     | some k=>exact (hπ2 h k hp).2
   . cases hp:π h with
     | none=>rw [E'o h hp];exact hs.stay h hh hh2 hm
     | some k =>
      obtain ⟨e1,e2⟩:=hπ2 h k hp;rw [<- e1,E'k k e2]
      cases hb:A1 k bs with
      | some b =>
       have hm':mv.contains k=false:=by
        cases hm':mv.contains k with
        | false=>rfl
        | true =>
         rcases hg2 _ (hg1 k (by rw [hb];rfl) hm') with h1 | h1
         . omega
         . rw [e1,hm] at h1;cases h1
       rw [stays k b hb hm',e1];exact hs.stay h hh hh2 hm
      | none =>
       obtain ⟨b',hb'⟩:=ZF.1 e2;have:=((ho k b' hb').2 hb).2;omega
   . rcases getb h b hb with ⟨k,hp,hσ,hk,hβ'⟩ | ⟨hp,hk,hβ'⟩
     . rw [(hout.boxes k b hk).2] at hf;cases hf
     . rw [hβ'] at hβ;exact hs.fzn h b g z hk hβ hf ((hAold g (hs.lt hk hβ)).1 hA)
   . obtain ⟨h,bx,h1,h2,_⟩:=handOld b hh;obtain ⟨o1,o2⟩:=hs.held b o hb;rcases h2 with ⟨z,h2⟩ | h2
     . obtain ⟨_,_,_,ha,_⟩:=(hs.boxes h bx h1).facts h2;rw [ha] at o2;obtain rfl:=QA o2
       cases o1
     . obtain ⟨_,_,o',h3,h4⟩:=hs.wf.om b h h2;rw [h3] at o2;obtain rfl:=QA o2;rw [h4] at o1;cases o1
   . rcases ωinv g h hg with ⟨k,e1,e2,e3,hp⟩ | ⟨e1,e2,e3⟩
     . rcases hp with hp | hp
       . obtain ⟨h2,bx,h3,h4,_⟩:=handOld g hp;rcases h4 with ⟨z,h4⟩ | h4
         . rcases hs.own h2 bx g z h3 h4 with h' | h'
           . exact .inl h'
           . exact .inr h'.1
         . exact hs.tow g h2 h4
       . exact .inl (ZK hs.fr.size hp)
     . exact hs.tow g h e1
end Go.Ev

/- DERIVED. A state that names some handles nowhere. -/
namespace Go.Ev
open Go
end Go.Ev

/- DERIVED. One operation. -/
namespace Go.Ev
open Go
variable {P:Program} {T:Ty}
structure CallD where
 args:List V
 r:S
 nt:Nat
structure CallB where
 ims:List Bool
 args:List V
 r:S
 bs:List (Nat × Box)
 bs':List (Nat × Box)
 σ:Nat->Nat
 π:Nat->Option Nat
 hd:Nat->Nat->Bool
 s':St
structure CallB.OK (P:Program) (f:FuncId) (s:St) (c:CallB) (bor:List Nat):Prop where
 den:Jk P f s.nt [] c.bs c.args c.r c.s'.nt c.bs'
 hhd:∀ k h,c.hd k h=true->c.σ k=h/\(A1 k c.bs).isSome=true
 π1:∀ k,(A1 k c.bs').isSome=true->c.π (c.σ k)=some k
 π2:∀ h k,c.π h=some k->c.σ k=h/\(A1 k c.bs').isSome=true
 hi:∀ k b,A1 k c.bs=some b->1000<=k/\A1 (c.σ k) s.boxes=some b/\b.fz=false/\b.hf=true/\c.σ k ∉ bor/\(A1 k c.bs').isSome=true
 ho:∀ k b,A1 k c.bs'=some b->b.hf=true/\(A1 k c.bs=none->A1 (c.σ k) s.boxes=none/\c.σ k<1000)
 hcl:bor=[] \/ (c.r.allI IClosed /\ ∀ k b,A1 k c.bs'=some b->∀ (i:Nat) (q:List C) (j:Nat) (x:C),b.rows[i]? = some q->q[j]? = some x->x.allI λy=>IClosed y \/ (b.tr=true/\V9 y))
 hr:c.r.okH (λk=>(A1 k c.bs').isSome)=true
 hfz:∀ h ∈ bor,∃ b,A1 h s.boxes=some b/\b.fz=false
 s1:∀ h,A1 h c.s'.boxes=match c.π h with | some k=>A1 k c.bs' | none=>A1 h s.boxes
 s2:∀ t x,A1 t c.s'.slots=some x->x = .dead \/ A1 t s.slots=some x
structure Fn where
 own:Option St:=none
 callB:Option CallB:=none
 call:Option CallD:=none
 val:Option S:=none
 rows:Option (List (List C)):=none
 fz:List (Nat × V):=[]
 cells:Option (List C):=none
def St.box (s:St) (h:Nat):Option Box:=A1 h s.boxes
def Hm (s:St) (ps:Array (Nat × Operand)):List (Nat × S):=ps.toList.map λp=>(p.1,s.val p.2)
def Ct (T:Ty) (hint:Option (List C)) (o:Oper) (s:St):Option Res :=
 match o.op with
 | .move x=>some (.pure (s.val x))
 | .assign x=>some (.pure (s.val x))
 | .pick c a b=>B1j (s.val c) (s.val a) (s.val b)
 | .alloc e=>match T e,o.dst with
  | some ti,some k=>some ⟨.v (.one (.hp k 0 0)),.new ⟨e,(Bu ti).length,true,false,[Bu ti],false⟩,[]⟩
  | _,_=>none
 | .box e x=>match s.val x,o.dst with
  | .v v,some k=>some ⟨.v (.one (.hp k 0 0)),.new ⟨e,v.cells.length,v.cells.all C4,false,[v.cells],false⟩,[]⟩
  | _,_=>none
 | .build t ps=>N9 T t (Hm s ps)
 | .buildSlice t len ps=>match o.dst with
  | some k=>A0d T k t len (Hm s ps)
  | none=>none
 | .load t a=>Fk T hint t (s.val a) s.box
 | .store t a x=>Ig T hint t (s.val a) (s.val x) s.box
 | .nilCheck x=>Au3 (s.val x)
 | .binOp op t x y _=>Gp T op t (s.val x) (s.val y)
 | .unOp op _ x=>Au2 op (s.val x)
 | .convert src dst x=>Y8 T src dst (s.val x)
 | .makeFunc (.func f) first caps=>match first.toList,Fl (caps.toList.map s.val) s.box with
  | [],some (cs,ks)=>some ⟨.v (.one (.i (.fn f cs))),.freeze ks,[]⟩
  | _,_=>none
 | .makeSlice t (.tmp l) (.tmp c)=>match o.dst with
  | some k=>bif Nat.beq l c then Y7 T k t (s.val (.tmp l)) else none
  | none=>none
 | .slice t x lo hi none=>Kd T t (s.val x) (lo.map s.val) (hi.map s.val) s.box
 | .fieldAddr t x f=>N8 T t (s.val x) f
 | .indexAddr t x i=>Ke T t (s.val x) (s.val i) s.box
 | .extract x k=>Pv (s.val x) k
 | .call c=>match c.callee with
  | .builtin .len=>match c.args.toList,c.argTypes.toList with
   | [x],[t]=>Kq T t (s.val x)
   | _,_=>none
  | .builtin .max=>match c.args.toList with
   | [x,y]=>Pu true (s.val x) (s.val y)
   | _=>none
  | .builtin .min=>match c.args.toList with
   | [x,y]=>Pu false (s.val x) (s.val y)
   | _=>none
  | .builtin .append=>match c.args.toList,c.argTypes.toList,o.dst with
   | [x,y],[t,t'],some k=>bif Nat.beq t t' then A0f T k t (s.val x) (s.val y) s.box else none
   | _,_,_=>none
  | _=>none
 | _=>none
def Yk.rows (rs:List (List C)):Yk->Option (Yk × Prop)
 | .new b=>some (.new { b with rows:=rs },b.rows=rs)
 | .set h b=>some (.set h { b with rows:=rs },b.rows=rs)
 | .move h b=>some (.move h { b with rows:=rs },b.rows=rs)
 | .none=>Option.none
 | .freeze _=>Option.none
def St.eff (K:Am) (s:St) (dst:Option Tmp):Yk->Option St
 | .none=>some s
 | .new b=>match dst with
  | some k=>bif (A1 k s.boxes).isNone&&Nat.blt k 1000 then some { s with boxes:=Ak k b s.boxes } else none
  | none=>none
 | .set h b=>some { s with boxes:=Ak h b s.boxes }
 | .move h b=>bif (Nat.blt h 1000 || K.mv.contains h) then (match dst with
  | some _=>some (s.app h b)
  | none=>none) else none
 | .freeze ks=>some { s with boxes:=B1 s.boxes ks }
def St.putD (K:Am) (s:St) (dst:Option Tmp) (x:S):Option St :=
 match dst with
 | none=>some s
 | some t=>bif Nat.blt t K.N then some { s with slots:=Ak t x s.slots } else none
def St.lendable (s:St) (h:Nat):Bool:=match s.box h with
 | some b=>!b.fz
 | none=>false
def Kg (x:S):Option (FuncId × List I) :=
 match x with
 | .v (.one (.i (.lit (.func (.func f) a b))))=>match a.toList,b.toList with
  | [],[]=>some (f,[])
  | _,_=>none
 | .v (.one (.i (.fn f caps)))=>some (f,caps)
 | _=>none
def Ch (P:Program) (K:Am) (o:Oper) (s s':St):Prop :=
 ∀ (Γ:Ctx) (w:World) (E:Env) (a:Act) (ro:Option Nat) (n:Nat) (X:Act->Prop),Γ.K=K->(∀ b v,X b->X (b.put o.dst v))->X a->A8 Γ w E s a.tmps->∀ (next:Act->World->Prop) (Q:Exit->Act->World->Prop),
  (∀ a' w',X a'->(∃ E',A8 Γ w' E' s' a'.tmps)->next a' w')->o.wpIn (FR ro) n P a w next Q
def Aes (P:Program) (K:Am) (o:Oper) (cb:CallB) (s:St):Option (St × List Prop) :=
 match o.op with
 | .call c=>match c.callee with
  | .value f=>match Kg (s.val f) with
   | some (fid,caps)=>match Hr cb.hd s.box cb.ims (c.args.toList.map s.val++caps.map λx=>.v (.one (.i x))) cb.args with
    | some (obs,bor)=>(cb.s'.putD K o.dst (cb.r.ren cb.σ)).map λs'=>(s',cb.OK P fid s bor::obs)
    | none=>none
   | none=>none
  | _=>none
 | _=>none
def Cd (P:Program) (T:Ty) (K:Am) (o:Oper) (D:Fn) (s:St):Option (St × List Prop) :=
 match D.own with
 | some s'=>some (s',[Ch P K o s s'])
 | none=>match D.callB with
 | some cb=>Aes P K o cb s
 | none=>match D.call with
 | some cd=>match o.op with
  | .call c=>match c.callee with
   | .value f=>match Kg (s.val f) with
    | some (fid,caps)=>match Hq s.box (c.args.toList.map s.val++caps.map λx=>.v (.one (.i x))) cd.args with
     | some (obs,bor)=>bif cd.r.noH&&bor.all s.lendable then
       (({ s with nt:=cd.nt }:St).putD K o.dst (D.val.getD cd.r)).map λs'=>(s',Jk P fid s.nt [] [] cd.args cd.r cd.nt []::(bor=[] \/ Ki cd.r)::(cd.r=D.val.getD cd.r)::obs) else none
     | none=>none
    | none=>none
   | _=>none
  | _=>none
 | none=>match Ct T D.cells o s with
  | none=>none
  | some r=>match (match D.rows with | none=>some (r.eff,([]:List Prop)) | some rs=>(r.eff.rows rs).map λp=>(p.1,[p.2])) with
   | none=>none
   | some (e,ob2)=>match s.eff K o.dst e with
    | none=>none
    | some s1=>(s1.putD K o.dst (D.val.getD r.val)).map λs'=>(s',r.ob++ob2++(match D.val with | none=>[] | some x=>[r.val=x]))
theorem W5 {ro:Option Nat} {ρ:Operand->Value} {o:Oper} {w w':World} {nx:Next} (h:(execOp ρ o).run P w = .ok nx w') (hn:∀ d,nx ≠ .defer d):(o.semAt ro ρ).run P w = .ok nx w':=by
 rw [Oper.semAt_eq]
 . exact h
 intro c hc;unfold execOp at h;rw [hc] at h;simp only [Sem.run_bind] at h
 cases hr:(resolve ρ c o.type).run P w with
 | ok d w1 =>
  rw [hr] at h;simp at h;exact hn _ h.1.symm
 | halt x w1 =>
  rw [hr] at h;simp at h
theorem A8.val_sound {Γ:Ctx} {w:World} {E:Env} {s:St} {a:Act} (hs:A8 Γ w E s a.tmps) (x:Operand):Rs w E (a.eval x) (s.val x):=by
 cases x with
 | tmp t =>
  simp only [Act.eval,St.val]
  cases h:A1 t s.slots with
  | none=>exact .dead
  | some x=>exact hs.slots t x h
 | const v =>
  simp only [Act.eval]
  cases v <;> first | exact .dead | exact .v (.one (.i (.lit _ rfl)))
 | global g=>exact .dead
 | func f=>exact .v (.one (.i (.lit _ rfl)))
theorem Gi {Γ:Ctx} {K:Am} (hK:Γ.K=K) {w:World} {E:Env} {s s':St} {a:Act} (hs:A8 Γ w E s a.tmps) {dst:Option Tmp} {v:Value} {x:S} (hx:Rs w E v x) (h:s.putD K dst x=some s') :
  A8 Γ w E s' (a.put dst v).tmps/\(a.put dst v).defers=a.defers:=by
 unfold St.putD at h
 cases dst with
 | none=>obtain rfl:=QA h;exact ⟨hs,rfl⟩
 | some t =>
  simp only at h
  cases hb:Nat.blt t K.N with
  | false=>rw [hb] at h;cases h
  | true =>
   rw [hb] at h;obtain rfl:=QA h
   have:t<Γ.K.N:=by rw [hK];simpa [ZP] using hb
   exact ⟨hs.put this hx,rfl⟩
theorem Ch.of {K:Am} {o:Oper} {s s1 s':St} {x:S} (hput:s1.putD K o.dst x=some s')
  (h:∀ (Γ:Ctx) (w:World) (E:Env) (a:Act),Γ.K=K->A8 Γ w E s a.tmps->∃ nx v w' E',(execOp a.eval o).run P w = .ok nx w'/\((nx = .value v) \/ (nx = .skip/\v=undef))/\Rs w' E' v x/\A8 Γ w' E' s1 a.tmps) :
  Ch P K o s s':=by
 intro Γ w E a ro n X hK hX hd hs next Q hn;obtain ⟨nx,v,w',E',hrun,hnx,hx,hs1⟩:=h Γ w E a hK hs;obtain ⟨hs2,_⟩:=Gi hK hs1 hx hput;unfold Oper.wpIn;refine ⟨λ_ _=>trivial,?_⟩
 rw [show (FR ro).round=ro from rfl,W5 hrun (by rcases hnx with rfl | ⟨rfl,rfl⟩ <;> intro d e <;> cases e)]
 rcases hnx with rfl | ⟨rfl,rfl⟩
 . exact hn _ _ (hX _ _ hd) ⟨E',hs2⟩
 . exact hn _ _ (hX _ _ hd) ⟨E',hs2⟩
theorem Ch.quiet {K:Am} {o:Oper} {s s':St} {x:S} (hput:s.putD K o.dst x=some s')
  (h:∀ (Γ:Ctx) (w:World) (E:Env) (a:Act),Γ.K=K->A8 Γ w E s a.tmps->∃ v,(execOp a.eval o).run P w = .ok (.value v) w/\Rs w E v x) :
  Ch P K o s s' :=
 Ch.of hput λΓ w E a hK hs=>by
  obtain ⟨v,hr,hx⟩:=h Γ w E a hK hs;exact ⟨_,v,w,E,hr,.inl rfl,hx,hs⟩
theorem B1x (ro:Option Nat) (n:Nat) {f:FuncId} {args:Array Value} {w:World} {R:Ending->World->Prop} (h:Calls P f args w R):CallsIn (FR ro) n P f args w R:=(callsIn_wide (n:=n)).2 h
end Go.Ev

/- DERIVED. Each operation is what its abstract one is. -/
namespace Go.Ev
open Go
variable {P:Program} {T:Ty}
theorem Rs.tup_inv {w:World} {E:Env} {v:Value} {xs:List V} (h:Rs w E v (.tup xs)):∃ vs,v = .tuple vs.toArray/\Ln w E vs xs:=by
 cases h with | tup h=>exact ⟨_,rfl,h⟩
theorem B8f {e e':Yk} {rs:List (List C)} {p:Prop} (h:e.rows rs=some (e',p)) (hp:p):e'=e:=by
 cases e with
 | none=>cases h
 | freeze=>cases h
 | new b=>simp only [Yk.rows,QD,QI] at h;obtain ⟨rfl,rfl⟩:=h;rw [<- hp]
 | set h' b=>simp only [Yk.rows,QD,QI] at h;obtain ⟨rfl,rfl⟩:=h;rw [<- hp]
 | move h' b=>simp only [Yk.rows,QD,QI] at h;obtain ⟨rfl,rfl⟩:=h;rw [<- hp]
theorem A13 {Γ:Ctx} {w:World} {E:Env} {s:St} {a:Act} (hs:A8 Γ w E s a.tmps) (ps:Array (Nat × Operand)) :
  ((ps.map λ(i,x)=>(i,a.eval x)).toList.length=(Hm s ps).length) /\
  ∀ (j:Nat) p q,(ps.map λ(i,x)=>(i,a.eval x)).toList[j]? = some p->(Hm s ps)[j]? = some q->p.1=q.1/\Rs w E p.2 q.2:=by
 refine ⟨by simp [Hm],λj p q hp hq=>?_⟩
 simp only [Hm,QK] at hq;obtain ⟨z,hz,rfl⟩:=QB.1 hq;simp only [Array.toList_map,QK,hz,QQ,QD] at hp;subst hp;exact ⟨rfl,hs.val_sound z.2⟩
theorem Am5 {α:Type} {x:Option α} (h:x.isNone=true):x = .none:=by cases x <;> simp_all
def Als (P:Program) (K:Am) (o:Oper) (s s1:St) (x:S):Prop :=
 ∀ (Γ:Ctx) (w:World) (E:Env) (a:Act),Γ.K=K->A8 Γ w E s a.tmps->∃ nx v w' E',(execOp a.eval o).run P w = .ok nx w'/\((nx = .value v) \/ (nx = .skip/\v=undef))/\Rs w' E' v x/\A8 Γ w' E' s1 a.tmps
theorem Als.quiet {K:Am} {o:Oper} {s:St} {x:S} (h:∀ (Γ:Ctx) (w:World) (E:Env) (a:Act),A8 Γ w E s a.tmps->∃ v,(execOp a.eval o).run P w = .ok (.value v) w/\Rs w E v x):Als P K o s s x :=
 λΓ w E a _ hs=>by
  obtain ⟨v,hr,hx⟩:=h Γ w E a hs;exact ⟨_,v,w,E,hr,.inl rfl,hx,hs⟩
theorem Mv {K:Am} {s s1:St} {k:Tmp} {b:Box} (h:s.eff K (some k) (.new b)=some s1):A1 k s.boxes = .none/\k<1000/\s1={ s with boxes:=Ak k b s.boxes }:=by
 simp only [St.eff] at h
 cases hc:((A1 k s.boxes).isNone&&Nat.blt k 1000) with
 | false=>rw [hc] at h;cases h
 | true =>
  rw [hc] at h;simp only [QE] at hc
  exact ⟨Am5 hc.1,by simpa [ZP] using hc.2,(QA h).symm⟩
theorem Au5 (hT:Aw P T) {K:Am} {o:Oper} {s s1:St} {r:Res} {hint:Option (List C)} (h:Ct T hint o s=some r) (ho:∀ p ∈ r.ob,p) (he:s.eff K o.dst r.eff=some s1):Als P K o s s1 r.val:=by
 obtain ⟨dst,op,type,pos,after,guard⟩:=o;unfold Ct at h;simp only at h he;split at h
 . -- move
   obtain rfl:=QA h;obtain rfl:=QA he;exact .quiet λΓ w E a hs=>⟨_,rfl,hs.val_sound _⟩
 . -- assign
   obtain rfl:=QA h;obtain rfl:=QA he;exact .quiet λΓ w E a hs=>⟨_,rfl,hs.val_sound _⟩
 . -- pick
   rename_i c x y;unfold B1j at h;split at h
   . rename_i hc;obtain rfl:=QA h;obtain rfl:=QA he;refine .quiet λΓ w E a hs=>⟨_,?_,hs.val_sound x⟩;have hv:=hs.val_sound c;rw [hc] at hv;simp [execOp,hv.lit_inv,asBool]
   . rename_i hc;obtain rfl:=QA h;obtain rfl:=QA he;refine .quiet λΓ w E a hs=>⟨_,?_,hs.val_sound y⟩;have hv:=hs.val_sound c;rw [hc] at hv;simp [execOp,hv.lit_inv,asBool]
   . cases h
 . -- alloc
   split at h
   . rename_i ti k hti;obtain rfl:=QA h;obtain ⟨hk,hk1,rfl⟩:=Mv he;intro Γ w E a _ hs;obtain ⟨u,w',E',hr,hx,hs'⟩:=An3 hT hs hti hk hk1
     exact ⟨_,u,w',E',by simp [execOp,hr],.inl rfl,hx,hs'⟩
   . cases h
 . -- box
   rename_i e x;split at h
   . rename_i y k hy;obtain rfl:=QA h;obtain ⟨hk,hk1,rfl⟩:=Mv he;intro Γ w E a _ hs;have hv:=hs.val_sound x;rw [hy] at hv;obtain ⟨u,w',E',hr,hx,hs'⟩:=B1z (P:=P) hs (t:=e) hv.v_inv hk hk1
     exact ⟨_,u,w',E',by simp [execOp,hr],.inl rfl,hx,hs'⟩
   . cases h
 . -- build
   rename_i t ps
   have heff:r.eff = .none:=by
    unfold N9 at h;split at h
    . split at h
      . rename_i fs _
        cases hc:fs.toList.all (λf=>(T f.type).isSome) with
        | false=>rw [hc] at h;cases h
        | true =>
         rw [hc] at h;simp only [cond] at h;split at h
         . obtain rfl:=QA h;rfl
         . cases h
      . cases h
    . cases h
   rw [heff] at he;obtain rfl:=QA he;refine .quiet λΓ w E a hs=>?_;obtain ⟨h1,h2⟩:=A13 hs ps;obtain ⟨u,hr,hx,_⟩:=An2 (P:=P) hT (w:=w) (E:=E) h1 h2 h;rw [JT] at hr
   exact ⟨u,by simp only [execOp,Sem.run_bind,hr,Result.andThen_ok,Sem.run_pure],hx⟩
 . -- buildSlice
   rename_i t len ps;split at h
   . rename_i k
     have hb:∃ b,r.eff = .new b:=by
      unfold A0d at h;split at h
      . split at h
        . rename_i e ei rows _ _
          cases hc:(Nat.beq (Hm s ps).length len&&Nat.ble 1 ei.size&&rows.all (λr=>Nat.beq r.length ei.size)&&Nat.ble (len*ei.size) 16777216) with
          | false=>rw [hc] at h;cases h
          | true=>rw [hc] at h;obtain rfl:=QA h;exact ⟨_,rfl⟩
        . cases h
      . cases h
     obtain ⟨b,hb⟩:=hb;rw [hb] at he;obtain ⟨hk,hk1,rfl⟩:=Mv he;intro Γ w E a _ hs;obtain ⟨h1,h2⟩:=A13 hs ps;obtain ⟨b',u,w',E',hb',hr,hx,hs'⟩:=Avr hT hs hk hk1 h1 h2 h;rw [hb] at hb';obtain rfl:=Yk.new.inj hb';rw [JT] at hr
     exact ⟨_,u,w',E',by simp only [execOp,Sem.run_bind,hr,Result.andThen_ok,Sem.run_pure],.inl rfl,hx,hs'⟩
   . cases h
 . -- load
   rename_i t x;intro Γ w E a _ hs;obtain ⟨u,hr,hx,he0⟩:=A5z hT hs (hs.val_sound x) h ho;rw [he0] at he;obtain rfl:=QA he
   exact ⟨_,u,w,E,by simp only [execOp,Sem.run_bind,hr,Result.andThen_ok,Sem.run_pure],.inl rfl,hx,hs⟩
 . -- store
   rename_i t x y;intro Γ w E a _ hs;obtain ⟨k',b',w',E',hb',hd,hr,hs'⟩:=Aly hT hs (hs.val_sound x) (hs.val_sound y) h ho;rw [hb'] at he;obtain rfl:=QA he
   refine ⟨.skip,undef,w',E',by simp only [execOp,Sem.run_bind,hr,Result.andThen_ok,Sem.run_pure],.inr ⟨rfl,rfl⟩,by rw [hd];exact .dead,hs'⟩
 . -- nilCheck
   rename_i x;unfold Au3 at h;split at h
   . rename_i hh row col hx;obtain rfl:=QA h;obtain rfl:=QA he;refine .quiet λΓ w E a hs=>?_;have hv:=hs.val_sound x;rw [hx] at hv;obtain ⟨g,sz,cap,hβ,he'⟩:=hv.hp_inv
     exact ⟨a.eval x,by simp only [execOp,he'];rfl,hv⟩
   . rename_i tag cs hx;obtain rfl:=QA h;obtain rfl:=QA he;refine .quiet λΓ w E a hs=>?_;have hv:=hs.val_sound x;rw [hx] at hv;obtain ⟨g,o,he',_⟩:=(hv.i_inv).ref_drop 0
     exact ⟨a.eval x,by simp only [execOp,he'];rfl,hv⟩
   . cases h
 . -- binOp
   rename_i bop t x y yt;intro Γ w E a _ hs;obtain ⟨u,hr,hx,he0⟩:=B22 (ox:=x) (oy:=y) hT (hs.val_sound x) (hs.val_sound y) h ho;rw [he0] at he;obtain rfl:=QA he
   exact ⟨_,u,w,E,by simp only [execOp];rw [Sem.run_bind,hr];rfl,.inl rfl,hx,hs⟩
 . -- unOp
   rename_i uop t x;intro Γ w E a _ hs;obtain ⟨u,hr,hx,he0⟩:=B2k (P:=P) (hs.val_sound x) h;rw [he0] at he;obtain rfl:=QA he
   exact ⟨_,u,w,E,by simp only [execOp,Sem.run_bind,hr,Result.andThen_ok,Sem.run_pure],.inl rfl,hx,hs⟩
 . -- convert
   rename_i src dst' x;intro Γ w E a _ hs;obtain ⟨u,hr,hx,he0⟩:=Au6 (P:=P) hT (hs.val_sound x) h;rw [he0] at he;obtain rfl:=QA he
   exact ⟨_,u,w,E,by simp only [execOp,Sem.run_bind,hr,Result.andThen_ok,Sem.run_pure],.inl rfl,hx,hs⟩
 . -- makeFunc
   rename_i f first caps;split at h
   . rename_i cs ks hf hcs;obtain rfl:=QA h;obtain rfl:=QA he;intro Γ w E a _ hs
     obtain ⟨E',hs',hl,hr,_⟩:=Uz (caps.toList.map s.val) (caps.toList.map a.eval) cs ks E s a.tmps hs (by simp) (λj v x hv hx=>by
      rw [QK] at hv hx;obtain ⟨z,hz,rfl⟩:=QB.1 hx;rw [hz] at hv;obtain rfl:=QA hv
      exact hs.val_sound z) hcs
     have hfirst:first = #[]:=by cases first;simp at hf;rw [hf]
     subst hfirst;refine ⟨_,.func (.func f) #[] (caps.toList.map a.eval).toArray,w,E',?_,.inl rfl,.v (.one (.i (.fn f _ cs hl hr))),hs'⟩;simp [execOp,Instr.makeFunc];apply JU;simp
   . cases h
 . -- makeSlice
   rename_i t l c;split at h
   . rename_i k
     cases hc:Nat.beq l c with
     | false=>rw [hc] at h;cases h
     | true =>
      rw [hc] at h;simp only [cond] at h;have:=QC hc;subst this
      have hb:∃ b,r.eff = .new b:=by
       unfold Y7 at h;split at h
       . split at h
         . rename_i ei _
           cases hc:Nat.ble 1 ei.size with
           | false=>rw [hc] at h;cases h
           | true=>rw [hc] at h;obtain rfl:=QA h;exact ⟨_,rfl⟩
         . cases h
       . cases h
      obtain ⟨b,hb⟩:=hb;rw [hb] at he;obtain ⟨hk,hk1,rfl⟩:=Mv he;intro Γ w E a _ hs;obtain ⟨b',u,w',E',hb',hr,hx,hs'⟩:=Aqz hT hs hk hk1 (hs.val_sound (.tmp l)) h ho;rw [hb] at hb';obtain rfl:=Yk.new.inj hb'
      exact ⟨_,u,w',E',by simp only [execOp,Sem.run_bind,hr,Result.andThen_ok,Sem.run_pure],.inl rfl,hx,hs'⟩
   . cases h
 . -- slice
   rename_i t x lo hi;intro Γ w E a _ hs
   obtain ⟨u,hr,hx,he0⟩:=Am0 hT hs (vlo:=lo.map a.eval) (vhi:=hi.map a.eval) (hs.val_sound x)
    (λy hy=>by obtain ⟨z,hz,rfl⟩:=QB.1 hy;exact ⟨_,by rw [hz];rfl,hs.val_sound z⟩) (λhn=>by cases lo with | none=>rfl | some=>cases hn)
    (λy hy=>by obtain ⟨z,hz,rfl⟩:=QB.1 hy;exact ⟨_,by rw [hz];rfl,hs.val_sound z⟩) (λhn=>by cases hi with | none=>rfl | some=>cases hn) h ho
   rw [he0] at he;obtain rfl:=QA he
   exact ⟨_,u,w,E,by simp only [execOp,Sem.run_bind,Option.map_none,hr,Result.andThen_ok,Sem.run_pure],.inl rfl,hx,hs⟩
 . -- fieldAddr
   rename_i t x f;intro Γ w E a _ hs;obtain ⟨u,hr,hx,he0⟩:=Am8 (P:=P) hT (hs.val_sound x) h;rw [he0] at he;obtain rfl:=QA he
   exact ⟨_,u,w,E,by simp only [execOp,Sem.run_bind,hr,Result.andThen_ok,Sem.run_pure],.inl rfl,hx,hs⟩
 . -- indexAddr
   rename_i t x ix;intro Γ w E a _ hs;obtain ⟨u,hr,hx,he0⟩:=Am6 hT hs (hs.val_sound x) (hs.val_sound ix) h ho;rw [he0] at he;obtain rfl:=QA he
   exact ⟨_,u,w,E,by simp only [execOp,Sem.run_bind,hr,Result.andThen_ok,Sem.run_pure],.inl rfl,hx,hs⟩
 . -- extract
   rename_i x k;unfold Pv at h;split at h
   . rename_i xs hx;split at h
     . rename_i y hy;obtain rfl:=QA h;obtain rfl:=QA he;refine .quiet λΓ w E a hs=>?_;have hv:=hs.val_sound x;rw [hx] at hv;obtain ⟨vs,hvs,hr⟩:=hv.tup_inv
       obtain ⟨v,hv'⟩:∃ v,vs[k]? = some v:=by
        have:k<vs.length:=by rw [hr.1];exact (QP.1 hy).1
        exact ⟨_,QN this⟩
       refine ⟨v,?_,.v (hr.2 k v y hv' hy)⟩;simp [execOp,hvs,Instr.extract,hv']
     . cases h
   . cases h
 . -- calls of builtins
   rename_i c;obtain ⟨callee,args,argTypes⟩:=c;simp only at h
   have l1:∀ {α:Type} {arr:Array α} {x:α},arr.toList=[x]->arr = #[x]:=λh=>JU (by rw [h])
   have l2:∀ {α:Type} {arr:Array α} {x y:α},arr.toList=[x,y]->arr = #[x,y]:=λh=>JU (by rw [h])
   split at h
   . split at h
     . rename_i x t hx ht;obtain rfl:=l1 hx;obtain rfl:=l1 ht;intro Γ w E a _ hs;obtain ⟨u,hr,hxr,he0⟩:=Avu (P:=P) (ty:=type) hT (hs.val_sound x) h;rw [he0] at he;obtain rfl:=QA he
       exact ⟨_,u,w,E,by simp [execOp,resolve,invoke,builtin,hr],.inl rfl,hxr,hs⟩
     . cases h
   . split at h
     . rename_i x y hx;obtain rfl:=l2 hx;intro Γ w E a _ hs;obtain ⟨u,hr,hxr,he0⟩:=Avm (P:=P) (ts:=argTypes) (ty:=type) (hs.val_sound x) (hs.val_sound y) h;rw [he0] at he;obtain rfl:=QA he
       exact ⟨_,u,w,E,by simp [execOp,resolve,invoke,builtin,hr],.inl rfl,hxr,hs⟩
     . cases h
   . split at h
     . rename_i x y hx;obtain rfl:=l2 hx;intro Γ w E a _ hs;obtain ⟨u,hr,hxr,he0⟩:=Avk (P:=P) (ts:=argTypes) (ty:=type) (hs.val_sound x) (hs.val_sound y) h;rw [he0] at he;obtain rfl:=QA he
       exact ⟨_,u,w,E,by simp [execOp,resolve,invoke,builtin,hr],.inl rfl,hxr,hs⟩
     . cases h
   . split at h
     . rename_i x y t t' k hx ht
       cases hc:Nat.beq t t' with
       | false=>rw [hc] at h;cases h
       | true =>
        rw [hc] at h;simp only [cond] at h;have:=QC hc;subst this;obtain rfl:=l2 hx;obtain rfl:=l2 ht;intro Γ w E a hK hs
        have keyfree:(∃ b,r.eff = .new b)->A1 k s.boxes = .none/\k<1000:=by
         rintro ⟨b,hn⟩
         rw [hn] at he;obtain ⟨h1,h2,_⟩:=Mv he;exact ⟨h1,h2⟩
        have moved:∀ h' b,r.eff = .move h' b->(h'<1000 \/ Γ.K.mv.contains h'=true)/\s1=s.app h' b:=by
         intro h' b hm;rw [hm] at he;simp only [St.eff] at he
         cases hc:(Nat.blt h' 1000 || K.mv.contains h') with
         | false=>rw [hc] at he;cases he
         | true =>
          rw [hc] at he;simp only [cond] at he;simp only [XN] at hc
          exact ⟨hc.imp (λh=>by simpa [ZP] using h) (λh=>by rw [hK];exact h),(QA he).symm⟩
        obtain ⟨h',b,u,w',E',hcase,hr,hxr,hm,hn⟩:=B24 (P:=P) (ty:=type) hT hs keyfree (hs.val_sound x) (hs.val_sound y) h ho (λh' b hm=>(moved h' b hm).1)
        refine ⟨_,u,w',E',by simp [execOp,resolve,invoke,builtin,hr],.inl rfl,hxr,?_⟩
        rcases hcase with hmv | ⟨hnw,rfl⟩
        . rw [(moved h' b hmv).2];exact hm hmv
        . rw [hnw] at he;obtain ⟨_,_,rfl⟩:=Mv he;exact hn hnw
     . cases h
   . cases h
 . cases h
end Go.Ev

/- DERIVED. One operation with its decision; a region in its own order. -/
namespace Go.Ev
open Go
variable {P:Program} {T:Ty}
theorem Ri.fn_inv {w:World} {E:Env} {v:Value} {f:FuncId} {caps:List I} (h:Ri w E v (.fn f caps)):∃ vs:List Value,v = .func (.func f) #[] vs.toArray/\vs.length=caps.length /\ ∀ (j:Nat) (v:Value) (c:I),vs[j]? = some v->caps[j]? = some c->Ri w E v c:=by
 cases h with | fn _ vs _ hl hrc=>exact ⟨vs,rfl,hl,hrc⟩
theorem A7w {Γ:Ctx} {w:World} {E:Env} {s:St} {a:Act} (hs:A8 Γ w E s a.tmps) {f:Operand} {fid:FuncId} {caps:List I} (h:Kg (s.val f)=some (fid,caps)) :
  ∃ vs:List Value,a.eval f = .func (.func fid) #[] vs.toArray/\vs.length=caps.length /\ ∀ (j:Nat) (v:Value) (c:I),vs[j]? = some v->caps[j]? = some c->Ri w E v c:=by
 have hv:=hs.val_sound f;unfold Kg at h;split at h
 . rename_i g x y hf;split at h
   . rename_i hx hy;simp only [QD,QI] at h;obtain ⟨rfl,rfl⟩:=h;rw [hf] at hv
     have hx':x = #[]:=JU (by rw [hx])
     have hy':y = #[]:=JU (by rw [hy])
     subst hx';subst hy'
     exact ⟨[],hv.lit_inv,rfl,λj v c hv hc=>by simp at hc⟩
   . cases h
 . rename_i g cs hf;simp only [QD,QI] at h;obtain ⟨rfl,rfl⟩:=h;rw [hf] at hv;exact hv.i_inv.fn_inv
 . cases h
theorem Alz {K:Am} {o:Oper} {cb:CallB} {s s':St} {obs:List Prop} (h:Aes P K o cb s=some (s',obs)) (ho:∀ p ∈ obs,p):Ch P K o s s':=by
 unfold Aes at h;split at h
 . rename_i c hop;split at h
   . rename_i f hf;split at h
     . rename_i fid caps hcal;split at h
       . rename_i obs' bor hargs;simp only [QB,QI] at h;obtain ⟨s2,hput,rfl,rfl⟩:=h
         have ok:cb.OK P fid s bor:=ho _ (by simp)
         intro Γ w E a ro n X hK hX hdef hs next Q hn;obtain ⟨vcaps,hev,hcl,hcr⟩:=A7w hs hcal
         have hread:=A81 (π:=cb.π) (bor:=bor) hs ok.hhd cb.ims (c.args.toList.map s.val++caps.map λx=>S.v (V.one (C.i x))) cb.args (c.args.toList.map a.eval++vcaps) obs' bor (by simp [hcl]) (λj v x hv hx=>by
           by_cases hj:j<(c.args.toList.map a.eval).length
           . rw [ZA hj] at hv
             rw [ZA (by simpa using hj)] at hx
             rw [QK] at hv hx;obtain ⟨z,hz,rfl⟩:=QB.1 hx;rw [hz] at hv;obtain rfl:=QA hv;exact hs.val_sound z
           . rw [QZ (by omega)] at hv
             rw [QZ (by simp at hj ⊢;omega)] at hx
             rw [QK] at hx;obtain ⟨z,hz,rfl⟩:=QB.1 hx
             exact .v (.one (.i (hcr _ v z hv (by simpa using hz))))) hargs (λp hp=>ho p (ZX _ hp)) (λ_ hk=>hk)
         have hcalls:=An0 hs cb.σ cb.π [] (λ_=>false) (λ_ _ h=>by cases h) (λ_ h=>by cases h) (λ_ x _=>S.okH_true (λ_=>rfl) x) (λ_ _ _=>.inr λ_ _ _ c _ _=>C.okH_true (λ_=>rfl) c) ok.den hread ok.π1 ok.π2 ok.hi ok.ho ok.hcl ok.hr ok.hfz ok.s1 ok.s2 rfl
         obtain ⟨fn,hfn,hname,hbody⟩:=ok.den.1
         have hrun:(execOp a.eval o).run P w = .ok (.enter fid (c.args.toList.map a.eval++vcaps).toArray) w:=by
          have e1:(c.args.toList.map a.eval++vcaps).toArray=c.args.map a.eval++vcaps.toArray:=by
           apply JU;simp
          rw [e1];obtain ⟨dst,op,type,pos,after,guard⟩:=o;simp only at hop;subst hop;obtain ⟨callee,args,argTypes⟩:=c;simp only at hf;subst hf
          have hn1 : ¬ fn.name = "runtime.NumGoroutine" := by simpa using hname
          have hn2:¬ fn.body=Option.none:=by intro e;rw [e] at hbody;cases hbody
          simp [execOp,resolve,Deferred.ofValue,hev,invoke,callFunc,hfn,hn1,hn2]
         unfold Oper.wpIn;refine ⟨λ_ _=>trivial,?_⟩
         rw [show (FR ro).round=ro from rfl,W5 hrun (λd e=>by cases e)]
         refine ⟨λe=>by simp [FR,Fence.wide] at e,?_⟩
         refine B1x ro _ (Calls.mono hcalls ?_)
         rintro e w' ⟨v,E',rfl,hrv,hs'⟩
         obtain ⟨hs2,hdef2⟩:=Gi hK hs' hrv hput;exact hn _ _ (hX _ _ hdef) ⟨E',hs2⟩
       . cases h
     . cases h
   . cases h
 . cases h
theorem Cv (hT:Aw P T) {K:Am} {o:Oper} {D:Fn} {s s':St} {obs:List Prop} (h:Cd P T K o D s=some (s',obs)) (ho:∀ p ∈ obs,p):Ch P K o s s':=by
 unfold Cd at h;split at h
 . simp only [QD,QI] at h;obtain ⟨rfl,rfl⟩:=h
   exact ho _ (by simp)
 split at h
 . exact Alz h ho
 split at h
 . rename_i cd hcd;split at h
   . rename_i c hop;split at h
     . rename_i f hf;split at h
       . rename_i fid caps hcal;split at h
         . rename_i obs' bor hargs
           cases hc:(cd.r.noH&&bor.all s.lendable) with
           | false=>rw [hc] at h;cases h
           | true =>
            rw [hc] at h;simp only [cond,QB,QI] at h;obtain ⟨s2,hput,rfl,rfl⟩:=h;simp only [QE] at hc
            have hd:Jk P fid s.nt [] [] cd.args cd.r cd.nt []:=ho _ (by simp)
            have hbc:bor=[] \/ Ki cd.r:=ho _ (by simp)
            have hval:cd.r=D.val.getD cd.r:=ho _ (by simp)
            intro Γ w E a ro n X hK hX hdef hs next Q hn;obtain ⟨vcaps,hev,hcl,hcr⟩:=A7w hs hcal
            have hcalls:=Au8 hs (xs:=c.args.toList.map s.val++caps.map λx=>S.v (V.one (C.i x))) (as:=cd.args) (obs:=obs') (bor:=bor) (vs:=c.args.toList.map a.eval++vcaps) hd (by simp [hcl]) (λj v x hv hx=>by
             by_cases hj:j<(c.args.toList.map a.eval).length
             . rw [ZA hj] at hv
               rw [ZA (by simpa using hj)] at hx
               rw [QK] at hv hx;obtain ⟨z,hz,rfl⟩:=QB.1 hx;rw [hz] at hv;obtain rfl:=QA hv;exact hs.val_sound z
             . rw [QZ (by omega)] at hv
               rw [QZ (by simp at hj ⊢;omega)] at hx
               rw [QK] at hx;obtain ⟨z,hz,rfl⟩:=QB.1 hx
               exact .v (.one (.i (hcr _ v z hv (by simpa using hz))))) hargs (λp hp=>ho p (ZX _ (ZX _ (ZX _ hp)))) hc.1 hbc (λk hk=>by
               have:=QM.1 hc.2 k hk;unfold St.lendable St.box at this
               cases hbx:A1 k s.boxes with
               | none=>rw [hbx] at this;cases this
               | some b=>rw [hbx] at this;exact ⟨b,rfl,by simpa using this⟩)
            obtain ⟨fn,hfn,hname,hbody⟩:=hd.1
            have hrun:(execOp a.eval o).run P w = .ok (.enter fid (c.args.toList.map a.eval++vcaps).toArray) w:=by
             have e1:(c.args.toList.map a.eval++vcaps).toArray=c.args.map a.eval++vcaps.toArray:=by
              apply JU;simp
             rw [e1];obtain ⟨dst,op,type,pos,after,guard⟩:=o;simp only at hop;subst hop;obtain ⟨callee,args,argTypes⟩:=c;simp only at hf;subst hf
             have hn1 : ¬ fn.name = "runtime.NumGoroutine" := by simpa using hname
             have hn2:¬ fn.body=Option.none:=by intro e;rw [e] at hbody;cases hbody
             simp [execOp,resolve,Deferred.ofValue,hev,invoke,callFunc,hfn,hn1,hn2]
            unfold Oper.wpIn;refine ⟨λ_ _=>trivial,?_⟩
            rw [show (FR ro).round=ro from rfl,W5 hrun (λd e=>by cases e)]
            refine ⟨λe=>by simp [FR,Fence.wide] at e,?_⟩
            refine B1x ro _ (Calls.mono hcalls ?_)
            rintro e w' ⟨v,E',rfl,hrv,hs'⟩
            rw [hval] at hrv;obtain ⟨hs2,hdef2⟩:=Gi hK hs' hrv hput;exact hn _ _ (hX _ _ hdef) ⟨E',hs2⟩
         . cases h
       . cases h
     . cases h
   . cases h
 . split at h
   . cases h
   . rename_i r hr;split at h
     . cases h
     . rename_i e ob2 hrows;split at h
       . cases h
       . rename_i s1 heff;simp only [QB,QI] at h;obtain ⟨s2,hput,rfl,rfl⟩:=h
         have he:e=r.eff:=by
          cases hD:D.rows with
          | none=>rw [hD] at hrows;simp only [QD,QI] at hrows;exact hrows.1.symm
          | some rs =>
           rw [hD] at hrows;simp only [QB,QI] at hrows;obtain ⟨q,hq,rfl,rfl⟩:=hrows
           exact B8f hq (ho _ (by simp))
         rw [he] at heff
         have hv:D.val.getD r.val=r.val:=by
          cases hD:D.val with
          | none=>rfl
          | some x=>have:r.val=x:=ho _ (by simp [hD]);rw [<- this];rfl
         rw [hv] at hput
         exact Ch.of hput (Au5 hT hr (λp hp=>ho p (by simp [hp])) heff)
def H8 (s:St) (ops:List Oper) (o:Oper):Option Bool :=
 match o.guard with
 | none=>some true
 | some (j,want)=>match ops[j]? with
  | some p=>match p.dst with
   | some t=>match A1 t s.slots with
    | some (.v (.one (.i (.lit (.bool b)))))=>some (b==want)
    | some (.tup [])=>some false
    | _=>none
   | none=>none
  | none=>none
def Yl (P:Program) (T:Ty) (K:Am) (ops:List Oper) (o:Oper) (D:Fn) (s:St):Option (St × List Prop) :=
 match H8 s ops o with
 | some true=>Cd P T K o D s
 | some false=>(s.putD K o.dst (.tup [])).map λs'=>(s',[])
 | none=>none
theorem Rs.undef {w:World} {E:Env}:Rs w E Go.undef (.tup []):=.tup (vs:=[]) ⟨rfl,λj v x _ hx=>by simp at hx⟩
theorem Fp {Γ:Ctx} {w:World} {E:Env} {s:St} {a:Act} (hs:A8 Γ w E s a.tmps) {ops:Array Oper} {o:Oper} {b:Bool} (h:H8 s ops.toList o=some b):Region.wanted o (yielded ops a.tmps)=b:=by
 unfold H8 at h;unfold Region.wanted;split at h
 . rename_i hg;rw [hg];exact QA h
 . rename_i j want hg;rw [hg];split at h
   . rename_i p hp;split at h
     . rename_i t ht;split at h
       . rename_i b' hl;obtain rfl:=QA h;have hv:=(hs.slots t _ hl).lit_inv
         have hp':ops[j]? = some p:=by simpa using hp
         have hsome:a.tmps[t]? = some (.bool b'):=by
          rw [KJ] at hv
          cases hq:a.tmps[t]? with
          | none=>rw [hq] at hv;cases hv
          | some u=>rw [hq] at hv;simpa using hv
         simp [yielded,hp',ht,hsome]
       . rename_i hl;obtain rfl:=QA h;obtain ⟨vs,hv,hrs⟩:=(hs.slots t _ hl).tup_inv;have hvs:vs=[]:=XL hrs.1;subst hvs
         have hp':ops[j]? = some p:=by simpa using hp
         rw [KJ] at hv
         cases hq:a.tmps[t]? with
         | none=>simp [yielded,hp',ht,hq]
         | some u =>
          rw [hq] at hv
          have hu:u = .tuple #[]:=by simpa using hv
          simp [yielded,hp',ht,hq,hu]
       . cases h
     . cases h
   . cases h
end Go.Ev

/- DERIVED. From a body's evaluation to the function's contract. -/
namespace Go.Ev
open Go
variable {P:Program} {T:Ty}
def Gq (bs:List (Nat × Box)) (ks:List Nat):Bool:=ks.all λh=>Nat.blt h 1000&&(A1 h bs).isSome
theorem A8.freezes {Γ:Ctx} {w:World}:∀ (ks:List Nat) {E:Env} {s:St} {tmps:Array Value},A8 Γ w E s tmps->Gq s.boxes ks=true ->
  ∃ E',A8 Γ w E' { s with boxes:=B1 s.boxes ks } tmps/\C0 w w E E'/\(∀ k,E'.β k=E.β k)/\(E'.τ=E.τ) /\
   ∀ k b,A1 k s.boxes=some b->∃ b',A1 k (B1 s.boxes ks)=some b'/\b'.rows=b.rows/\b'.sz=b.sz/\b'.hf=b.hf/\(b.fz=true->b'.fz=true)/\(k ∈ ks->b'.fz=true)/\b'.tr=b.tr
 | [],E,s,tmps,hs,_=>⟨E,hs,⟨QY _,λ_ _ _ h=>h,λ_ _ h=>h,λ_ _ _ _ _ h=>h⟩,λ_=>rfl,rfl,λk b hb=>⟨b,hb,rfl,rfl,rfl,λh=>h,(λh=>by cases h),rfl⟩⟩
 | h::r,E,s,tmps,hs,hc=>by
  simp only [Gq,XY,QE] at hc;obtain ⟨⟨hlt,hsome⟩,hrest⟩:=hc
  have hlt:h<1000:=by simpa [ZP] using hlt
  obtain ⟨b,hb⟩:=ZF.1 hsome;obtain ⟨g,cap,hβ,_⟩:=hs.boxes h b hb;have hf:=hs.freeze hb hβ hlt
  have kk:C0 w w E (E.free g):=by
   refine ⟨QY _,λtag x _ hx=>?_,λ_ _ h=>h,λ_ _ _ _ _ h=>h⟩;unfold Env.blk at hx ⊢;split
   . rename_i e;rw [QL e] at hx;exact λh'=>hx h'.1
   . rename_i e;rw [QJ e] at hx;exact hx
  have hc2:Gq (Ak h { b with fz:=true } s.boxes) r=true:=by
   simp only [Gq,QM,QE] at hrest ⊢;intro k hk;refine ⟨(hrest k hk).1,?_⟩;by_cases e:k=h
   . subst e;rw [A9];rfl
   . rw [Ac _ _ e];exact (hrest k hk).2
  obtain ⟨E2,hs2,kk2,hβ2,hτ2,hl⟩:=A8.freezes r (s:={ s with boxes:=Ak h { b with fz:=true } s.boxes }) hf hc2;refine ⟨E2,?_,⟨QY _,λtag y hy hb'=>kk2.blk tag y hy (kk.blk tag y hy hb'),λk y hy=>kk2.β k y (kk.β k y hy),λ_ _ _ _ _ h=>h⟩,λk=>hβ2 k,hτ2,λk b0 hk=>?_⟩
  . simp only [B1,hb];exact hs2
  . simp only [B1,hb];by_cases e:k=h
    . subst e;rw [hb] at hk;obtain rfl:=QA hk;obtain ⟨b',h1,h2,h3,h4,h5,_,h7⟩:=hl k { b with fz:=true } (A9 _ _ _);exact ⟨b',h1,h2,h3,h4,λ_=>h5 rfl,λ_=>h5 rfl,h7⟩
    . obtain ⟨b',h1,h2,h3,h4,h5,h6,h7⟩:=hl k b0 (by show A1 k (Ak h _ s.boxes)=_;rw [Ac _ _ e];exact hk)
      refine ⟨b',h1,h2,h3,h4,h5,λhm=>?_,h7⟩;rcases QU.1 hm with e' | hm
      . exact absurd e' e
      . exact h6 hm
theorem Am7 {Γ:Ctx} {w:World} {E:Env} {s:St} {tmps:Array Value} (hs:A8 Γ w E s tmps) {h off len:Nat} {b:Box} {v:Value} {rows:List (List I)} (hb:A1 h s.boxes=some b) (hfz:b.fz=true) (htr:b.tr=false)
  (o1:off+len<=b.rows.length) (o2:(b.rows.drop off).take len=rows.map (·.map .i)) (hv:Rc w E v (.hs h off len)):Ri w E v (.sl 0 false b.sz rows):=by
 cases hv with
 | hs _ _ _ g sz cap ad hβ hle had =>
 obtain ⟨rfl,hat,_⟩:=hs.box hb hβ;have hat:=hat htr;have hlt:=hat.lt;obtain ⟨arr,hg,hsz',hl,hm,hlen,hcell,hhf,hA,hT'⟩:=hat
 have hrl:rows.length=len:=by have:=XU List.length o2;simp at this;omega
 have hget:∀ (i:Nat) (q:List I),rows[i]? = some q->b.rows[off+i]? = some (q.map .i):=by
  intro i q hi
  have hi':i<len:=by rw [<- hrl];exact (QP.1 hi).1
  have:((b.rows.drop off).take len)[i]? = some (q.map .i):=by rw [o2,QK,hi];rfl
  rwa [XG,QL hi',YG] at this
 by_cases h0:len=0
 . subst h0;obtain rfl:=XL hrl
   exact .nil _ _ _ _ _ (λe=>by cases e) (λe=>by cases e)
 . obtain rfl:=had (.inl (by omega))
   have hblk:E.blk 0 g:=by
    simp only [Env.blk,if_true];exact hs.fzn h b g _ hb hβ hfz
   have:=Ri.sl (w:=w) (E:=E) 0 b.sz g (off*b.sz) (cap-off) rows (λi j=>(arr[(off+i)*b.sz+j]?).getD undef) (λe=>by subst e;simp at hrl;omega) (by omega) hlt hblk
    (λi q hi=>by have:=hlen _ _ (hget i q hi);simpa using this)
    (λi q j c hi hj=>by
     obtain ⟨u,hu,_⟩:=hcell _ _ j (.i c) (hget i q hi) (by rw [QK,hj];rfl)
     rw [show off*b.sz+(i*b.sz+j)=(off+i)*b.sz+j by rw [YM];omega]
     simp [World.cell?,hg,hu])
    (λi q j c hi hj=>by
     obtain ⟨u,hu,hr⟩:=hcell _ _ j (.i c) (hget i q hi) (by rw [QK,hj];rfl)
     rw [hu]
     cases hr with | i hr=>exact hr)
   rw [hrl] at this;exact this
def Mo (bx:Nat->Option Box) (c c':C):Option (List Prop × List Nat) :=
 match c,c' with
 | .hs h off len,.i (.sl 0 false sz rows)=>match bx h with
  | some b=>bif Nat.beq b.sz sz && !b.tr then some ([off+len<=b.rows.length,(b.rows.drop off).take len=rows.map (·.map .i)],[h]) else none
  | none=>none
 | c,c'=>(Sb c c').map λp=>(p,[])
def F0 (bx:Nat->Option Box):List C->List C->Option (List Prop × List Nat)
 | [],[]=>some ([],[])
 | c::r,c'::r'=>match Mo bx c c',F0 bx r r' with
  | some (p,k),some (q,l)=>some (p++q,k++l)
  | _,_=>none
 | _,_=>none
def Ja (bx:Nat->Option Box):V->V->Option (List Prop × List Nat)
 | .one c,.one c'=>Mo bx c c'
 | .agg cs,.agg cs'=>F0 bx cs cs'
 | _,_=>none
def Alr (s s':St) (ks:List Nat):Prop:=∀ k ∈ ks,∀ b,A1 k s.boxes=some b->∃ b',A1 k s'.boxes=some b'/\b'.rows=b.rows/\b'.sz=b.sz/\b'.fz=true/\b'.tr=b.tr
theorem Qd {Γ:Ctx} {w:World} {E E':Env} {s s':St} {tmps:Array Value} (hs':A8 Γ w E' s' tmps) (kk:C0 w w E E') {v:Value} {c c':C} {obs:List Prop} {ks:List Nat} (hv:Rc w E v c)
  (h:Mo (A1 · s.boxes) c c'=some (obs,ks)) (ho:∀ p ∈ obs,p) (hfz:Alr s s' ks):Rc w E' v c':=by
 unfold Mo at h;split at h
 . rename_i k off len sz rows;split at h
   . rename_i b hb
     cases hc:(Nat.beq b.sz sz && !b.tr) with
     | false=>rw [hc] at h;cases h
     | true =>
      rw [hc] at h;simp only [cond,QD,QI] at h;obtain ⟨rfl,rfl⟩:=h;simp only [QE,ZJ] at hc;obtain ⟨hc,htr⟩:=hc
      obtain ⟨b',hb',hr,hz,hf,hft⟩:=hfz k (by simp) b hb
      have o1:off+len<=b.rows.length:=ho _ (by simp)
      have o2:(b.rows.drop off).take len=rows.map (·.map .i):=ho _ (by simp)
      have hc:=QC hc
      have:=Am7 hs' hb' hf (hft.trans htr) (by rw [hr];exact o1) (by rw [hr];exact o2) (hv.keep kk)
      rw [hz,hc] at this;exact .i this
   . cases h
 . simp only [QB,QI] at h;obtain ⟨p,hp,rfl,rfl⟩:=h;exact M6 (hv.keep kk) hp ho
theorem Ye {Γ:Ctx} {w:World} {E E':Env} {s s':St} {tmps:Array Value} (hs':A8 Γ w E' s' tmps) (kk:C0 w w E E'):∀ (cs cs':List C) (vs:List Value) (obs:List Prop) (ks:List Nat),Ei w E vs cs ->
  F0 (A1 · s.boxes) cs cs'=some (obs,ks)->(∀ p ∈ obs,p)->Alr s s' ks->Ei w E' vs cs'
 | [],[],vs,_,_,hv,_,_,_=>⟨by simpa using hv.1,λj v c _ hc=>by simp at hc⟩
 | [],_::_,_,_,_,_,h,_,_=>by simp [F0] at h
 | _::_,[],_,_,_,_,h,_,_=>by simp [F0] at h
 | c::r,c'::r',[],_,_,hv,_,_,_=>by have:=hv.1;simp at this
 | c::r,c'::r',v::vs,obs,ks,hv,h,ho,hfz=>by
  simp only [F0] at h;split at h
  . rename_i p k q l h1 h2;simp only [QD,QI] at h;obtain ⟨rfl,rfl⟩:=h;have r1:=Qd hs' kk (hv.2 0 v c rfl rfl) h1 (λx hx=>ho x (QF.2 (.inl hx))) (λx hx=>hfz x (QF.2 (.inl hx)))
    have r2:=Ye hs' kk r r' vs q l ⟨by simpa using hv.1,λj v c hv' hc'=>hv.2 (j+1) v c (by simpa using hv') (by simpa using hc')⟩ h2 (λx hx=>ho x (QF.2 (.inr hx))) (λx hx=>hfz x (QF.2 (.inr hx)))
    refine ⟨by simp [r2.1],λj v' x' hv' hx'=>?_⟩
    cases j with
    | zero=>simp at hv' hx';subst hv';subst hx';exact r1
    | succ j=>exact r2.2 j v' x' (by simpa using hv') (by simpa using hx')
  . cases h
theorem A1e {Γ:Ctx} {w:World} {E E':Env} {s s':St} {tmps:Array Value} (hs':A8 Γ w E' s' tmps) (kk:C0 w w E E') {v:Value} {x x':V} {obs:List Prop} {ks:List Nat} (hv:Rv w E v x)
  (h:Ja (A1 · s.boxes) x x'=some (obs,ks)) (ho:∀ p ∈ obs,p) (hfz:Alr s s' ks):Rv w E' v x':=by
 cases hv with
 | one hv =>
  cases x' with
  | one c'=>exact .one (Qd hs' kk hv h ho hfz)
  | agg=>simp [Ja] at h
 | agg hv =>
  cases x' with
  | one c'=>simp [Ja] at h
  | agg cs'=>exact .agg (Ye hs' kk _ _ _ _ _ hv h ho hfz)
def W0 (s:St) (t:Nat) (x':V):Option (St × List Prop) :=
 match A1 t s.slots with
 | some (.v x)=>match Ja (A1 · s.boxes) x x' with
  | some (obs,ks)=>bif Gq s.boxes ks then some ({ s with slots:=Ak t (.v x') s.slots,boxes:=B1 s.boxes ks },obs) else none
  | none=>none
 | _=>none
theorem A8.reslot {Γ:Ctx} {w:World} {E:Env} {s:St} {tmps:Array Value} (hs:A8 Γ w E s tmps) {t:Nat} {x:S} (hx:Rs w E (tmps.getD t undef) x):A8 Γ w E { s with slots:=Ak t x s.slots } tmps:=by
 refine { hs with slots:=λi y hy=>?_ };by_cases e:i=t
 . subst e;simp only [A9,QD] at hy;subst hy;exact hx
 . simp only [Ac _ _ e] at hy;exact hs.slots i y hy
theorem Afx {Γ:Ctx} {w:World} {E:Env} {s s':St} {tmps:Array Value} (hs:A8 Γ w E s tmps) {t:Nat} {x':V} {obs:List Prop} (h:W0 s t x'=some (s',obs)) (ho:∀ p ∈ obs,p):∃ E',A8 Γ w E' s' tmps:=by
 unfold W0 at h;split at h
 . rename_i x hx;split at h
   . rename_i obs' ks hcv
     cases hc:Gq s.boxes ks with
     | false=>rw [hc] at h;cases h
     | true =>
      rw [hc] at h;simp only [cond,QD,QI] at h;obtain ⟨rfl,rfl⟩:=h;obtain ⟨E',hs',kk,_,_,hl⟩:=hs.freezes ks hc;have hv:=(hs.slots t _ hx).v_inv
      have:=A1e (s:=s) (s':={ s with boxes:=B1 s.boxes ks }) hs' kk hv hcv ho (λk hk b hb=>by
       obtain ⟨b',h1,h2,h3,_,_,h6,h7⟩:=hl k b hb
       exact ⟨b',h1,h2,h3,h6 hk,h7⟩)
      exact ⟨E',hs'.reslot (.v this)⟩
   . cases h
 . cases h
def Eu:List (Nat × V)->St->Option (St × List Prop)
 | [],s=>some (s,[])
 | (t,x)::r,s=>match W0 s t x with
  | some (s1,p)=>match Eu r s1 with
   | some (s2,q)=>some (s2,p++q)
   | none=>none
  | none=>none
theorem Dv {Γ:Ctx} {w:World} {tmps:Array Value}:∀ (l:List (Nat × V)) {E:Env} {s s':St} {obs:List Prop},A8 Γ w E s tmps->Eu l s=some (s',obs)->(∀ p ∈ obs,p)->∃ E',A8 Γ w E' s' tmps
 | [],E,s,s',obs,hs,h,_=>by
  simp only [Eu,QD,QI] at h;obtain ⟨rfl,rfl⟩:=h;exact ⟨E,hs⟩
 | (t,x)::r,E,s,s',obs,hs,h,ho=>by
  simp only [Eu] at h;split at h
  . rename_i s1 p h1;split at h
    . rename_i s2 q h2;simp only [QD,QI] at h;obtain ⟨rfl,rfl⟩:=h;obtain ⟨E1,hs1⟩:=Afx hs h1 (λx hx=>ho x (QF.2 (.inl hx)));exact Dv r hs1 h2 (λx hx=>ho x (QF.2 (.inr hx)))
    . cases h
  . cases h
end Go.Ev

/- DERIVED. Regions and code, by evaluation along one path. -/
namespace Go.Ev
open Go
variable {P:Program} {T:Ty}
theorem Afc {id:Nat} {ops:Array Oper} {draw:Bool} {i:Nat} {o:Oper} (hi:ops[i]? = some o) {a b:Act} {v:Value}
  (h:b.defers=a.defers /\ ∀ t,(Code.region id ops draw).wr t=false->b.tmps.getD t undef=a.tmps.getD t undef) :
  (b.put o.dst v).defers=a.defers /\ ∀ t,(Code.region id ops draw).wr t=false->(b.put o.dst v).tmps.getD t undef=a.tmps.getD t undef:=by
 cases hd:o.dst with
 | none=>simpa [Act.put] using h
 | some u =>
  refine ⟨h.1,λt ht=>?_⟩;rw [<- h.2 t ht]
  have hne:u ≠ t:=by
   rintro rfl
   have hm:o ∈ ops.toList:=by
    obtain ⟨hl,rfl⟩:=ZI.1 hi;simp
   have:(Code.region id ops draw).wr u=true:=ZZ.2 ⟨o,hm,by simp [hd]⟩
   rw [this] at ht;cases ht
  simp [Act.put,KJ,hne]
def Dd (P:Program) (T:Ty) (K:Am) (ops:List Oper) (Ds:List (Nat × Fn)):List (Nat × Oper)->St->Option (St × List Prop)
 | [],s=>some (s,[])
 | (i,o)::r,s=>match Eu ((A1 i Ds).getD {}).fz s with
  | some (s0,u)=>match Yl P T K ops o ((A1 i Ds).getD {}) s0 with
   | some (s1,p)=>match Dd P T K ops Ds r s1 with
    | some (s2,q)=>some (s2,u++(p++q))
    | none=>none
   | none=>none
  | none=>none
theorem W9 (hT:Aw P T) {K:Am} {ops:Array Oper} {Ds:List (Nat × Fn)}:∀ (l:List (Nat × Oper)) (s s':St) (obs:List Prop),(∀ p ∈ l,ops[p.1]? = some p.2)->Dd P T K ops.toList Ds l s=some (s',obs)->(∀ p ∈ obs,p) ->
  ∀ (Γ:Ctx) (w:World) (E:Env) (a:Act) (ro:Option Nat) (n:Nat) (X:Act->Prop),Γ.K=K->(∀ (i:Nat) (o:Oper),ops[i]? = some o->∀ b v,X b->X (b.put o.dst v))->X a->A8 Γ w E s a.tmps->∀ (Q:Exit->Act->World->Prop),(∀ a' w',X a'->(∃ E',A8 Γ w' E' s' a'.tmps)->Q .normal a' w')->wpOpsIn (FR ro) n P ops Q (l.map (·.1)) a w
 | [],s,s',obs,_,h,_,Γ,w,E,a,ro,n,X,hK,hX,hd,hs,Q,hQ=>by
  simp only [Dd,QD,QI] at h;obtain ⟨rfl,rfl⟩:=h;exact hQ a w hd ⟨E,hs⟩
 | (i,o)::r,s,s',obs,hl,h,ho,Γ,w,E,a,ro,n,X,hK,hX,hd,hs,Q,hQ=>by
  simp only [Dd] at h;split at h
  . rename_i s0 u hfz;split at h
    . rename_i s1 p hstep;split at h
      . rename_i s2 q hrest;simp only [QD,QI] at h;obtain ⟨rfl,rfl⟩:=h;obtain ⟨E0,hs⟩:=Dv _ hs hfz (λx hx=>ho x (QF.2 (.inl hx)));have ho:∀ x ∈ p++q,x:=λx hx=>ho x (QF.2 (.inr hx))
        have hi:ops[i]? = some o:=hl (i,o) (by simp)
        have ih:=W9 hT r s1 s2 q (λp hp=>hl p (by simp [hp])) hrest (λx hx=>ho x (QF.2 (.inr hx)))
        simp only [QW,wpOpsIn,hi];unfold Yl at hstep;split at hstep
        . rename_i hg;rw [Fp hs hg];exact Cv hT hstep (λx hx=>ho x (QF.2 (.inl hx))) Γ w E0 a ro n X hK (hX i o hi) hd hs _ Q (λa' w' hd' ⟨E',hs'⟩=>ih Γ w' E' a' ro n X hK hX hd' hs' Q hQ)
        . rename_i hg;rw [Fp hs hg];simp only [QB,QI] at hstep;obtain ⟨s3,hput,rfl,rfl⟩:=hstep;obtain ⟨hs3,_⟩:=Gi hK hs (v:=Go.undef) Rs.undef hput;simp only [YE,if_false];exact ⟨λ_ _=>trivial,ih Γ w E0 _ ro n X hK hX (hX i o hi _ _ hd) hs3 Q hQ⟩
        . cases hstep
      . cases h
    . cases h
  . cases h
def Af8 (l:List Nat) (sl:List (Nat × S)):List (Nat × S):=sl.filter λp=>!l.contains p.1
theorem Avp {t:Nat} {x:S} {l:List Nat} {sl:List (Nat × S)} (h:A1 t (Af8 l sl)=some x):A1 t sl=some x:=by
 induction sl with
 | nil=>exact h
 | cons p r ih =>
  obtain ⟨j,y⟩:=p;unfold Af8 at h ih;simp only [YU] at h;simp only [A1]
  cases hb:Nat.beq j t with
  | true =>
   have:=QC hb;subst this;split at h
   . simpa [A1] using h
   . rename_i hc;exfalso;simp only [ZJ,Bool.not_eq_false] at hc
     have:∀ (q:List (Nat × S)),A1 j (q.filter λp=>!l.contains p.1) = .none:=by
      intro q
      induction q with
      | nil=>rfl
      | cons p' r' ih' =>
       obtain ⟨j',y'⟩:=p';simp only [YU];split
       . rename_i hc';simp only [A1]
         cases hb':Nat.beq j' j with
         | true =>
          have:=QC hb';subst this;simp only [ZJ] at hc';rw [hc'] at hc
          cases hc
         | false=>exact ih'
       . exact ih'
     rw [this] at h
     cases h
  | false =>
   simp only [cond];split at h
   . simp only [A1,hb,cond] at h;exact ih h
   . exact ih h
structure RD where
 ds:List (Nat × Fn):=[]
 drop:List Nat:=[]
def St.forget (s:St) (l:List Nat):St:={ s with slots:=Af8 l s.slots }
def A7 (l:List Oper):List (Nat × Oper):=l.zipIdx.map λp=>(p.2,p.1)
def Kw (P:Program) (T:Ty) (K:Am) (ops:Array Oper) (R:RD) (s:St):Option (St × List Prop) :=
 match Dd P T K ops.toList R.ds (A7 ops.toList) s with
 | some (s',p)=>some (s'.forget R.drop,p)
 | none=>none
theorem Ag4 (hT:Aw P T) {K:Am} {id:Nat} {ops:Array Oper} {R:RD} {s s':St} {obs:List Prop} (h:Kw P T K ops R s=some (s',obs)) (ho:∀ p ∈ obs,p):Code.Den P K (.region id ops false) s .normal s':=by
 unfold Kw at h;split at h
 . rename_i s1 p hr;simp only [QD,QI] at h;obtain ⟨rfl,rfl⟩:=h;intro Γ w E a ro n hK _ hs;refine wpIn_region ?_
   have hl:List.range ops.size=(A7 ops.toList).map (·.1):=by
    apply JD;intro j;simp only [A7,XJ,QK,YZ];by_cases hj:j<ops.size
    . simp [hj]
    . simp [hj]
   rw [hl]
   exact W9 hT _ s s1 _ (λq hq=>by
    obtain ⟨⟨o,i⟩,hm,rfl⟩:=ZM.1 hq;have:=List.mem_zipIdx hm;simp at this ⊢;obtain ⟨h1,h2⟩:=this;rw [h2]
    simp [h1]) hr ho Γ w E a ro n (λb=>b.defers=a.defers /\ ∀ t,(Code.region id ops false).wr t=false->b.tmps.getD t undef=a.tmps.getD t undef) hK (λi o hi b v hb=>Afc hi hb) ⟨rfl,λ_ _=>rfl⟩ hs _ (λa' w' hd' ⟨E',hs'⟩=>⟨rfl,.id hd'.1 hd'.2 ⟨E',hs'.less λt x hx=>Avp hx⟩⟩)
 . cases h
end Go.Ev

/- DERIVED. A body's evaluation gives the function's contract. -/
namespace Go.Ev
open Go
variable {P:Program} {T:Ty}
def params:Nat->List V->List (Nat × S)
 | _,[]=>[]
 | i,x::r=>(i,.v x)::params (i+1) r
theorem A14:∀ (l:List V) (i t:Nat) (x:S),A1 t (params i l)=some x->∃ y,x = .v y/\i<=t/\l[t-i]? = some y
 | [],i,t,x,h=>by cases h
 | y::r,i,t,x,h=>by
  simp only [params,A1] at h
  cases hb:Nat.beq i t with
  | true =>
   rw [hb] at h;have:=QC hb;subst this
   exact ⟨y,(QA h).symm,QY _,by simp⟩
  | false =>
   rw [hb] at h;obtain ⟨z,hz,hle,hl⟩:=A14 r (i+1) t x h
   refine ⟨z,hz,by omega,?_⟩
   rw [show t-i=(t-(i+1))+1 by omega]
   simpa using hl
theorem B80 {K:Am} {w:World} {E:Env} {nt:Nat} {bs:List (Nat × Box)} {args:List V} {vs:List Value} (hin:FIn w E nt bs) (hv:Ln w E vs args) (hle:args.length<=K.N) :
  A8 { w0:=w,E0:=E,nt0:=nt,pass:=handed E bs,K:=K,hold:=λ_ _=>False } w E { slots:=params 0 args,boxes:=bs,nt:=nt } (vs.toArray++Array.replicate (K.N-vs.toArray.size) undef) where
 fr:=⟨rfl,rfl,rfl,QY _,λ_ _ _=>rfl⟩
 wf:=hin.wf
 held:=λ_ _ h=>h.elim
 old:=λ_ _=>Iff.rfl
 nt:=QY _
 tag:=λ_ _=>rfl
 new:=λt g ht hg=>absurd (hin.wf.tag t g hg).1 (Nat.not_lt.2 ht)
 boxes:=λh b hb=>(hin.boxes h b hb).1
 inj:=hin.inj
 own:=λh b g z hb hβ=>.inr ⟨⟨h,b,hb,.inl ⟨z,hβ⟩⟩,(hin.boxes h b hb).2.1,(hin.boxes h b hb).2.2⟩
 slots:=λt x hx=>by
  obtain ⟨y,rfl,_,hl⟩:=A14 args 0 t x hx;rw [KX] at hl;have hlt:=(QP.1 hl).1
  have hlt':t<vs.length:=by rw [hv.1];exact hlt
  have hv':vs[t]? = some vs[t]:=QN hlt';have:=hv.2 t _ _ hv' hl
  have hget:(vs.toArray++Array.replicate (K.N-vs.toArray.size) undef).getD t undef=vs[t]:=by
   have:t<(vs.toArray++Array.replicate (K.N-vs.toArray.size) undef).size:=by simp;omega
   simp [Array.getD,hlt'];omega
  rw [hget];exact .v this
 tsize:=by simp [hv.1];omega
 dom:=hin.dom
 stay:=λ_ _ _ _=>rfl
 fzn:=λh b g z hb _ hf=>by rw [(hin.boxes h b hb).2.1] at hf;cases hf
 tow:=λg h hg=>by
  obtain ⟨b,hb⟩:=ZF.1 (hin.odom g h hg);exact .inr ⟨h,b,hb,.inr hg⟩
theorem Ri.sameAτ {w:World} {E E':Env} (hA:E'.A=E.A) (hτ:E'.τ=E.τ) {v:Value} {x:I} (h:Ri w E v x):Ri w E' v x:=by
 refine h.keepI (QY _) (λtag g _ hb=>?_) (λ_ _ _ _ _ h=>h);unfold Env.blk at hb ⊢;rw [hA,hτ];exact hb
def Q3 (bs:List (Nat × Box)) (out:List Nat):List (Nat × Box):=bs.filter λp=>out.contains p.1
theorem F5 {h:Nat} {b:Box} {out:List Nat}:∀ {bs:List (Nat × Box)},A1 h (Q3 bs out)=some b->out.contains h=true/\A1 h bs=some b
 | [],hb=>by cases hb
 | (j,y)::r,hb=>by
  unfold Q3 at hb;simp only [YU] at hb
  have none_of:out.contains h=false->∀ q:List (Nat × Box),A1 h (q.filter λp=>out.contains p.1) = .none:=by
   intro hc q
   induction q with
   | nil=>rfl
   | cons p' r' ih' =>
    simp only [YU];split
    . rename_i hc';simp only [A1]
      cases hb':Nat.beq p'.1 h with
      | true=>have:=QC hb';rw [this,hc] at hc';cases hc'
      | false=>exact ih'
    . exact ih'
  simp only [A1]
  cases hb':Nat.beq j h with
  | true =>
   have:=QC hb';subst this
   cases hc:out.contains j with
   | true =>
    rw [QL hc] at hb;simp only [A1,hb',cond] at hb;exact ⟨rfl,hb⟩
   | false =>
    rw [QJ (by rw [hc];exact Bool.false_ne_true)] at hb
    rw [none_of hc] at hb
    cases hb
  | false =>
   simp only [cond];split at hb
   . simp only [A1,hb',cond] at hb;exact F5 hb
   . exact F5 hb
theorem Nl {h:Nat} {b:Box} {out:List Nat} (ho:out.contains h=true):∀ {bs:List (Nat × Box)},A1 h bs=some b->A1 h (Q3 bs out)=some b
 | [],hb=>by cases hb
 | (j,y)::r,hb=>by
  unfold Q3;simp only [YU];simp only [A1] at hb
  cases hb':Nat.beq j h with
  | true =>
   have:=QC hb';subst this;rw [QL ho];rw [hb'] at hb;simp only [A1,hb'];exact hb
  | false =>
   rw [hb'] at hb;split
   . simp only [A1,hb',cond];exact Nl ho hb
   . exact Nl ho hb
def Nf (T:Ty) (s:St):ResultVar->Option (V × List Prop)
 | .tmp t=>match A1 t s.slots with
  | some (.v x)=>some (x,[])
  | _=>none
 | .cell a t=>match Fk T none t (s.val (.tmp a)) s.box with
  | some r=>match r.val with
   | .v x=>some (x,r.ob)
   | _=>none
  | none=>none
def Ir (T:Ty) (s:St) (rv:ResultVar) (d:Option V):Option (V × List Prop × List Nat) :=
 match Nf T s rv with
 | some (x,p)=>match d with
  | none=>some (x,p,[])
  | some x'=>match Ja s.box x x' with
   | some (q,ks)=>some (x',p++q,ks)
   | none=>none
 | none=>none
def Dz (T:Ty) (s:St):List ResultVar->List (Option V)->Option (List V × List Prop × List Nat)
 | [],_=>some ([],[],[])
 | rv::r,ds=>match Ir T s rv (ds.headD none),Dz T s r ds.tail with
  | some (x,p,ks),some (xs,q,ls)=>some (x::xs,p++q,ks++ls)
  | _,_=>none
def Dp:List V->S
 | [x]=>.v x
 | xs=>.tup xs
theorem We {Γ:Ctx} (hT:Aw P T) {w:World} {E:Env} {s:St} {tmps:Array Value} (hs:A8 Γ w E s tmps) {rv:ResultVar} {x:V} {obs:List Prop} (h:Nf T s rv=some (x,obs)) (ho:∀ p ∈ obs,p) :
  ∃ v,(match rv with | .tmp t=>pure (tmps.getD t undef) | .cell a t=>do loadVar t (<- asAddr (tmps.getD a undef)):Sem Value).run P w = .ok v w/\Rv w E v x:=by
 unfold Nf at h;split at h
 . rename_i t;split at h
   . rename_i y hy;simp only [QD,QI] at h;obtain ⟨rfl,rfl⟩:=h
     exact ⟨_,by simp,(hs.slots t _ hy).v_inv⟩
   . cases h
 . rename_i a t;split at h
   . rename_i r hr;split at h
     . rename_i y hy;simp only [QD,QI] at h;obtain ⟨rfl,rfl⟩:=h;have hv:=hs.val_sound (a:={ tmps:=tmps,defers:=[] }) (.tmp a);simp only [Act.eval] at hv;obtain ⟨u,hu,hru,_⟩:=A5z hT hs hv hr ho;rw [hy] at hru;refine ⟨u,?_,hru.v_inv⟩;simp only [Instr.loadAt] at hu;generalize tmps.getD a undef=z at hu ⊢;unfold Instr.sureAddr at hu;unfold asAddr;split at hu
       . simpa using hu
       . simp [Go.stuck] at hu
     . cases h
   . cases h
theorem Ng {Γ:Ctx} (hT:Aw P T) {w:World} {E E':Env} {s s':St} {tmps:Array Value} (hs:A8 Γ w E s tmps) (hs':A8 Γ w E' s' tmps) (kk:C0 w w E E'):∀ (l:List ResultVar) (ds:List (Option V)) (xs:List V) (obs:List Prop) (ks:List Nat),
  Dz T s l ds=some (xs,obs,ks)->(∀ p ∈ obs,p)->Alr s s' ks->∃ vs:List Value,(l.mapM λrv=>(match rv with | .tmp t=>pure (tmps.getD t undef) | .cell a t=>do loadVar t (<- asAddr (tmps.getD a undef)):Sem Value)).run P w = .ok vs w/\Ln w E' vs xs
 | [],ds,xs,obs,ks,h,_,_=>by
  simp only [Dz,QD,QI] at h;obtain ⟨rfl,_,_⟩:=h
  exact ⟨[],by simp,rfl,λj v c _ hc=>by simp at hc⟩
 | rv::r,ds,xs,obs,ks,h,ho,hfz=>by
  simp only [Dz] at h;split at h
  . rename_i x p k xs' q l h1 h2;simp only [QD,QI] at h;obtain ⟨rfl,rfl,rfl⟩:=h;have ho1:∀ y ∈ p,y:=λy hy=>ho y (QF.2 (.inl hy));have hz1:Alr s s' k:=λy hy=>hfz y (QF.2 (.inl hy));obtain ⟨vs,hvs,hrs⟩:=Ng hT hs hs' kk r ds.tail xs' q l h2 (λy hy=>ho y (QF.2 (.inr hy))) (λy hy=>hfz y (QF.2 (.inr hy)))
    have one:∃ v,(match rv with | .tmp t=>pure (tmps.getD t undef) | .cell a t=>do loadVar t (<- asAddr (tmps.getD a undef)):Sem Value).run P w = .ok v w/\Rv w E' v x:=by
     unfold Ir at h1;split at h1
     . rename_i y p' hraw;split at h1
       . simp only [QD,QI] at h1;obtain ⟨rfl,rfl,rfl⟩:=h1;obtain ⟨v,hv,hr⟩:=We hT hs hraw ho1;exact ⟨v,hv,hr.keep kk⟩
       . rename_i x' _;split at h1
         . rename_i q' ks' hcv;simp only [QD,QI] at h1;obtain ⟨rfl,rfl,rfl⟩:=h1;obtain ⟨v,hv,hr⟩:=We hT hs hraw (λz hz=>ho1 z (QF.2 (.inl hz)));exact ⟨v,hv,A1e (s:=s) hs' kk hr hcv (λz hz=>ho1 z (QF.2 (.inr hz))) hz1⟩
         . cases h1
     . cases h1
    obtain ⟨v,hv,hrv⟩:=one
    refine ⟨v::vs,?_,by simp [hrs.1],λj v' x' hv' hx'=>?_⟩
    . simp only [Qbi,Sem.run_bind,hv,Result.andThen_ok,hvs,Sem.run_pure]
    . cases j with
      | zero=>simp at hv' hx';subst hv';subst hx';exact hrv
      | succ j=>exact hrs.2 j v' x' (by simpa using hv') (by simpa using hx')
  . cases h
end Go.Ev

/- DERIVED. A body's evaluation gives the function's contract. -/
namespace Go.Ev
open Go
variable {P:Program} {T:Ty}
theorem A11 {fn:Func} {tmps:Array Value} {w:World} {vs:List Value}
  (h:(fn.results.toList.mapM λrv=>(match rv with | .tmp t=>pure (tmps.getD t undef) | .cell a t=>do loadVar t (<- asAddr (tmps.getD a undef)):Sem Value)).run P w = .ok vs w) :
  (results fn tmps).run P w = .ok (if h:vs.length=1 then vs[0] else .tuple vs.toArray) w:=by
 unfold results;rw [Array.mapM_eq_mapM_toList];rw [Sem.run_bind,map_eq_pure_bind,Sem.run_bind]
 refine Eq.trans (XU (λr:Result (List Value)=>(r.andThen λa w'=>(pure a.toArray:Sem (Array Value)).run P w').andThen λvs w'=>(pure (if h:vs.size=1 then vs[0] else .tuple vs):Sem Value).run P w') h) ?_
 simp only [Result.andThen_ok,Sem.run_pure];by_cases e:vs.length=1
 . simp [e]
 . simp [e]
theorem A63 {w:World} {E:Env} {vs:List Value} {xs:List V} (h:Ln w E vs xs):Rs w E (if h:vs.length=1 then vs[0] else .tuple vs.toArray) (Dp xs):=by
 match xs,vs,h with
 | [],[],h=>exact .tup h
 | [x],[v],h=>exact .v (h.2 0 v x rfl rfl)
 | x::y::r,v::u::q,h =>
  have:¬ (v::u::q).length=1:=by simp
  rw [dif_neg this];exact .tup h
 | [],_::_,h=>have:=h.1;simp at this
 | [_],[],h=>have:=h.1;simp at this
 | [_],_::_::_,h=>have:=h.1;simp at this
 | _::_::_,[],h=>have:=h.1;simp at this
 | _::_::_,[_],h=>have:=h.1;simp at this
theorem Ac1 {xs:List V} (h:xs.all V.noH=true):(Dp xs).noH=true:=by
 match xs,h with
 | [],_=>rfl
 | [x],h=>simpa [Dp,S.noH] using h
 | x::y::r,h=>simpa [Dp,S.noH] using h
theorem B92 (hT:Aw P T) {f:FuncId} {fn:Func} {c:Code} {K:Am} {nt:Nat} {bs:List (Nat × Box)} {args:List V} {x:Exit} {s':St}
  (hf : P.funcs[f]? = some fn) (hname : (fn.name == "runtime.NumGoroutine") = false) (hb : fn.body = some c) (hN : fn.ntmps = K.N) (hmv : K.mv = []) (hargs : args.length <= K.N)
  (hx:x = .normal \/ x = .ret) (hd:Code.Den P K c { slots:=params 0 args,boxes:=bs,nt:=nt } x s')
  {ds:List (Option V)} {xs:List V} {obs:List Prop} {ks:List Nat} (hr:Dz T s' fn.results.toList ds=some (xs,obs,ks)) (ho:∀ p ∈ obs,p) (hc:Gq s'.boxes ks=true)
  (out:List Nat) (hres:xs.all V.noH=true) (hout:∀ h b,A1 h (Q3 (B1 s'.boxes ks) out)=some b->b.fz=false/\b.hf=true) (hkeys:∀ h b,A1 h bs=some b->out.contains h=true) (hout2:∀ h,out.contains h=true->h<2000) :
  Jk P f nt [] bs args (Dp xs) s'.nt (Q3 (B1 s'.boxes ks) out):=by
 refine ⟨⟨fn,hf,hname,by rw [hb];rfl⟩,λw E vs hin hv=>?_⟩
 refine Agy hf hb hN rfl hx hd (B80 hin hv hargs) ?_;intro a w' E1 hs1
 change A8 { w0:=w,E0:=E,nt0:=nt,pass:=handed E bs,K:=K,hold:=λ_ _=>False } w' E1 s' a.tmps at hs1
 obtain ⟨E',hs',kk,hβ,hτ,hl⟩:=hs1.freezes ks hc
 obtain ⟨rs,hrun,hrs⟩:=Ng hT (s:=s') (s':={ s' with boxes:=B1 s'.boxes ks }) hs1 hs' kk fn.results.toList ds xs obs ks hr ho (λk hk b hb=>by
  obtain ⟨b',h1,h2,h3,_,_,h6,h7⟩:=hl k b hb
  exact ⟨b',h1,h2,h3,h6 hk,h7⟩)
 have hres':=A11 hrun;have hread:=A63 hrs
 let Ef:Env:={ A:=E'.A,τ:=E'.τ,β:=λh=>if out.contains h then E'.β h else none,ω:=E'.ω }
 have hβout:∀ h b,A1 h (Q3 (B1 s'.boxes ks) out)=some b->Ef.β h=E'.β h:=λh b hb=>by
  show (if out.contains h then E'.β h else none)=_
  rw [QL (F5 hb).1]
 have hkeep:∀ h,1000<=h->h<2000->E'.β h=E.β h:=λh hh hh2=>hs'.stay h hh hh2 (by rw [hmv];rfl)
 have goal:∃ v Ef',(Ending.returned (if h:rs.length=1 then rs[0] else .tuple rs.toArray) = .returned v)/\Rs w' Ef' v (Dp xs)/\B6r w E nt bs [] w' Ef' s'.nt (Q3 (B1 s'.boxes ks) out):=by
  refine ⟨_,Ef,rfl,Rs.noH (E:=E') (E':=Ef) rfl rfl (Ac1 hres) hread,⟨hs'.fr,⟨hs'.wf.alt,hs'.wf.tag,hs'.wf.inj,hs'.wf.om⟩,hs'.old,hs'.nt,hs'.tag,hs'.new,λh b hb=>?_,λh h' b b' g g' z z' hb hb' hz hz'=>?_,λh b g z hb hz=>?_,λh b hb _=>?_,hs'.tow⟩⟩
  . obtain ⟨hfz,hhf⟩:=hout h b hb;obtain ⟨g,cap,hβ',⟨arr,a1,a2,a3,a4,a5,a6,a7,a8,a9⟩,hω,hS⟩:=hs'.boxes h b (F5 hb).2;rw [Env.rd_τ] at a9
    refine ⟨⟨g,cap,(hβout h b hb).trans hβ',⟨arr,a1,a2,a3,a4,a5,λi r j c hi hj=>?_,a7,λe=>(Env.rd_A (E:=Ef) hω).2 ((Env.rd_A (E:=E') hω).1 (a8 e)),by rw [Env.rd_τ];exact a9⟩,hω,hS⟩,hfz⟩
    obtain ⟨v,hv',hrc⟩:=a6 i r j c hi hj;obtain ⟨y,rfl⟩:=a7 hhf i r j c hi hj
    cases hrc with | i hri=>exact ⟨v,hv',.i (Ri.sameAτ (E:=E'.rd h b.tr) (E':=Ef.rd h b.tr) (by cases b.tr <;> rfl) (by cases b.tr <;> rfl) hri)⟩
  . rw [hβout h b hb] at hz;rw [hβout h' b' hb'] at hz';exact hs'.inj h h' b b' g g' z z' (F5 hb).2 (F5 hb').2 hz hz'
  . rw [hβout h b hb] at hz;rcases hs'.own h b g z (F5 hb).2 hz with h' | h'
    . exact .inl h'
    . have hE:=(hkeep h h'.2.2 (hout2 h (F5 hb).1)).symm.trans hz;obtain ⟨b0,hb0⟩:=ZF.1 (hin.dom h _ hE);exact .inr ⟨b0,hb0,hE⟩
  . have h1:=(hin.boxes h b hb).2.2
    have h2:Ef.β h=E.β h:=by
     show (if out.contains h then E'.β h else none)=_
     rw [QL (hkeys h b hb),hkeep h h1 (hout2 h (hkeys h b hb))]
    refine ⟨h2,?_⟩;obtain ⟨g,cap,hβ',_⟩:=(hin.boxes h b hb).1;have:=hs'.dom h _ ((hkeep h h1 (hout2 h (hkeys h b hb))).trans hβ');obtain ⟨b',hb'⟩:=ZF.1 this;rw [Nl (hkeys h b hb) hb'];rfl
 obtain ⟨v,Ef',e,h1,h2⟩:=goal;exact ⟨_,hres',v,Ef',e,h1,h2⟩
theorem Agc (bs:List (Nat × Box)):Q3 bs []=[]:=by
 induction bs with
 | nil=>rfl
 | cons p r ih=>simp [Q3]
theorem Aw5 (hT:Aw P T) {f:FuncId} {fn:Func} {c:Code} {K:Am} {nt:Nat} {args:List V} {x:Exit} {s':St}
  (hf : P.funcs[f]? = some fn) (hname : (fn.name == "runtime.NumGoroutine") = false) (hb : fn.body = some c) (hN : fn.ntmps = K.N) (hmv : K.mv = []) (hargs : args.length <= K.N)
  (hx:x = .normal \/ x = .ret) (hd:Code.Den P K c { slots:=params 0 args,boxes:=[],nt:=nt } x s')
  {ds:List (Option V)} {xs:List V} {obs:List Prop} {ks:List Nat} (hr:Dz T s' fn.results.toList ds=some (xs,obs,ks)) (ho:∀ p ∈ obs,p) (hc:Gq s'.boxes ks=true)
  (hres:xs.all V.noH=true):Jk P f nt [] [] args (Dp xs) s'.nt []:=by
 have:=B92 hT hf hname hb hN hmv hargs hx hd hr ho hc [] hres (λh b hb=>by rw [Agc] at hb;cases hb) (λh b hb=>by cases hb) (λh hh=>by cases hh)
 rw [Agc] at this;exact this
end Go.Ev

/- DERIVED. A body's evaluation gives the contract of a function that is handed boxes or hands out boxes. -/
namespace Go.Ev
open Go
variable {P:Program} {T:Ty}
theorem B3p (hT:Aw P T) {f:FuncId} {fn:Func} {c:Code} {K:Am} {nt:Nat} {bs bs':List (Nat × Box)} {args:List V} {x:Exit} {s':St}
  (hf : P.funcs[f]? = some fn) (hname : (fn.name == "runtime.NumGoroutine") = false) (hb : fn.body = some c) (hN : fn.ntmps = K.N) (hmv : K.mv = []) (hargs : args.length <= K.N)
  (hx:x = .normal \/ x = .ret) (hd:Code.Den P K c { slots:=params 0 args,boxes:=bs,nt:=nt } x s')
  {ds:List (Option V)} {xs:List V} {obs:List Prop} {ks:List Nat} (hr:Dz T s' fn.results.toList ds=some (xs,obs,ks)) (ho:∀ p ∈ obs,p) (hc:Gq s'.boxes ks=true)
  (σ ρ:Nat->Nat)
  (hb':∀ k b,A1 k bs'=some b->A1 (σ k) (B1 s'.boxes ks)=some b/\b.fz=false/\b.hf=true/\(σ k<1000 \/ (σ k=k/\k<2000)))
  (hσ:∀ k k',(A1 k bs').isSome=true->(A1 k' bs').isSome=true->σ k=σ k'->k=k')
  (hρ:(Dp xs).okH (λh=>(A1 (ρ h) bs').isSome&&Nat.beq (σ (ρ h)) h)=true)
  (hkeys:∀ k b,A1 k bs=some b->σ k=k/\(A1 k bs').isSome=true/\k<2000) :
  Jk P f nt [] bs args ((Dp xs).ren ρ) s'.nt bs':=by
 refine ⟨⟨fn,hf,hname,by rw [hb];rfl⟩,λw E vs hin hv=>?_⟩
 refine Agy hf hb hN rfl hx hd (B80 hin hv hargs) ?_;intro a w' E1 hs1
 change A8 { w0:=w,E0:=E,nt0:=nt,pass:=handed E bs,K:=K,hold:=λ_ _=>False } w' E1 s' a.tmps at hs1
 obtain ⟨E',hs',kk,hβ,hτ,hl⟩:=hs1.freezes ks hc
 obtain ⟨rs,hrun,hrs⟩:=Ng hT (s:=s') (s':={ s' with boxes:=B1 s'.boxes ks }) hs1 hs' kk fn.results.toList ds xs obs ks hr ho (λk hk b hb=>by
  obtain ⟨b',h1,h2,h3,_,_,h6,h7⟩:=hl k b hb
  exact ⟨b',h1,h2,h3,h6 hk,h7⟩)
 have hres':=A11 hrun;have hread:=A63 hrs
 let P':Nat->Nat->Prop:=λg k=>(A1 k bs').isSome=true/\E'.ω g=some (σ k)
 let Ef:Env:={ A:=E'.A,τ:=E'.τ,β:=λk=>if (A1 k bs').isSome then E'.β (σ k) else none,ω:=λg=>@dite _ (∃ k,P' g k) (Classical.propDecidable _) (λh=>some h.choose) (λ_=>none) }
 have ωf:∀ g k,Ef.ω g=some k ↔ P' g k:=by
  intro g k;show (@dite _ (∃ k,P' g k) (Classical.propDecidable _) (λh=>some h.choose) (λ_=>none))=some k ↔ _;by_cases h:∃ k,P' g k
  . rw [dif_pos h];have hc:=h.choose_spec;constructor
    . intro e;rw [<- QA e];exact hc
    . intro hk;congr 1;exact hσ _ _ hc.1 hk.1 (QA (hc.2.symm.trans hk.2))
  . rw [dif_neg h];exact ⟨(λe=>nomatch e),λhk=>absurd ⟨k,hk⟩ h⟩
 have hβout:∀ k b,A1 k bs'=some b->Ef.β k=E'.β (σ k):=λk b hb=>by
  show (if (A1 k bs').isSome then E'.β (σ k) else none)=_
  rw [QL (by rw [hb];rfl)]
 have hkeep:∀ h,1000<=h->h<2000->E'.β h=E.β h:=λh hh hh2=>hs'.stay h hh hh2 (by rw [hmv];rfl)
 have goal:∃ v Ef',(Ending.returned (if h:rs.length=1 then rs[0] else .tuple rs.toArray) = .returned v)/\Rs w' Ef' v ((Dp xs).ren ρ)/\B6r w E nt bs [] w' Ef' s'.nt bs':=by
  refine ⟨_,Ef,rfl,Rs.ren (E:=E') (E':=Ef) (Q:=λ_=>True) (λv y h _=>Ri.sameAτ (E:=E') (E':=Ef) rfl rfl h) (λh hh=>?_) hρ S.allI_true hread,⟨hs'.fr,⟨hs'.wf.alt,hs'.wf.tag,hs'.wf.inj,λg k hk=>hs'.wf.om g _ ((ωf g k).1 hk).2⟩,hs'.old,hs'.nt,hs'.tag,hs'.new,λk b hb=>?_,λk k' b b' g g' z z' hb hb2 hz hz' hne=>?_,λk b g z hb hz=>?_,λk b hb _=>?_,λg k hk=>hs'.tow g _ ((ωf g k).1 hk).2⟩⟩
  . simp only [QE] at hh
    show (if (A1 (ρ h) bs').isSome then E'.β (σ (ρ h)) else none)=_
    rw [QL hh.1,QC hh.2]
  . obtain ⟨h1,hfz,hhf,_⟩:=hb' k b hb;obtain ⟨g,cap,hβ',⟨arr,a1,a2,a3,a4,a5,a6,a7,a8,a9⟩,hω,hS⟩:=hs'.boxes _ b h1;rw [Env.rd_τ] at a9
    have hks:(A1 k bs').isSome=true:=by rw [hb];rfl
    have hωf:Ef.ω g=none:=by
     cases e:Ef.ω g with
     | none=>rfl
     | some k0=>have:=((ωf g k0).1 e).2;rw [hω] at this;cases this
    refine ⟨⟨g,cap,(hβout k b hb).trans hβ',⟨arr,a1,a2,a3,a4,a5,λi r j c hi hj=>?_,a7,λe=>(Env.rd_A (E:=Ef) hωf).2 ((Env.rd_A (E:=E') hω).1 (a8 e)),by rw [Env.rd_τ];exact a9⟩,hωf,λe=>⟨λi r j y len cap a h1 h2 h3 h4 h5=>(ωf _ _).2 ⟨hks,(hS e).1 i r j y len cap a h1 h2 h3 h4 h5⟩,(hS e).2⟩⟩,hfz⟩
    obtain ⟨v,hv',hrc⟩:=a6 i r j c hi hj;obtain ⟨y,rfl⟩:=a7 hhf i r j c hi hj
    cases hrc with | i hri =>
     refine ⟨v,hv',.i ?_⟩
     cases htr:b.tr with
     | false =>
      rw [htr] at hri;exact Ri.sameAτ (E:=E') (E':=Ef) rfl rfl hri
     | true =>
      rw [htr] at hri;refine hri.keepI (QY _) (λtag g' _ hb'=>?_) (λ_ _ _ _ _ h=>h);unfold Env.blk at hb' ⊢;split
      . rename_i e;rw [QL e] at hb';exact λh3=>hb' ⟨h3.1,λh4=>h3.2 ((ωf g' k).2 ⟨hks,h4⟩)⟩
      . rename_i e;rw [QJ e] at hb';exact hb'
  . rw [hβout k b hb] at hz;rw [hβout k' b' hb2] at hz'
    exact hs'.inj _ _ b b' g g' z z' (hb' k b hb).1 (hb' k' b' hb2).1 hz hz' λe=>hne (hσ k k' (by rw [hb];rfl) (by rw [hb2];rfl) e)
  . rw [hβout k b hb] at hz;obtain ⟨h1,_,_,h4⟩:=hb' k b hb;rcases hs'.own _ b g z h1 hz with h' | h'
    . exact .inl h'
    . obtain ⟨hk,hk2⟩:σ k=k/\k<2000:=h4.resolve_left (by have:=h'.2.2;omega)
      rw [hk] at hz h';have hE:=(hkeep k h'.2.2 hk2).symm.trans hz;obtain ⟨b0,hb0⟩:=ZF.1 (hin.dom k _ hE);exact .inr ⟨b0,hb0,hE⟩
  . have h1:=(hin.boxes k b hb).2.2;obtain ⟨h2,h3,h4⟩:=hkeys k b hb;refine ⟨?_,h3⟩
    show (if (A1 k bs').isSome then E'.β (σ k) else none)=_
    rw [QL h3,h2,hkeep k h1 h4]
 obtain ⟨v,Ef',e,h1,h2⟩:=goal;exact ⟨_,hres',v,Ef',e,h1,h2⟩
end Go.Ev

/- DERIVED. The types' table off the program itself. -/
namespace Go.Ev
open Go
def B2l (P:Program):Ty:=λt=>match P.underlying t with
 | some d=>match P.info? t with
  | some inf=>match inf.zero with
   | some z=>bif Nat.beq z.cells.size inf.size&&z.cells.toList.all (λv=>v.oneCell') then some ⟨d,inf.size,inf.bytes,z,!P.stoodInHeld t && !P.eqGuardType P.depth t⟩ else none
   | none=>none
  | none=>none
 | none=>none
theorem Qi (P:Program):Aw P (B2l P):=by
 intro t i h;unfold B2l at h;split at h
 . rename_i d hd;split at h
   . rename_i inf hinf;split at h
     . rename_i z hz
       cases hc:(Nat.beq z.cells.size inf.size&&z.cells.toList.all (λv=>v.oneCell')) with
       | false=>rw [hc] at h;cases h
       | true =>
        rw [hc] at h;obtain rfl:=QA h;simp only [QE] at hc
        exact ⟨hd,⟨inf,hinf,rfl,rfl,hz⟩,QC hc.1,hc.2,λh=>by simpa using h⟩
     . cases h
   . cases h
 . cases h
end Go.Ev

/- DERIVED. Operations that only put a value: what they come to hangs on what they A1 at alone. -/
namespace Go.Ev
open Go
variable {P:Program} {T:Ty}
def quiet (P:Program) (T:Ty) (o:Oper) (D:Fn) (s:St):Option (S × List Prop) :=
 match D.call with
 | some cd=>match o.op with
  | .call c=>match c.callee with
   | .value f=>match Kg (s.val f) with
    | some (fid,caps)=>match Hq s.box (c.args.toList.map s.val++caps.map λx=>.v (.one (.i x))) cd.args with
     | some (obs,bor)=>bif cd.r.noH&&bor.all s.lendable then
       some (D.val.getD cd.r,Jk P fid s.nt [] [] cd.args cd.r s.nt []::(bor=[] \/ Ki cd.r)::(cd.r=D.val.getD cd.r)::obs) else none
     | none=>none
    | none=>none
   | _=>none
  | _=>none
 | none=>match Ct T D.cells o s with
  | some r=>match r.eff with
   | .none=>some (D.val.getD r.val,r.ob++(match D.val with | none=>[] | some x=>[r.val=x]))
   | _=>none
  | none=>none
theorem Si {K:Am} {o:Oper} {D:Fn} {s s':St} {x:S} {obs:List Prop} (h:quiet P T o D s=some (x,obs)) (hput:s.putD K o.dst x=some s') :
  ∃ D' obs',Cd P T K o D' s=some (s',obs')/\((∀ p ∈ obs,p)->∀ p ∈ obs',p):=by
 unfold quiet at h;split at h
 . rename_i cd hcd;split at h
   . rename_i c hop;split at h
     . rename_i f hf;split at h
       . rename_i fid caps hcal;split at h
         . rename_i obs' bor hargs
           cases hc:(cd.r.noH&&bor.all s.lendable) with
           | false=>rw [hc] at h;cases h
           | true =>
            rw [hc] at h;simp only [cond,QD,QI] at h;obtain ⟨rfl,rfl⟩:=h;refine ⟨{ D with own:=none,callB:=none,call:=some { cd with nt:=s.nt } },_,?_,λh=>h⟩;unfold Cd;simp only [hop,hf,hcal,hargs,hc,cond];rw [show ({ s with nt:=s.nt }:St)=s from rfl,hput];rfl
         . cases h
       . cases h
     . cases h
   . cases h
 . rename_i hcall;split at h
   . rename_i r hr;split at h
     . rename_i heff;simp only [QD,QI] at h;obtain ⟨rfl,rfl⟩:=h
       refine ⟨{ D with own:=none,callB:=none,rows:=none },r.ob++[]++(match D.val with | none=>[] | some x=>[r.val=x]),?_,λh=>by simpa using h⟩
       unfold Cd;simp only [hcall,hr,heff,St.eff];rw [hput];rfl
     . cases h
   . cases h
theorem Av3 (hT:Aw P T) {K:Am} {o:Oper} {D:Fn} {s s':St} {x:S} {obs:List Prop} (h:quiet P T o D s=some (x,obs)) (ho:∀ p ∈ obs,p) (hput:s.putD K o.dst x=some s'):Ch P K o s s':=by
 obtain ⟨D',obs',h1,h2⟩:=Si h hput;exact Cv hT h1 (h2 ho)
theorem Aeq {hint:Option (List C)} {o:Oper} {s1 s2:St} (hb:s2.boxes=s1.boxes) (hv:∀ x ∈ o.op.operands,s2.val x=s1.val x):Ct T hint o s2=Ct T hint o s1:=by
 obtain ⟨dst,op,type,pos,after,guard⟩:=o
 have hbx:s2.box=s1.box:=by funext k;simp only [St.box,hb]
 have pairs:∀ ps:Array (Nat × Operand),(∀ x ∈ (ps.toList.map (·.2)).toArray,s2.val x=s1.val x)->Hm s2 ps=Hm s1 ps:=λps hp =>
  ZH λp hm=>by rw [hp p.2 (List.mem_toArray.2 (ZM.2 ⟨p,hm,rfl⟩))]
 cases op <;> simp only [Op.operands] at hv <;> simp only [Ct,hbx]
 case build t ps=>rw [pairs ps hv]
 case buildSlice t n ps=>cases dst <;> simp only [pairs ps hv]
 case makeFunc fn first captured =>
  have e:captured.toList.map s2.val=captured.toList.map s1.val:=ZH λx hx=>hv x (Array.mem_append.2 (.inr (Array.mem_toList_iff.1 hx)))
  cases fn <;> simp only [e]
 case slice t x lo hi mx =>
  have e1:s2.val x=s1.val x:=hv x (by simp)
  have e2:lo.map s2.val=lo.map s1.val:=by cases lo with | none=>rfl | some y=>simp [hv y (by simp)]
  have e3:hi.map s2.val=hi.map s1.val:=by cases hi with | none=>rfl | some y=>simp [hv y (by simp)]
  cases mx <;> simp only [e1,e2,e3]
 case makeSlice t l c =>
  cases l <;> cases c <;> cases dst <;> simp only [hv _ (List.mem_toArray.2 (YR ..))]
 case call c =>
  have hargs:∀ x ∈ c.args.toList,s2.val x=s1.val x:=λx hx=>hv x (by simp [Call.operands];exact .inr (by simpa using hx))
  cases hc:c.callee with
  | value f=>rfl
  | invoke r m=>rfl
  | builtin b =>
   generalize c.args.toList=l at hargs;rcases l with _ | ⟨x,_ | ⟨y,_ | ⟨z,r⟩⟩⟩
   . cases b <;> rfl
   . have h:=hargs x (by simp)
     generalize c.argTypes.toList=m
     cases b <;> first | rfl | (rcases m with _ | ⟨t,_ | ⟨t',r⟩⟩ <;> first | rfl | exact XU (Kq T t) h)
   . have h:=hargs x (by simp)
     have h':=hargs y (by simp)
     generalize c.argTypes.toList=m
     cases b
     case append=>rcases m with _ | ⟨t,_ | ⟨t',_ | ⟨t'',r⟩⟩⟩ <;> cases dst <;> first | rfl | (simp only [h,h'];done)
     case max=>simp only [h,h']
     case min=>simp only [h,h']
     all_goals rfl
   . cases b <;> rfl
 all_goals (first | rfl | (simp_all;done))
theorem Am2 {o:Oper} {D:Fn} {s1 s2:St} (hb:s2.boxes=s1.boxes) (hn:s2.nt=s1.nt) (hv:∀ x ∈ o.op.operands,s2.val x=s1.val x):quiet P T o D s2=quiet P T o D s1:=by
 unfold quiet;rw [Aeq hb hv]
 cases hD:D.call with
 | none=>rfl
 | some cd =>
  cases hop:o.op with
  | call c =>
   have hbx:s2.box=s1.box:=by funext k;simp only [St.box,hb]
   have hl:s2.lendable=s1.lendable:=by funext k;simp only [St.lendable,hbx]
   cases hc:c.callee with
   | value f =>
    have hf:s2.val f=s1.val f:=hv f (by simp [hop,Op.operands,Call.operands,hc])
    have hargs:c.args.toList.map s2.val=c.args.toList.map s1.val:=ZH λx hx=>hv x (by simp [hop,Op.operands,Call.operands,hc];exact .inr (by simpa using hx))
    simp only [hc,hf,hargs,hbx,hl,hn]
   | _=>simp only [hc]
  | _=>rfl
end Go.Ev

/- DERIVED. Regions that draw their order. -/
namespace Go.Ev
open Go
variable {P:Program} {T:Ty}
def Kn (ops:List Oper):Nat->Nat->Nat->Bool
 | 0,_,_=>false
 | n+1,j,i=>match ops[i]? with
  | some o=>o.after.toList.any λe=>Region.binds .any e&&(Nat.beq e.on j || Kn ops n j e.on)
  | none=>false
def Hk (ops:Array Oper) (L:Nat->Bool):Prop:=∀ (j:Nat) (o:Oper),L j=true->ops[j]? = some o->∀ e ∈ o.after,Region.binds .any e=true->L e.on=true
theorem Nn {ops:Array Oper} {L:Nat->Bool} (hc:Hk ops L):∀ (n:Nat) {j i:Nat} {o:Oper},ops[i]? = some o->(∀ e ∈ o.after,Region.binds .any e=true->L e.on=true)->Kn ops.toList n j i=true->L j=true
 | 0,_,_,_,_,_,h=>by cases h
 | n+1,j,i,o,hi,hd,h=>by
  have hi':ops.toList[i]? = some o:=by simpa using hi
  simp only [Kn,hi'] at h;obtain ⟨e,he,hb⟩:=ZZ.1 h;simp only [QE,XN] at hb
  have hL:=hd e (by simpa using he) hb.1
  rcases hb.2 with h1 | h1
  . rw [<- QC h1];exact hL
  . cases hoe:ops[e.on]? with
    | none =>
     cases n with
     | zero=>cases h1
     | succ n =>
      have:ops.toList[e.on]? = none:=by simpa using hoe
      simp [Kn,this] at h1
    | some oe=>exact Nn hc n hoe (hc e.on oe hL hoe) h1
def Uv (ops:Array Oper) (oi oj:Oper):Bool :=
 match oj.dst with
 | some d=>(oi.looksAt ops).any (Nat.beq d) || (match oi.dst with | some d'=>Nat.beq d d' | none=>false)
 | none=>false
def Av8 (ops:Array Oper) (i j:Nat):Bool :=
 match ops.toList[i]?,ops.toList[j]? with
 | some oi,some oj=>Nat.beq i j || !Uv ops oi oj || (bif Nat.blt j i then Kn ops.toList ops.size j i else Kn ops.toList ops.size i j)
 | _,_=>false
def Ed (ops:Array Oper) (m:Nat):Bool :=
 Nat.ble m ops.size&&((List.range m).all λi=>(List.range m).all λj=>Av8 ops i j) &&
 ((List.range ops.size).all λi=>Nat.blt i m || (List.range i).all λj=>Kn ops.toList ops.size j i) &&
 ((List.range ops.size).all λi=>match ops.toList[i]? with
  | some o=>o.after.toList.all λe=>!Region.binds .any e || Nat.blt e.on i
  | none=>true)
def Jm (L:Nat->Bool):List (Nat × Nat × S)->List (Nat × S)->List (Nat × S)
 | [],sl=>sl
 | (i,t,x)::r,sl=>if L i then Ak t x (Jm L r sl) else Jm L r sl
def St.over (s:St) (L:Nat->Bool) (xs:List (Nat × Nat × S)):St:={ s with slots:=Jm L xs s.slots }
def Sj (P:Program) (T:Ty) (ops:List Oper) (o:Oper) (D:Fn) (s:St):Option (S × List Prop) :=
 match H8 s ops o with
 | some true=>quiet P T o D s
 | some false=>some (.tup [],[])
 | none=>none
def Fz (P:Program) (T:Ty) (K:Am) (ops:List Oper) (Ds:List (Nat × Fn)):List (Nat × Oper)->List (Nat × Nat × S)->St->Option (List (Nat × Nat × S) × St × List Prop)
 | [],xs,s=>some (xs,s,[])
 | (i,o)::r,xs,s=>match o.dst with
  | some t=>match Sj P T ops o ((A1 i Ds).getD {}) s with
   | some (x,p)=>bif Nat.blt t K.N then (match Fz P T K ops Ds r ((i,t,x)::xs) { s with slots:=Ak t x s.slots } with
    | some (ys,s',q)=>some (ys,s',p++q)
    | none=>none) else none
   | none=>none
  | none=>none
def Kk (P:Program) (T:Ty) (K:Am) (ops:Array Oper) (s:St):List (Nat × Nat × S)->Prop
 | []=>True
 | (i,t,x)::r=>i=r.length/\(∃ (o:Oper) (D:Fn) (p:List Prop),ops[i]? = some o/\o.dst=some t/\t<K.N/\Sj P T ops.toList o D (s.over (λ_=>true) r)=some (x,p) /\ ∀ q ∈ p,q)/\Kk P T K ops s r
theorem A10 {K:Am} {ops:Array Oper} {Ds:List (Nat × Fn)} {s0:St}:∀ (l:List (Nat × Oper)) (xs ys:List (Nat × Nat × S)) (s':St) (obs:List Prop),Kk P T K ops s0 xs->(∀ (k:Nat) (p:Nat × Oper),l[k]? = some p->p.1=xs.length+k/\ops[p.1]? = some p.2) ->
  Fz P T K ops.toList Ds l xs (s0.over (λ_=>true) xs)=some (ys,s',obs)->(∀ p ∈ obs,p)->Kk P T K ops s0 ys/\ys.length=xs.length+l.length/\s'=s0.over (λ_=>true) ys
 | [],xs,ys,s',obs,hg,_,h,_=>by
  simp only [Fz,QD,QI] at h;obtain ⟨rfl,rfl,_⟩:=h
  exact ⟨hg,by simp,rfl⟩
 | (i,o)::r,xs,ys,s',obs,hg,hl,h,ho=>by
  simp only [Fz] at h;split at h
  . rename_i t hdst;split at h
    . rename_i x p hq
      cases hN:Nat.blt t K.N with
      | false=>rw [hN] at h;cases h
      | true =>
       rw [hN] at h;simp only [cond] at h;split at h
       . rename_i zs s2 q hrest;simp only [QD,QI] at h;obtain ⟨rfl,rfl,rfl⟩:=h;have h0:=hl 0 (i,o) rfl;simp only [KF] at h0
         have hg':Kk P T K ops s0 ((i,t,x)::xs):=⟨h0.1,⟨o,_,p,h0.2,hdst,by simpa [ZP] using hN,hq,λy hy=>ho y (QF.2 (.inl hy))⟩,hg⟩
         obtain ⟨g1,g2,g3⟩:=A10 r ((i,t,x)::xs) zs s2 q hg' (λk p hk=>by
          have:=hl (k+1) p (by simpa using hk)
          exact ⟨by simp;omega,this.2⟩) (by
           have e:s0.over (λ_=>true) ((i,t,x)::xs)={ s0.over (λ_=>true) xs with slots:=Ak t x (s0.over (λ_=>true) xs).slots }:=rfl
           rw [e];exact hrest) (λy hy=>ho y (QF.2 (.inr hy)))
         exact ⟨g1,by simp at g2 ⊢;omega,g3⟩
       . cases h
    . cases h
  . cases h
theorem Kk.idx {K:Am} {ops:Array Oper} {s:St}:∀ {xs:List (Nat × Nat × S)},Kk P T K ops s xs->∀ {e:Nat × Nat × S},e ∈ xs->e.1<xs.length /\ ∃ o,ops[e.1]? = some o/\o.dst=some e.2.1
 | [],_,_,h=>by cases h
 | (i,t,x)::r,⟨h1,⟨o,_,_,h2,h3,_⟩,h4⟩,e,h=>by
  rcases QU.1 h with rfl | h
  . exact ⟨by simp [h1],o,h2,h3⟩
  . obtain ⟨h5,h6⟩:=Kk.idx h4 h
    exact ⟨by simp;omega,h6⟩
theorem Kk.at {K:Am} {ops:Array Oper} {s:St} {i:Nat}:∀ {xs:List (Nat × Nat × S)},Kk P T K ops s xs->i<xs.length->∃ pre t x r,xs=pre++(i,t,x)::r/\r.length=i/\Kk P T K ops s ((i,t,x)::r) /\ ∀ e ∈ pre,i<e.1
 | [],_,h=>by simp at h
 | (j,t,x)::r,hg,h=>by
  by_cases e:i=r.length
  . subst e;have:=hg.1;subst this
    exact ⟨[],t,x,r,rfl,rfl,hg,λe he=>by cases he⟩
  . obtain ⟨pre,t',x',r',h1,h2,h3,h4⟩:=Kk.at (i:=i) (xs:=r) hg.2.2 (by simp at h;omega)
    refine ⟨(j,t,x)::pre,t',x',r',by rw [h1];rfl,h2,h3,λe he=>?_⟩
    rcases QU.1 he with rfl | he
    . have:=hg.1;simp at h ⊢;omega
    . exact h4 e he
theorem It {L:Nat->Bool} {u:Nat} {sl:List (Nat × S)} {ys:List (Nat × Nat × S)}:∀ {pre:List (Nat × Nat × S)},(∀ e ∈ pre,L e.1=true->e.2.1 ≠ u)->A1 u (Jm L (pre++ys) sl)=A1 u (Jm L ys sl)
 | [],_=>rfl
 | (i,t,x)::r,h=>by
  simp only [YI,Jm];split
  . rename_i hL
    rw [Ac _ _ (λe=>h (i,t,x) (by simp) hL e.symm)]
    exact It λe he=>h e (by simp [he])
  . exact It λe he=>h e (by simp [he])
theorem Fi {L L':Nat->Bool} {u:Nat} {sl:List (Nat × S)}:∀ {r:List (Nat × Nat × S)},(∀ e ∈ r,e.2.1=u->L e.1=L' e.1)->A1 u (Jm L r sl)=A1 u (Jm L' r sl)
 | [],_=>rfl
 | (i,t,x)::r,h=>by
  have ih:A1 u (Jm L r sl)=A1 u (Jm L' r sl):=Fi λe he=>h e (by simp [he])
  simp only [Jm];by_cases e:t=u
  . have:=h (i,t,x) (by simp) e
    simp only at this;rw [this];split
    . subst e;rw [A9,A9]
    . exact ih
  . split
    . rw [Ac _ _ (Ne.symm e)];split
      . rw [Ac _ _ (Ne.symm e)];exact ih
      . exact ih
    . split
      . rw [Ac _ _ (Ne.symm e)];exact ih
      . exact ih
end Go.Ev

/- DERIVED. Regions that draw their order: any order comes to the same. -/
namespace Go.Ev
open Go
variable {P:Program} {T:Ty}
theorem Ae3 {ops:Array Oper} {m:Nat} (hok:Ed ops m=true) {i j:Nat} {oi oj:Oper} (hi:i<m) (hj:j<m) (hoi:ops[i]? = some oi) (hoj:ops[j]? = some oj) (hne:i ≠ j) (hc:Uv ops oi oj=true) :
  if j<i then Kn ops.toList ops.size j i=true else Kn ops.toList ops.size i j=true:=by
 simp only [Ed,QE] at hok;have h1:=QM.1 hok.1.1.2 i (YN.2 hi);have h2:=QM.1 h1 j (YN.2 hj)
 have hoi':ops.toList[i]? = some oi:=by simpa using hoi
 have hoj':ops.toList[j]? = some oj:=by simpa using hoj
 have hb:Nat.beq i j=false:=by cases e:Nat.beq i j with | false=>rfl | true=>exact absurd (QC e) hne
 simp only [Av8,hoi',hoj',hb,hc,YO,ZR] at h2;by_cases e:j<i
 . have:Nat.blt j i=true:=by simpa [ZP] using e
   rw [this] at h2;rw [QL e];exact h2
 . have : Nat.blt j i = false := by
    cases e':Nat.blt j i with | false=>rfl | true=>exact absurd (by simpa [ZP] using e') e
   rw [this] at h2;rw [QJ e];exact h2
theorem A7u {ops:Array Oper} {oi oj:Oper} {u:Nat} (hd:oj.dst=some u) (hu:u ∈ oi.looksAt ops):Uv ops oi oj=true:=by
 simp only [Uv,hd,XN];exact .inl (ZZ.2 ⟨u,hu,XF u⟩)
theorem B1t {ops:Array Oper} {oi oj:Oper} {u:Nat} (hd:oj.dst=some u) (hi:oi.dst=some u):Uv ops oi oj=true:=by
 simp only [Uv,hd,hi,XN];exact .inr (XF u)
theorem St.val_look {s1 s2:St} {x:Operand} (h:∀ u,x = .tmp u->A1 u s2.slots=A1 u s1.slots):s2.val x=s1.val x:=by
 cases x with
 | tmp u=>simp only [St.val,h u rfl]
 | const v=>cases v <;> rfl
 | global=>rfl
 | func=>rfl
theorem Aqo {ops:Array Oper} {o:Oper} {D:Fn} {s1 s2:St} (hb:s2.boxes=s1.boxes) (hn:s2.nt=s1.nt) (hu:∀ u ∈ o.looksAt ops,A1 u s2.slots=A1 u s1.slots):Sj P T ops.toList o D s2=Sj P T ops.toList o D s1:=by
 have hv:∀ x ∈ o.op.operands,s2.val x=s1.val x:=λx hx=>St.val_look λu e=>hu u (by
  subst e
  exact List.mem_append_left _ (List.mem_filterMap.2 ⟨.tmp u,by simpa using hx,rfl⟩))
 have hg:H8 s2 ops.toList o=H8 s1 ops.toList o:=by
  unfold H8
  cases hgd:o.guard with
  | none=>rfl
  | some p =>
   obtain ⟨j,want⟩:=p;simp only
   cases hj:ops.toList[j]? with
   | none=>rfl
   | some q =>
    simp only
    cases hd:q.dst with
    | none=>rfl
    | some t =>
     simp only
     have:A1 t s2.slots=A1 t s1.slots:=hu t (by
      unfold Oper.looksAt;refine List.mem_append_right _ ?_
      have hj':ops[j]? = some q:=by simpa using hj
      simp [hgd,hj',hd])
     rw [this]
 unfold Sj;rw [hg,Am2 hb hn hv]
theorem B30 (hT:Aw P T) {K:Am} {ops:Array Oper} {m:Nat} (hok:Ed ops m=true) {s:St} {xs:List (Nat × Nat × S)} (hg:Kk P T K ops s xs) (hm:xs.length=m) {L:Nat->Bool} (hcl:Hk ops L) {i:Nat} {o:Oper} (him:i<m) (hoi:ops[i]? = some o)
  (hLi:L i=false) (hdep:∀ e ∈ o.after,Region.binds .any e=true->L e.on=true)
  {Γ:Ctx} {w:World} {E:Env} {a:Act} {ro:Option Nat} {n:Nat} {X:Act->Prop} (hK:Γ.K=K) (hX:∀ (i:Nat) (o:Oper),ops[i]? = some o->∀ b v,X b->X (b.put o.dst v)) (hd:X a) (hs:A8 Γ w E (s.over L xs) a.tmps) {Q:Exit->Act->World->Prop} {next:Act->World->Prop}
  (hn:∀ a' w',X a'->(∃ E',A8 Γ w' E' (s.over (λj=>Nat.beq j i || L j) xs) a'.tmps)->next a' w'):wpOpIn (FR ro) n P ops Q i next a w:=by
 obtain ⟨pre,t,x,r,rfl,hrl,hgi,hpre⟩:=hg.at (i:=i) (by omega)
 obtain ⟨_,⟨o',D,p,ho',hdst,htN,hq,hp⟩,hgr⟩:=hgi;rw [hoi] at ho';obtain rfl:=QA ho'
 have later:∀ e ∈ pre,∀ u,e.2.1=u->(u ∈ o.looksAt ops \/ o.dst=some u)->L e.1=true->False:=by
  intro e he u hu hor hL
  obtain ⟨h1,oe,h2,h3⟩:=hg.idx (e:=e) (by simp [he])
  have hlt:=hpre e he;rw [hu] at h3
  have hc:Uv ops o oe=true:=by
   rcases hor with hor | hor
   . exact A7u h3 hor
   . exact B1t h3 hor
  have:=Ae3 hok him (by omega) hoi h2 (by omega) hc
  rw [QJ (by omega)] at this
  have hLi':=Nn hcl _ h2 (hcl _ _ hL h2) this;rw [hLi] at hLi'
  cases hLi'
 have earlier:∀ e ∈ r,∀ u,e.2.1=u->u ∈ o.looksAt ops->L e.1=true:=by
  intro e he u hu hor
  obtain ⟨h1,oe,h2,h3⟩:=hg.idx (e:=e) (by simp [he])
  obtain ⟨h4,_⟩:=hgr.idx he;rw [hu] at h3
  have:=Ae3 hok him (by omega) hoi h2 (by omega) (A7u h3 hor)
  rw [QL (by omega)] at this
  exact Nn hcl _ hoi hdep this
 have hlook:∀ u ∈ o.looksAt ops,A1 u (s.over L (pre++(i,t,x)::r)).slots=A1 u (s.over (λ_=>true) r).slots:=by
  intro u hu;show A1 u (Jm L (pre++(i,t,x)::r) s.slots)=A1 u (Jm _ r s.slots);rw [It λe he hL hne=>later e he u hne (.inl hu) hL];simp only [Jm,hLi,YE,if_false];exact Fi λe he hne=>earlier e he u hne hu
 have hq':Sj P T ops.toList o D (s.over L (pre++(i,t,x)::r))=some (x,p):=(Aqo (s1:=s.over (λ_=>true) r) (s2:=s.over L (pre++(i,t,x)::r)) rfl rfl hlook).trans hq
 have fin:∀ a' w',X a'->(∃ E',A8 Γ w' E' { s.over L (pre++(i,t,x)::r) with slots:=Ak t x (s.over L (pre++(i,t,x)::r)).slots } a'.tmps)->next a' w':=by
  rintro a' w' hd' ⟨E',hs'⟩
  refine hn a' w' hd' ⟨E',hs'.less λu y hy=>?_⟩
  have hy':A1 u (Jm (λj=>Nat.beq j i || L j) (pre++(i,t,x)::r) s.slots)=some y:=hy
  by_cases e:u=t
  . subst e
    rw [It λe he hL hne=>by
     simp only [XN] at hL;rcases hL with hL | hL
     . have:=QC hL;have:=hpre e he;omega
     . exact later e he u hne (.inr hdst) hL] at hy'
    simp only [Jm,XF,Qav,if_true,A9] at hy';rw [<- hy'];exact A9 _ _ _
  . rw [<- hy'];rw [Ac _ _ e];refine Fi λe' he' hne=>?_
    have:e'.1 ≠ i:=by
     intro heq;rcases QF.1 he' with h | h
     . have:=hpre e' h;omega
     . rcases QU.1 h with rfl | h
       . exact e hne.symm
       . obtain ⟨h4,_⟩:=hgr.idx h;omega
    have hb:Nat.beq e'.1 i=false:=by cases h:Nat.beq e'.1 i with | false=>rfl | true=>exact absurd (QC h) this
    show L e'.1=(Nat.beq e'.1 i || L e'.1);rw [hb];rfl
 have hput:(s.over L (pre++(i,t,x)::r)).putD K o.dst x=some { s.over L (pre++(i,t,x)::r) with slots:=Ak t x (s.over L (pre++(i,t,x)::r)).slots }:=by
  have:Nat.blt t K.N=true:=by simpa [ZP] using htN
  simp only [St.putD,hdst,this,cond]
 unfold Go.wpOpIn;rw [hoi];simp only;unfold Sj at hq';split at hq'
 . rename_i hgd;rw [Fp hs hgd];exact Av3 hT hq' hp hput Γ w E a ro n X hK (hX i o hoi) hd hs _ Q fin
 . rename_i hgd;rw [Fp hs hgd];simp only [QD,QI] at hq';obtain ⟨rfl,_⟩:=hq';obtain ⟨hs3,_⟩:=Gi hK hs (v:=Go.undef) Rs.undef hput;simp only [YE,if_false];exact ⟨λ_ _=>trivial,fin _ _ (hX i o hoi _ _ hd) ⟨E,hs3⟩⟩
 . cases hq'
end Go.Ev

/- DERIVED. Regions that draw their order: the whole region. -/
namespace Go.Ev
open Go
variable {P:Program} {T:Ty}
theorem Q0 {j i:Nat} (h:¬ j<i):Nat.blt j i=false:=by
 cases e:Nat.blt j i with
 | false=>rfl
 | true=>exact absurd (by simpa [ZP] using e) h
def Bp (listed:Array Bool) (j:Nat):Bool:=listed.getD j false
theorem Yr {listed:Array Bool} {i:Nat} (hi:i<listed.size) (j:Nat):Bp (listed.setIfInBounds i true) j=(Nat.beq j i || Bp listed j):=by
 unfold Bp;by_cases e:j=i
 . subst e;simp [hi]
 . have hb:Nat.beq j i=false:=by cases h:Nat.beq j i with | false=>rfl | true=>exact absurd (QC h) e
   rw [hb,YO];exact getD_set_ne false (Ne.symm e)
theorem Aqv {listed:Array Bool} {j:Nat} (h:listed.getD j true=false):j<listed.size/\Bp listed j=false:=by
 rcases XE j listed.size with h' | h'
 . refine ⟨h',?_⟩;unfold Bp;simp [h'] at h ⊢;exact h
 . simp [Array.getElem?_eq_none h'] at h
theorem Lp {listed:Array Bool} {j:Nat} (h':j<listed.size) (h:Bp listed j=false):listed.getD j true=false:=by
 unfold Bp at h;simp [h'] at h ⊢;exact h
theorem H3 {ops:Array Oper} {listed:Array Bool} {i:Nat} (h:i ∈ Region.ready .any ops listed):i<listed.size/\Bp listed i=false /\ ∃ o,ops[i]? = some o /\ ∀ e ∈ o.after,Region.binds .any e=true->Bp listed e.on=true:=by
 obtain ⟨h0,o,ho,hall⟩:=mem_ready.1 h;obtain ⟨h1,h2⟩:=Aqv h0;exact ⟨h1,h2,o,ho,hall⟩
theorem Uu {ops:Array Oper} {L L':Nat->Bool} {i:Nat} {o:Oper} (hL:∀ j,L' j=(Nat.beq j i || L j)) (hc:Hk ops L) (hi:ops[i]? = some o) (hd:∀ e ∈ o.after,Region.binds .any e=true->L e.on=true):Hk ops L':=by
 intro j o' hj hoj e he hb;rw [hL,XN] at hj ⊢;rcases hj with hj | hj
 . have:=QC hj;subst this;rw [hi] at hoj;obtain rfl:=QA hoj;exact .inr (hd e he hb)
 . exact .inr (hc j o' hj hoj e he hb)
theorem Av9 (hT:Aw P T) {K:Am} {ops:Array Oper} {D:Fn} {i:Nat} {o:Oper} {s s0 s1:St} {u p:List Prop} (hi:ops[i]? = some o) (hfz:Eu D.fz s=some (s0,u)) (hstep:Yl P T K ops.toList o D s0=some (s1,p)) (hu:∀ x ∈ u,x) (hp:∀ x ∈ p,x)
  {Γ:Ctx} {w:World} {E:Env} {a:Act} {ro:Option Nat} {n:Nat} {X:Act->Prop} (hK:Γ.K=K) (hX:∀ (i:Nat) (o:Oper),ops[i]? = some o->∀ b v,X b->X (b.put o.dst v)) (hd:X a) (hs:A8 Γ w E s a.tmps) {Q:Exit->Act->World->Prop} {next:Act->World->Prop}
  (hn:∀ a' w',X a'->(∃ E',A8 Γ w' E' s1 a'.tmps)->next a' w'):wpOpIn (FR ro) n P ops Q i next a w:=by
 obtain ⟨E0,hs⟩:=Dv _ hs hfz hu;unfold Go.wpOpIn;rw [hi];simp only;unfold Yl at hstep;split at hstep
 . rename_i hg;rw [Fp hs hg];exact Cv hT hstep hp Γ w E0 a ro n X hK (hX i o hi) hd hs _ Q hn
 . rename_i hg;rw [Fp hs hg];simp only [QB,QI] at hstep;obtain ⟨s3,hput,rfl,rfl⟩:=hstep;obtain ⟨hs3,_⟩:=Gi hK hs (v:=Go.undef) Rs.undef hput;simp only [YE,if_false];exact ⟨λ_ _=>trivial,hn _ _ (hX i o hi _ _ hd) ⟨E0,hs3⟩⟩
 . cases hstep
theorem Adz {ops:Array Oper} {m:Nat} (hok:Ed ops m=true) {i:Nat} {o:Oper} (hi:ops[i]? = some o):∀ e ∈ o.after,Region.binds .any e=true->e.on<i:=by
 intro e he hb;simp only [Ed,QE] at hok;have hlt:=(ZI.1 hi).1;have h1:=QM.1 hok.2 i (YN.2 hlt)
 have hi':ops.toList[i]? = some o:=by simpa using hi
 simp only [hi'] at h1
 have h2:=QM.1 h1 e (by simpa using he)
 rw [hb] at h2;simpa [ZP] using h2
theorem Afm {ops:Array Oper} {m:Nat} (hok:Ed ops m=true) {i j:Nat} (hi:i<ops.size) (hm:m<=i) (hj:j<i):Kn ops.toList ops.size j i=true:=by
 simp only [Ed,QE] at hok;have h1:=QM.1 hok.1.2 i (YN.2 hi)
 have:Nat.blt i m=false:=by cases e:Nat.blt i m with | false=>rfl | true=>exact absurd (by simpa [ZP] using e) (Nat.not_lt.2 hm)
 rw [this,YO] at h1;exact QM.1 h1 j (YN.2 hj)
theorem Sa (hT:Aw P T) {K:Am} {ops:Array Oper} {m:Nat} (hok:Ed ops m=true) {Ds:List (Nat × Fn)} {Γ:Ctx} {Q:Exit->Act->World->Prop} {s2:St} {ro:Option Nat} {n:Nat} {X:Act->Prop} (hK:Γ.K=K)
  (hX:∀ (i:Nat) (o:Oper),ops[i]? = some o->∀ b v,X b->X (b.put o.dst v)) (hQ:∀ a' w',X a'->(∃ E',A8 Γ w' E' s2 a'.tmps)->Q .normal a' w'):∀ (l:List (Nat × Oper)) (k:Nat) (listed:Array Bool) (s:St) (obs:List Prop) (a:Act) (w:World) (E:Env),m<=k->k+l.length=ops.size->listed.size=ops.size ->
  (∀ (i:Nat) (p:Nat × Oper),l[i]? = some p->p.1=k+i/\ops[p.1]? = some p.2)->(∀ j,j<ops.size->Bp listed j=Nat.blt j k)->Hk ops (Bp listed)->Dd P T K ops.toList Ds l s=some (s2,obs)->(∀ p ∈ obs,p) ->
  X a->A8 Γ w E s a.tmps->wpAnyIn (FR ro) n P .any ops Q l.length listed a w
 | [],k,listed,s,obs,a,w,E,hmk,hkl,hsz,hl,hL,hcl,h,_,hd,hs=>by
  simp only [Dd,QD,QI] at h;obtain ⟨rfl,_⟩:=h;refine ⟨?_,hQ a w hd ⟨E,hs⟩⟩;refine List.eq_nil_iff_forall_not_mem.2 λi hi=>?_;obtain ⟨h1,h2,_⟩:=H3 hi
  rw [hL i (by omega)] at h2
  simp at hkl
  have:Nat.blt i k=true:=by simp [ZP];omega
  rw [this] at h2;cases h2
 | (i0,o)::r,k,listed,s,obs,a,w,E,hmk,hkl,hsz,hl,hL,hcl,h,ho,hd,hs=>by
  simp only [ZC] at hkl;obtain ⟨hi0,hoi⟩:=hl 0 (i0,o) rfl;simp only [KF] at hi0 hoi;subst hi0
  have hLk:Bp listed i0=false:=by rw [hL i0 (by omega)];exact Q0 (Nat.lt_irrefl _)
  have hin:i0 ∈ Region.ready .any ops listed:=mem_ready.2 ⟨Lp (by omega) hLk,o,hoi,λe he hb=>by
   have:=Adz hok hoi e he hb
   have h':=hL e.on (by omega)
   unfold Bp at h'
   rw [h'];simpa [ZP] using this⟩
  simp only [Dd] at h;split at h
  . rename_i s0 u hfz;split at h
    . rename_i s1 p hstep;split at h
      . rename_i s3 q hrest;simp only [QD,QI] at h;obtain ⟨rfl,rfl⟩:=h
        refine ⟨λe=>(by rw [e] at hin;cases hin),λi hi=>?_⟩
        obtain ⟨h1,h2,oi,hoi',hdep⟩:=H3 hi
        have hik:i=i0:=by
         rcases JR i i0 with h' | h' | h'
         . rw [hL i (by omega)] at h2
           have:Nat.blt i i0=true:=by simp [ZP];omega
           rw [this] at h2;cases h2
         . exact h'
         . have:=Nn hcl _ hoi' hdep (Afm hok (by omega) (by omega) h')
           rw [hLk] at this;cases this
        subst hik;refine Av9 hT hoi hfz hstep (λx hx=>ho x (QF.2 (.inl hx))) (λx hx=>ho x (QF.2 (.inr (QF.2 (.inl hx))))) hK hX hd hs ?_
        rintro a' w' hd' ⟨E',hs'⟩
        refine Sa hT hok hK hX hQ r (i+1) _ s1 q a' w' E' (by omega) (by omega) (by simpa using hsz) (λj p hj=>?_) (λj hj=>?_) (Uu (Yr (by omega)) hcl hoi' hdep) hrest (λx hx=>ho x (QF.2 (.inr (QF.2 (.inr hx))))) hd' hs'
        . have:=hl (j+1) p (by simpa using hj)
          exact ⟨by omega,this.2⟩
        . rw [Yr (by omega),hL j hj]
          cases hb:Nat.beq j i with
          | true=>have:=QC hb;subst this;simp [ZP]
          | false =>
           have hne:j ≠ i:=λe=>by subst e;simp at hb
           rw [YO];by_cases e:j<i
           . have a1:Nat.blt j i=true:=by simpa [ZP] using e
             have a2:Nat.blt j (i+1)=true:=by simp [ZP];omega
             rw [a1,a2]
           . have a1:Nat.blt j i=false:=Q0 e
             have a2:Nat.blt j (i+1)=false:=Q0 (by omega)
             rw [a1,a2]
      . cases h
    . cases h
  . cases h
end Go.Ev

/- DERIVED. Regions that draw their order: the beginning, and the whole. -/
namespace Go.Ev
open Go
variable {P:Program} {T:Ty}
def Ij (L:Nat->Bool) (l:List Nat):Nat:=(l.filter λj=>!L j).length
theorem Afi {L L':Nat->Bool}:∀ {l:List Nat},(∀ j ∈ l,L j=L' j)->Ij L l=Ij L' l
 | [],_=>rfl
 | j::r,h=>by
  have h1:=h j (by simp)
  have h2:=Afi (l:=r) λk hk=>h k (by simp [hk])
  unfold Ij at h2 ⊢;simp only [YU,h1];split
  . simp [h2]
  . exact h2
theorem A8c {L L':Nat->Bool} {i:Nat} (hL:∀ j,L' j=(Nat.beq j i || L j)) (hi:L i=false):∀ {l:List Nat},l.Nodup->i ∈ l->Ij L' l+1=Ij L l
 | [],_,h=>by cases h
 | j::r,hn,h=>by
  have hn':=KC.1 hn;by_cases e:j=i
  . subst e
    have h1:L' j=true:=by rw [hL,XF];rfl
    have h2:Ij L' r=Ij L r:=Afi λk hk=>by
     rw [hL]
     have:Nat.beq k j=false:=by cases e:Nat.beq k j with | false=>rfl | true=>have:=QC e;subst this;exact absurd hk hn'.1
     rw [this,YO]
    unfold Ij at h2 ⊢;simp [h1,hi,h2]
  . have hm:i ∈ r:=by rcases QU.1 h with e' | h;exact absurd e'.symm e;exact h
    have ih:=A8c hL hi (l:=r) hn'.2 hm
    have h1:L' j=L j:=by
     rw [hL]
     have:Nat.beq j i=false:=by cases e':Nat.beq j i with | false=>rfl | true=>exact absurd (QC e') e
     rw [this,YO]
    unfold Ij at ih ⊢;simp only [YU,h1];split
    . simp;omega
    . exact ih
theorem An4 {L:Nat->Bool} {i:Nat} (hi:L i=false) {l:List Nat} (h:i ∈ l):0<Ij L l:=by
 unfold Ij
 exact List.length_pos_of_mem (Qab.2 ⟨h,by simp [hi]⟩)
theorem Y6 {L:Nat->Bool} {n:Nat} (h:∃ i,i<n/\L i=false):∃ i,i<n/\L i=false /\ ∀ j,j<i->L j=true:=by
 induction n with
 | zero=>obtain ⟨i,hi,_⟩:=h;omega
 | succ n ih =>
  by_cases h':∃ i,i<n/\L i=false
  . obtain ⟨i,h1,h2,h3⟩:=ih h'
    exact ⟨i,by omega,h2,h3⟩
  . obtain ⟨i,h1,h2⟩:=h
    have all:∀ j,j<n->L j=true:=λj hj=>by
     cases e:L j with | true=>rfl | false=>exact absurd ⟨j,hj,e⟩ h'
    have:i=n:=by
     rcases XE i n with h3 | h3
     . rw [all i h3] at h2;cases h2
     . omega
    subst this;exact ⟨i,h1,h2,all⟩
theorem B26 (hT:Aw P T) {K:Am} {ops:Array Oper} {m:Nat} (hok:Ed ops m=true) (hmn:m<=ops.size) {Ds:List (Nat × Fn)} {Γ:Ctx} {Q:Exit->Act->World->Prop} {s s2:St} {xs:List (Nat × Nat × S)} {l:List (Nat × Oper)} {obs:List Prop} {ro:Option Nat} {n:Nat} {X:Act->Prop} (hK:Γ.K=K)
  (hX:∀ (i:Nat) (o:Oper),ops[i]? = some o->∀ b v,X b->X (b.put o.dst v)) (hQ:∀ a' w',X a'->(∃ E',A8 Γ w' E' s2 a'.tmps)->Q .normal a' w') (hg:Kk P T K ops s xs) (hxm:xs.length=m) (hlm:m+l.length=ops.size) (hl:∀ (i:Nat) (p:Nat × Oper),l[i]? = some p->p.1=m+i/\ops[p.1]? = some p.2)
  (hrun:Dd P T K ops.toList Ds l (s.over (λ_=>true) xs)=some (s2,obs)) (ho:∀ p ∈ obs,p):∀ (fuel:Nat) (listed:Array Bool) (a:Act) (w:World) (E:Env),listed.size=ops.size->Ij (Bp listed) (List.range ops.size)=fuel ->
  Hk ops (Bp listed)->(∀ i,m<=i->i<ops.size->Bp listed i=false)->X a->A8 Γ w E (s.over (Bp listed) xs) a.tmps->wpAnyIn (FR ro) n P .any ops Q fuel listed a w:=by
 intro fuel
 induction fuel with
 | zero =>
  intro listed a w E hsz hf hcl hun hd hs
  have all:∀ j,j<ops.size->Bp listed j=true:=λj hj=>by
   cases e:Bp listed j with
   | true=>rfl
   | false=>have:=An4 e (YN.2 hj);omega
  have hm:m=ops.size:=by
   rcases XE m ops.size with h | h
   . have h1:=hun m (QY _) h;rw [all m h] at h1;cases h1
   . omega
  have hl0:l=[]:=XL (by omega)
  subst hl0
  have hs':A8 Γ w E (s.over (λ_=>true) xs) a.tmps:=hs.less λu x hx=>by
   rw [<- hx]
   exact Fi λe he _=>(all e.1 (by have:=(hg.idx he).1;omega))
  exact Sa hT hok hK hX hQ [] m listed _ obs a w E (QY _) (by simpa using hlm) hsz hl (λj hj=>by rw [all j hj];symm;simp [ZP];omega) hcl hrun ho hd hs'
 | succ fuel ih =>
  intro listed a w E hsz hf hcl hun hd hs;by_cases hall:∀ j,j<m->Bp listed j=true
  . have hs' : A8 Γ w E (s.over (fun _ => true) xs) a.tmps := hs.less fun u x hx => by
     rw [<- hx]
     exact Fi λe he _=>(hall e.1 (by have:=(hg.idx he).1;omega))
    have hlen:l.length=fuel+1:=by
     rw [<- hf]
     have e1:Ij (Bp listed) (List.range ops.size)=((List.range' m (ops.size-m)).length):=by
      have:List.range ops.size=List.range m++List.range' m (ops.size-m):=by
       obtain ⟨k,hk⟩:=Nat.exists_eq_add_of_le hmn;rw [hk,Qak,List.range_eq_range',List.range_eq_range'];simpa using (List.range'_append (s:=0) (m:=m) (n:=k) (step:=1)).symm
      unfold Ij;rw [this,List.filter_append]
      have f1:(List.range m).filter (λj=>!Bp listed j)=[]:=List.filter_eq_nil_iff.2 λj hj=>by simp [hall j (YN.1 hj)]
      have f2:(List.range' m (ops.size-m)).filter (λj=>!Bp listed j)=List.range' m (ops.size-m):=Qaa.2 λj hj=>by
       have:=List.mem_range'_1.1 hj
       simp [hun j (by omega) (by omega)]
      rw [f1,f2];rfl
     rw [e1,List.length_range'];omega
    rw [<- hlen];refine Sa hT hok hK hX hQ l m listed _ obs a w E (QY _) hlm hsz hl (λj hj=>?_) hcl hrun ho hd hs';by_cases e:j<m
    . rw [hall j e];symm;simpa [ZP] using e
    . rw [hun j (by omega) hj];exact (Q0 e).symm
  . have hex : ∃ i, i < m /\ Bp listed i = false := by
     rcases Classical.em (∃ i,i<m/\Bp listed i=false) with h | h
     . exact h
     . exact absurd (λj hj=>by cases e:Bp listed j with | true=>rfl | false=>exact absurd ⟨j,hj,e⟩ h) hall
    obtain ⟨k,hkm,hLk,hless⟩:=Y6 hex
    have hkn:k<ops.size:=by omega
    have hok':ops[k]? = some ops[k]:=Qac hkn
    have hin:k ∈ Region.ready .any ops listed:=mem_ready.2 ⟨Lp (by omega) hLk,_,hok',λe he hb=>hless e.on (Adz hok hok' e he hb)⟩
    refine ⟨λe=>(by rw [e] at hin;cases hin),λi hi=>?_⟩
    obtain ⟨h1,h2,o,hoi,hdep⟩:=H3 hi
    have him:i<m:=by
     rcases XE i m with h | h
     . exact h
     . have:=Nn hcl _ hoi hdep (Afm hok (j:=k) (by omega) h (by omega))
       rw [hLk] at this;cases this
    refine B30 hT hok hg hxm hcl him hoi h2 hdep hK hX hd hs ?_
    rintro a' w' hd' ⟨E',hs'⟩
    have hset:∀ j,Bp (listed.setIfInBounds i true) j=(Nat.beq j i || Bp listed j):=Yr h1
    have hfun:Bp (listed.setIfInBounds i true)=λj=>Nat.beq j i || Bp listed j:=funext hset
    refine ih _ a' w' E' (by simpa using hsz) ?_ (Uu hset hcl hoi hdep) (λj hj hjn=>?_) hd' (by rw [hfun];exact hs')
    . have:=A8c hset h2 Qaq (YN.2 (show i<ops.size by omega))
      omega
    . rw [hset,hun j hj hjn]
      have:Nat.beq j i=false:=by cases e:Nat.beq j i with | false=>rfl | true=>have:=QC e;omega
      rw [this];rfl
def Wd (P:Program) (T:Ty) (K:Am) (ops:Array Oper) (m:Nat) (Ds:List (Nat × Fn)) (fz:List (Nat × V)) (s:St):Option (St × List Prop) :=
 bif Ed ops m then (match Eu fz s with
  | some (s0,u)=>match Fz P T K ops.toList Ds ((A7 ops.toList).take m) [] s0 with
   | some (_,s1,p)=>match Dd P T K ops.toList Ds ((A7 ops.toList).drop m) s1 with
    | some (s2,q)=>some (s2,(P.follows .mixedOrders=true)::(u++(p++q)))
    | none=>none
   | none=>none
  | none=>none) else none
theorem Cu {l:List Oper} {i:Nat} {p:Nat × Oper} (h:(A7 l)[i]? = some p):p.1=i/\l[i]? = some p.2:=by
 simp only [A7,QK,YZ] at h
 cases e:l[i]? with
 | none=>rw [e] at h;cases h
 | some o =>
  rw [e] at h;simp at h;subst h;exact ⟨rfl,rfl⟩
theorem Ag0 (hT:Aw P T) {K:Am} {id m:Nat} {ops:Array Oper} {Ds:List (Nat × Fn)} {fz:List (Nat × V)} {s s':St} {obs:List Prop} (h:Wd P T K ops m Ds fz s=some (s',obs)) (ho:∀ p ∈ obs,p):Code.Den P K (.region id ops true) s .normal s':=by
 unfold Wd at h
 cases hok:Ed ops m with
 | false=>rw [hok] at h;cases h
 | true =>
  rw [hok] at h;simp only [cond] at h;split at h
  . rename_i s0 u hfz;split at h
    . rename_i xs s1 p hpre;split at h
      . rename_i s2 q hrun;simp only [QD,QI] at h;obtain ⟨rfl,rfl⟩:=h
        have hmn:m<=ops.size:=by
         simp only [Ed,QE] at hok;exact ZY hok.1.1.1
        have hlen:(A7 ops.toList).length=ops.size:=by simp [A7]
        obtain ⟨hg,hxl,rfl⟩:=A10 (s0:=s0) ((A7 ops.toList).take m) [] xs s1 p trivial (λk y hk=>by
         rw [XG] at hk;split at hk
         . obtain ⟨h1,h2⟩:=Cu hk;rw [h1]
           exact ⟨by simp,by simpa using h2⟩
         . cases hk) hpre (λx hx=>ho x (ZX _ (QF.2 (.inr (QF.2 (.inl hx))))))
        intro Γ w E a ro n hK _ hs;obtain ⟨E0,hs0⟩:=Dv _ hs hfz (λx hx=>ho x (ZX _ (QF.2 (.inl hx))))
        refine wpIn_region_any (ho _ (by simp)) ?_
        have hs1:A8 Γ { w with drawn:=w.drawn+1 } E0 s0 a.tmps:=hs0.still ⟨rfl,rfl,rfl,QY _,λ_ _ _=>rfl⟩
        have hrep:Bp (Array.replicate ops.size false)=λ_=>false:=by
         funext j;unfold Bp;by_cases e:j<ops.size <;> simp [Array.getD,e]
        have hs2:A8 Γ { w with drawn:=w.drawn+1 } E0 (s0.over (Bp (Array.replicate ops.size false)) xs) a.tmps:=hs1.less λt x hx=>by
         rw [hrep] at hx
         have:∀ ys:List (Nat × Nat × S),Jm (λ_=>false) ys s0.slots=s0.slots:=by
          intro ys
          induction ys with
          | nil=>rfl
          | cons y r ih=>simpa [Jm] using ih
         rw [this] at hx;exact hx
        refine B26 hT hok hmn (X:=λb=>b.defers=a.defers /\ ∀ t,(Code.region id ops true).wr t=false->b.tmps.getD t undef=a.tmps.getD t undef) hK (λi o hi b v hb=>Afc hi hb) (λa' w' hd' he=>⟨rfl,.id hd'.1 hd'.2 he⟩) hg (by simp [hlen] at hxl;omega) (by simp [hlen];omega) (l:=(A7 ops.toList).drop m) (λi y hi=>?_) hrun (λx hx=>ho x (ZX _ (QF.2 (.inr (QF.2 (.inr hx)))))) ops.size _ a _ E0 (by simp) ?_ (λj o hj=>?_) (λi _ _=>by rw [hrep]) ⟨rfl,λ_ _=>rfl⟩ hs2
        . rw [YG] at hi;obtain ⟨h1,h2⟩:=Cu hi;rw [h1]
          exact ⟨rfl,by simpa using h2⟩
        . unfold Ij;rw [hrep];exact (XU List.length (Qaa.2 λ_ _=>rfl)).trans List.length_range
        . rw [hrep] at hj;cases hj
      . cases h
    . cases h
  . cases h
end Go.Ev

/- DERIVED. Forgetting of boxes; the evaluation of code along one path. -/
namespace Go.Ev
open Go
variable {P:Program} {T:Ty}
def C1 {α:Type} (h:Nat):List (Nat × α)->List (Nat × α)
 | []=>[]
 | (j,x)::r=>bif Nat.beq j h then C1 h r else (j,x)::C1 h r
theorem Bj {α:Type} (h:Nat):∀ l:List (Nat × α),A1 h (C1 h l)=none
 | []=>rfl
 | (j,x)::r=>by
  simp only [C1]
  cases e:Nat.beq j h with
  | true=>exact Bj h r
  | false=>simp only [cond,A1,e];exact Bj h r
theorem Az {α:Type} {h k:Nat} (hk:k ≠ h):∀ l:List (Nat × α),A1 k (C1 h l)=A1 k l
 | []=>rfl
 | (j,x)::r=>by
  simp only [C1,A1]
  cases e:Nat.beq j h with
  | true =>
   have:=QC e;subst this
   have hb:Nat.beq j k=false:=by cases e':Nat.beq j k with | false=>rfl | true=>exact absurd (QC e').symm hk
   simp only [cond,hb];exact Az hk r
  | false=>simp only [cond,A1,Az hk r]
def St.delBox (s:St) (h:Nat):Option St :=
 bif Nat.blt h 1000&&s.slots.all (λp=>!p.2.men h)&&Oz h s.boxes then some { s with boxes:=C1 h s.boxes } else none
theorem A8.delBox {Γ:Ctx} {w:World} {E:Env} {s s':St} {tmps:Array Value} (hs:A8 Γ w E s tmps) {h:Nat} (hd:s.delBox h=some s'):∃ E',A8 Γ w E' s' tmps:=by
 unfold St.delBox at hd
 cases hc:(Nat.blt h 1000&&s.slots.all (λp=>!p.2.men h)&&Oz h s.boxes) with
 | false=>rw [hc] at hd;cases hd
 | true =>
  rw [hc] at hd;obtain rfl:=QA hd;simp only [QE] at hc;obtain ⟨⟨c1,c2⟩,c3⟩:=hc
  have c1:h<1000:=by simpa [ZP] using c1
  let E':Env:={ E with β:=λk=>if k=h then Option.none else E.β k }
  have kb:Ci h w w E E':=⟨QY _,λ_ _ _ h=>h,λk x hk hx=>by show (if k=h then Option.none else E.β k)=some x;rw [QJ hk];exact hx,λ_ _ _ _ _ h=>h⟩
  have back:∀ k x,E'.β k=some x->k ≠ h/\E.β k=some x:=by
   intro k x hx
   have hx':(if k=h then Option.none else E.β k)=some x:=hx
   by_cases e:k=h
   . rw [QL e] at hx';cases hx'
   . rw [QJ e] at hx';exact ⟨e,hx'⟩
  have lk:∀ k b,A1 k (C1 h s.boxes)=some b->k ≠ h/\A1 k s.boxes=some b:=by
   intro k b hb;by_cases e:k=h
   . subst e;rw [Bj] at hb;cases hb
   . rw [Az e] at hb;exact ⟨e,hb⟩
  refine ⟨E',hs.fr,⟨hs.wf.alt,hs.wf.tag,hs.wf.inj,hs.wf.om⟩,hs.old,hs.nt,hs.tag,hs.new,λk b hb=>?_,λk k' b b' g g' z z' hb hb' hz hz'=>?_,λk b g z hb hz=>?_,λt x hx=>?_,hs.tsize,λk x hx=>?_,λk hk hk2 hm=>?_,λk b g z hb hz=>?_,hs.held,hs.tow⟩
  . obtain ⟨hne,hb0⟩:=lk k b hb;obtain ⟨g,cap,hβ,⟨arr,a1,a2,a3,a4,a5,a6,a7,a8,a9⟩,hω,hS⟩:=hs.boxes k b hb0;have kb:=kb.rd k b.tr λ_ _ h=>⟨h,rfl⟩
    refine ⟨g,cap,by have:=kb.β _ _ hne (by rw [Env.rd_β];exact hβ);rwa [Env.rd_β] at this,⟨arr,a1,a2,a3,a4,a5,λi r j c hi hj=>?_,a7,λe=>(Env.rd_A (E:=E') hω).2 ((Env.rd_A (E:=E) hω).1 (a8 e)),by rw [Env.rd_τ] at a9 ⊢;exact a9⟩,hω,hS⟩
    obtain ⟨v,hv,hr⟩:=a6 i r j c hi hj;refine ⟨v,hv,hr.keepBut kb ?_⟩;have hcl:=Amz c3 hne hb0;unfold Box.men at hcl
    cases hf:b.hf with
    | true=>obtain ⟨x,rfl⟩:=a7 hf i r j c hi hj;rfl
    | false =>
     rw [hf] at hcl;simp only [XH,XS] at hcl;exact Gc (Gc hcl hi) hj
  . obtain ⟨_,h1⟩:=lk k b hb;obtain ⟨_,h2⟩:=lk k' b' hb';exact hs.inj k k' b b' g g' z z' h1 h2 (back _ _ hz).2 (back _ _ hz').2
  . exact hs.own k b g z (lk k b hb).2 (back _ _ hz).2
  . have:=QM.1 c2 (t,x) (A1v hx)
    exact (hs.slots t x hx).keepBut kb (by simpa using this)
  . obtain ⟨hne,hx0⟩:=back _ _ hx;rw [Az hne];exact hs.dom k x hx0
  . show (if k=h then Option.none else E.β k)=_
    rw [QJ (by omega)]
    exact hs.stay k hk hk2 hm
  . exact hs.fzn k b g z (lk k b hb).2 (back _ _ hz).2
def Kf:List Nat->St->Option St
 | [],s=>some s
 | h::r,s=>match s.delBox h with
  | some s1=>Kf r s1
  | none=>none
theorem Rw {Γ:Ctx} {w:World} {tmps:Array Value}:∀ (l:List Nat) {E:Env} {s s':St},A8 Γ w E s tmps->Kf l s=some s'->∃ E',A8 Γ w E' s' tmps
 | [],E,s,s',hs,h=>by obtain rfl:=QA h;exact ⟨E,hs⟩
 | k::r,E,s,s',hs,h=>by
  simp only [Kf] at h;split at h
  . rename_i s1 h1;obtain ⟨E1,hs1⟩:=hs.delBox h1;exact Rw r hs1 h
  . cases h
structure RG where
 ds:List (Nat × Fn):=[]
 m:Nat:=0
 fz:List (Nat × V):=[]
 drop:List Nat:=[]
 dropB:List Nat:=[]
 only:Option (List Nat):=none
def St.onlyS (s:St):Option (List Nat)->St
 | none=>s
 | some l=>{ s with slots:=s.slots.filter λp=>l.contains p.1 }
def Bjt (P:Program) (T:Ty) (K:Am) (ops:Array Oper) (draw:Bool) (R:RG) (s:St):Option (St × List Prop) :=
 match (match draw with | true=>Wd P T K ops R.m R.ds R.fz s | false=>Kw P T K ops { ds:=R.ds,drop:=[] } s) with
 | some (s1,p)=>match Kf R.dropB ((s1.forget R.drop).onlyS R.only) with
  | some s2=>some (s2,p)
  | none=>none
 | none=>none
theorem Den.weak {K:Am} {c:Code} {s s1 s2:St} {x:Exit} (h:Code.Den P K c s x s1) (hw:∀ Γ w E tmps,A8 Γ w E s1 tmps->∃ E',A8 Γ w E' s2 tmps):Code.Den P K c s x s2:=by
 intro Γ w E a ro n hK hr hs;refine wpIn_mono (h Γ w E a ro n hK hr hs) ?_
 rintro e a1 w1 ⟨rfl,⟨h',q1,q2,E1,hs1⟩,q3⟩
 obtain ⟨E2,hs2⟩:=hw _ _ _ _ hs1;exact ⟨rfl,⟨h',q1,q2,E2,hs2⟩,q3⟩
def B3j:Exit->Bool
 | .normal=>true
 | _=>false
def path (P:Program) (T:Ty) (K:Am) (D:List (Nat × RG)):Code->St->List (Exit × St)->Option (Exit × St × List (Exit × St) × List Prop)
 | .skip,s,ls=>some (.normal,s,ls,[])
 | .region id ops draw,s,ls=>match Bjt P T K ops draw ((A1 id D).getD {}) s with
  | some (s',p)=>some (.normal,s',ls,p)
  | none=>none
 | .seq c d,s,ls=>match path P T K D c s ls with
  | some (x,s1,ls1,p)=>bif B3j x then (match path P T K D d s1 ls1 with
   | some (y,s2,ls2,q)=>some (y,s2,ls2,p++q)
   | none=>none) else some (x,s1,ls1,p)
  | none=>none
 | .cond (.tmp t) c d,s,ls=>match A1 t s.slots with
  | some (.v (.one (.i (.lit (.bool true)))))=>path P T K D c s ls
  | some (.v (.one (.i (.lit (.bool false)))))=>path P T K D d s ls
  | _=>none
 | .block id c,s,ls=>match path P T K D c s ls with
  | some (.exit j,s1,ls1,p)=>some (bif Nat.beq j id then .normal else .exit j,s1,ls1,p)
  | r=>r
 | .loop c,s,ls=>match ls with
  | (x,s')::ls'=>some (x,s',ls',[Fs P K c s x s'])
  | []=>none
 | .rangeFunc f ps a b,s,ls=>match ls with
  | (x,s')::ls'=>some (x,s',ls',[Code.Den P K (.rangeFunc f ps a b) s x s'])
  | []=>none
 | .exit id,s,ls=>some (.exit id,s,ls,[])
 | .ret,s,ls=>some (.ret,s,ls,[])
 | _,_,_=>none
def Aue:List Prop->Prop
 | []=>True
 | p::r=>p/\Aue r
theorem Aue.of:∀ {l:List Prop},Aue l->∀ p ∈ l,p
 | _::_,h,_,hp=>by
  rcases QU.1 hp with rfl | hp
  . exact h.1
  . exact Aue.of h.2 _ hp
end Go.Ev

/- DERIVED. Words for the printed texts: short names, and what is owed, discharged. -/
namespace Go.Ev
open Go
abbrev iN (n:Int):I:=.lit (.int .i64 n)
abbrev sI (x:I):S:=.v (.one (.i x))
def A0 (f:Func):Code:=f.body.getD .skip
def _root_.Go.Code.at (c:Code):List Nat->Code
 | []=>c
 | k::r=>match c,k with
  | .seq a _,0=>a.at r
  | .seq _ b,1=>b.at r
  | .cond _ a _,0=>a.at r
  | .cond _ _ b,1=>b.at r
  | .block _ a,0=>a.at r
  | .loop a,0=>a.at r
  | .rangeFunc _ _ a _,0=>a.at r
  | .rangeFunc _ _ _ b,1=>b.at r
  | _,_=>.skip
abbrev obN (x y:Int):Prop:=S.lit (.int .i64 x)=sI (iN y)
theorem Aug {x:Int} (h:-9223372036854775808<=x) (h':x<9223372036854775808):IntKind.i64.wrap x=x:=by
 simp only [IntKind.wrap,IntKind.signed,IntKind.bits];simp;omega
theorem Bdd (a b:Int):obN (if (if true=true then b>a else b<a) then b else a) (max a b):=by
 have h:(if (if true=true then b>a else b<a) then b else a)=max a b:=by
  simp only [if_true];by_cases h:b>a
  . rw [QL h];omega
  . rw [QJ h];omega
 unfold obN;rw [h]
theorem Bdc (a b:Int):obN (if (if false=true then b>a else b<a) then b else a) (min a b):=by
 have h:(if (if false=true then b>a else b<a) then b else a)=min a b:=by
  simp only [YE,if_false];by_cases h:b<a
  . rw [QL h];omega
  . rw [QJ h];omega
 unfold obN;rw [h]
end Go.Ev
