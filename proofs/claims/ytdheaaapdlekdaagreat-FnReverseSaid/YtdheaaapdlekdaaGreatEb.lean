/- DERIVED. An evaluator of code over abstract states: whole paths, calls, loops. -/
import Derived.OrdersHeld
import Derived.Test.YtdheaaapdlekdaaGreatEa

set_option linter.all false
set_option linter.unusedVariables false
set_option linter.unusedSimpArgs false

/- DERIVED. A function's contract, and a call. -/
namespace Go.Ev
open Go
variable {P:Program} {T:Ty}
structure FIn (w:World) (E:Env) (nt:Nat) (bs:List (Nat × Box)):Prop where
 wf:WfE w E nt
 boxes:∀ h b,A1 h bs=some b->Hi w E h b/\b.fz=false/\1000<=h
 inj:∀ h h' b b' g g' z z',A1 h bs=some b->A1 h' bs=some b'->E.β h=some (g,z)->E.β h'=some (g',z')->h ≠ h'->g ≠ g'
 dom:∀ h x,E.β h=some x->(A1 h bs).isSome=true
 odom:∀ g h,E.ω g=some h->(A1 h bs).isSome=true
def handed (E:Env) (bs:List (Nat × Box)) (g:Nat):Prop:=∃ h b,A1 h bs=some b/\((∃ z,E.β h=some (g,z)) \/ E.ω g=some h)
structure Bev (w:World) (E:Env) (nt:Nat) (bs:List (Nat × Box)) (mv:List Nat) (w':World) (E':Env) (nt':Nat) (bs':List (Nat × Box)):Prop where
 fr:Fr w (handed E bs) w'
 wf:WfE w' E' nt'
 old:∀ b,b<w.heap.size->(E'.A b ↔ E.A b)
 ntle:nt<=nt'
 tag:∀ t,t<nt->E'.τ t=E.τ t
 new:∀ t g,nt<=t->E'.τ t=some g->w.heap.size<=g
 boxes:∀ h b,A1 h bs'=some b->Hi w' E' h b/\b.fz=false
 inj:∀ h h' b b' g g' z z',A1 h bs'=some b->A1 h' bs'=some b'->E'.β h=some (g,z)->E'.β h'=some (g',z')->h ≠ h'->g ≠ g'
 own:∀ h b g z,A1 h bs'=some b->E'.β h=some (g,z)->w.heap.size<=g \/ ∃ b0 z0,A1 h bs=some b0/\E.β h=some (g,z0)
 stay:∀ h b,A1 h bs=some b->mv.contains h=false->E'.β h=E.β h/\(A1 h bs').isSome=true
 tow:∀ g h,E'.ω g=some h->w.heap.size<=g \/ handed E bs g
def Bsl (P : Program) (f : FuncId) : Prop := ∃ fn, P.funcs[f]? = some fn /\ (fn.name == "runtime.NumGoroutine") = false /\ fn.body.isNone = false
def Me (P:Program) (f:FuncId) (nt:Nat) (mv:List Nat) (bs:List (Nat × Box)) (args:List V) (r:S) (nt':Nat) (bs':List (Nat × Box)):Prop :=
 Bsl P f /\ ∀ (w:World) (E:Env) (vs:List Value),FIn w E nt bs->P2 w E vs args ->
  Calls P f vs.toArray w (λe w'=>∃ v E',e = .returned v/\Rs w' E' v r/\Bev w E nt bs mv w' E' nt' bs')
def V.noH:V->Bool
 | .one c=>Dc c
 | .agg cs=>cs.all Dc
def S.noH:S->Bool
 | .v x=>x.noH
 | .tup xs=>xs.all V.noH
 | .dead=>true
theorem Rc.noH {w:World} {E E':Env} (hA:E'.A=E.A) (hτ:E'.τ=E.τ) {v:Value} {c:C} (hc:Dc c=true) (h:Rc w E v c):Rc w E' v c:=by
 cases h with
 | i h =>
  refine .i (h.keepI (ZF _) (λtag g _ hb=>?_) (λ_ _ _ _ _ h=>h));unfold Env.blk at hb ⊢;rw [hA,hτ];exact hb
 | hs=>cases hc
 | hp=>cases hc
theorem Eu {α:Type} {p:α->Bool} {l:List α} (h:l.all p=true) {j:Nat} {c:α} (hj:l[j]? = some c):p c=true :=
 QK.1 h c (ZN hj)
theorem Rv.noH {w:World} {E E':Env} (hA:E'.A=E.A) (hτ:E'.τ=E.τ) {v:Value} {x:V} (hx:x.noH=true) (h:Rv w E v x):Rv w E' v x:=by
 cases h with
 | one h=>exact .one (h.noH hA hτ hx)
 | agg h=>exact .agg ⟨h.1,λj v c hv hc=>(h.2 j v c hv hc).noH hA hτ (Eu hx hc)⟩
theorem Rs.noH {w:World} {E E':Env} (hA:E'.A=E.A) (hτ:E'.τ=E.τ) {v:Value} {x:S} (hx:x.noH=true) (h:Rs w E v x):Rs w E' v x:=by
 cases h with
 | v h=>exact .v (h.noH hA hτ hx)
 | tup h=>exact .tup ⟨h.1,λj v c hv hc=>(h.2 j v c hv hc).noH hA hτ (Eu hx hc)⟩
 | dead=>exact .dead
inductive IClosed:I->Prop
 | lit (v:Value):IClosed (.lit v)
 | nil (tag:Nat) (nl:Bool) (sz:Nat):IClosed (.sl tag nl sz [])
 | sl (tag:Nat) (nl:Bool) (sz:Nat) (rows:List (List I)) (ht:tag ≠ 0) (h:∀ (i:Nat) (r:List I) (j:Nat) (c:I),rows[i]? = some r->r[j]? = some c->IClosed c):IClosed (.sl tag nl sz rows)
theorem Ri.closed {w:World} {E E':Env} (hτ:E'.τ=E.τ) {v:Value} {x:I} (h:Ri w E v x) (hc:IClosed x):Ri w E' v x:=by
 induction h with
 | lit v h=>exact .lit v h
 | nil tag sz cap a nl hn hcap=>exact .nil tag sz cap a nl hn hcap
 | sl tag sz g o cap rows vs hne hcap hg hb hlen hcell _ ih =>
  cases hc with
  | nil=>exact absurd rfl hne
  | sl _ _ _ _ ht hcl =>
   refine .sl tag sz g o cap rows vs hne hcap hg ?_ hlen hcell (λi r j c hi hj=>ih i r j c hi hj (hcl i r j c hi hj));unfold Env.blk at hb ⊢;rw [QB ht] at hb ⊢;rw [hτ];exact hb
 | ref=>cases hc
 | fn=>cases hc
 | any=>cases hc
def Ai1:C->Prop
 | .i x=>IClosed x
 | _=>False
def Ww:V->Prop
 | .one c=>Ai1 c
 | .agg cs=>∀ (j:Nat) (c:C),cs[j]? = some c->Ai1 c
def Nn:S->Prop
 | .v x=>Ww x
 | .tup xs=>∀ (j:Nat) (x:V),xs[j]? = some x->Ww x
 | .dead=>True
theorem Rc.closed {w:World} {E E':Env} (hτ:E'.τ=E.τ) {v:Value} {c:C} (h:Rc w E v c) (hc:Ai1 c):Rc w E' v c:=by
 cases h with
 | i h=>exact .i (h.closed hτ hc)
 | hs=>exact hc.elim
 | hp=>exact hc.elim
theorem Rv.closed {w:World} {E E':Env} (hτ:E'.τ=E.τ) {v:Value} {x:V} (h:Rv w E v x) (hc:Ww x):Rv w E' v x:=by
 cases h with
 | one h=>exact .one (h.closed hτ hc)
 | agg h=>exact .agg ⟨h.1,λj v c hv hj=>(h.2 j v c hv hj).closed hτ (hc j c hj)⟩
theorem Rs.closed {w:World} {E E':Env} (hτ:E'.τ=E.τ) {v:Value} {x:S} (h:Rs w E v x) (hc:Nn x):Rs w E' v x:=by
 cases h with
 | v h=>exact .v (h.closed hτ hc)
 | tup h=>exact .tup ⟨h.1,λj v c hv hj=>(h.2 j v c hv hj).closed hτ (hc j c hj)⟩
 | dead=>exact .dead
def Xj (c c':C):Option (List Prop) :=
 match c,c' with
 | .i (.lit (.slice none 0 0)),.i (.sl _ _ _ [])=>some []
 | c,c'=>some [c=c']
def G1:List C->List C->Option (List Prop)
 | [],[]=>some []
 | c::r,c'::r'=>match Xj c c',G1 r r' with
  | some p,some q=>some (p++q)
  | _,_=>none
 | _,_=>none
def A81:V->V->Option (List Prop)
 | .one c,.one c'=>Xj c c'
 | .agg cs,.agg cs'=>G1 cs cs'
 | _,_=>none
theorem Py {w:World} {E:Env} {v:Value} {c c':C} {obs:List Prop} (hv:Rc w E v c) (h:Xj c c'=some obs) (ho:∀ p ∈ obs,p):Rc w E v c':=by
 unfold Xj at h;split at h
 . cases hv with | i hv=>cases hv with | lit=>exact .i (.nil _ _ _ _ _ (λ_=>rfl) (λ_=>rfl))
 . obtain rfl:=QA h
   have:c=c':=ho _ (by simp)
   subst this;exact hv
theorem A6z {w:World} {E:Env}:∀ (cs cs':List C) (vs:List Value) (obs:List Prop),Fq w E vs cs->G1 cs cs'=some obs->(∀ p ∈ obs,p)->Fq w E vs cs'
 | [],[],vs,_,hv,_,_=>hv
 | [],_::_,_,_,_,h,_=>by simp [G1] at h
 | _::_,[],_,_,_,h,_=>by simp [G1] at h
 | c::r,c'::r',[],_,hv,_,_=>by have:=hv.1;simp at this
 | c::r,c'::r',v::vs,obs,hv,h,ho=>by
  simp only [G1] at h;split at h
  . rename_i p q h1 h2;obtain rfl:=QA h;have r1:=Py (hv.2 0 v c rfl rfl) h1 (λx hx=>ho x (QG.2 (.inl hx)))
    have r2:=A6z r r' vs q ⟨by simpa using hv.1,λj v c hv' hc'=>hv.2 (j+1) v c (by simpa using hv') (by simpa using hc')⟩ h2 (λx hx=>ho x (QG.2 (.inr hx)))
    refine ⟨by simp [r2.1],λj v' x' hv' hx'=>?_⟩
    cases j with
    | zero=>simp at hv' hx';subst hv';subst hx';exact r1
    | succ j=>exact r2.2 j v' x' (by simpa using hv') (by simpa using hx')
  . cases h
theorem Ayt {w:World} {E:Env} {v:Value} {y a:V} {obs:List Prop} (hv:Rv w E v y) (h:A81 y a=some obs) (ho:∀ p ∈ obs,p):Rv w E v a:=by
 cases hv with
 | one hv=>cases a with
  | one c'=>exact .one (Py hv h ho)
  | agg=>simp [A81] at h
 | agg hv=>cases a with
  | one c'=>simp [A81] at h
  | agg cs'=>exact .agg (A6z _ _ _ _ hv h ho)
def Jg (bx:Nat->Option Box) (x:S) (a:V):Option (List Prop × List Nat) :=
 match x with
 | .v (.one (.hs h off len))=>match bx h,a with
  | some b,.one (.i (.sl 0 false sz rows))=>bif Nat.beq b.sz sz&&b.hf && !b.fz then some ([off+len<=b.rows.length,(b.rows.drop off).take len=rows.map (·.map .i)],[h]) else none
  | _,_=>none
 | .v y=>bif y.noH&&a.noH then (A81 y a).map λp=>(p,[]) else none
 | _=>none
def Dy (bx:Nat->Option Box):List C->List C->Option (List Prop × List Nat)
 | [],[]=>some ([],[])
 | c::cs,a::as=>match Jg bx (.v (.one c)) (.one a),Dy bx cs as with
  | some (p,h),some (ps,hs)=>some (p++ps,h++hs)
  | _,_=>none
 | _,_=>none
def A03 (bx:Nat->Option Box) (x:S) (a:V):Option (List Prop × List Nat) :=
 match Jg bx x a with
 | some q=>some q
 | none=>match x,a with
  | .v (.agg cs),.agg as=>Dy bx cs as
  | _,_=>none
def K5 (bx:Nat->Option Box):List S->List V->Option (List Prop × List Nat)
 | [],[]=>some ([],[])
 | x::xs,a::as=>match A03 bx x a,K5 bx xs as with
  | some (p,h),some (ps,hs)=>some (p++ps,h++hs)
  | _,_=>none
 | _,_=>none
theorem Calls.mono' {f:FuncId} {args:Array Value} {w:World} {R R':Ending->World->Prop} (h:Calls P f args w R) (hr:∀ e w,R e w->R' e w):Calls P f args w R':=by
 intro cs;obtain ⟨e,w',fr,hR,hc⟩:=h cs;exact ⟨e,w',fr,hr _ _ hR,hc⟩
def V3 (E:Env) (bor:List Nat) (g:Nat):Prop:=∃ h,h ∈ bor/\((∃ z,E.β h=some (g,z)) \/ E.ω g=some h)
def Env.lend (E:Env) (bor:List Nat):Env:={ A:=λb=>E.A b /\ ¬ V3 E bor b,τ:=E.τ,β:=λ_=>none,ω:=λ_=>none }
theorem Abe {Γ:Ctx} {w:World} {E:Env} {s:St} {tmps:Array Value} (hs:A6 Γ w E s tmps) {bor:List Nat} {v:Value} {x:S} {a:V} {obs:List Prop} {hh:List Nat}
  (hv:Rs w E v x) (h:Jg (A1 · s.boxes) x a=some (obs,hh)) (ho:∀ p ∈ obs,p) (hb:∀ k ∈ hh,k ∈ bor):Rv w (E.lend bor) v a:=by
 have kI:∀ v y,Ri w E v y->Ri w (E.lend bor) v y:=by
  intro v y hr;refine hr.keepI (ZF _) (λtag g _ hb=>?_) (λ_ _ _ _ _ h=>h);unfold Env.blk at hb ⊢;split
  . rename_i e;rw [QC e] at hb;exact λh=>hb h.1
  . rename_i e;rw [QB e] at hb;exact hb
 have kC:∀ v (c:C),Dc c=true->Rc w E v c->Rc w (E.lend bor) v c:=by
  intro v c hc hr
  cases hr with
  | i h=>exact .i (kI _ _ h)
  | hs=>cases hc
  | hp=>cases hc
 unfold Jg at h;split at h
 . rename_i k off len;split at h
   . rename_i b sz rows hbx
     cases hc:(Nat.beq b.sz sz&&b.hf && !b.fz) with
     | false=>rw [hc] at h;cases h
     | true =>
      rw [hc] at h;simp only [cond,QF,QL] at h;obtain ⟨rfl,rfl⟩:=h;simp only [QH,XH] at hc;obtain ⟨⟨c1,c2⟩,c3⟩:=hc;have c1:=QD c1
      have o1:off+len<=b.rows.length:=ho _ (by simp)
      have o2:(b.rows.drop off).take len=rows.map (·.map .i):=ho _ (by simp)
      have hkb:k ∈ bor:=hb k (by simp)
      obtain ⟨g,z,cap,ad,hβ,hle,had,rfl⟩:=hv.hs_inv;obtain ⟨rfl,_,hat,_⟩:=hs.box hbx hβ
      have kT:∀ v y,Ri w (E.rd k b.tr) v y->Ri w (E.lend bor) v y:=by
       intro v y hr;refine hr.keepI (ZF _) (λtag g _ hb=>?_) (λ_ _ _ _ _ h=>h)
       cases htr:b.tr with
       | false =>
        rw [htr] at hb;have hb:E.blk tag g:=hb;unfold Env.blk at hb ⊢;split
        . rename_i e;rw [QC e] at hb;exact λh=>hb h.1
        . rename_i e;rw [QB e] at hb;exact hb
       | true =>
        rw [htr] at hb;unfold Env.blk at hb ⊢;split
        . rename_i e;rw [QC e] at hb;exact λh=>hb ⟨h.1,λh2=>h.2 ⟨k,hkb,.inr h2⟩⟩
        . rename_i e;rw [QB e] at hb;exact hb
      have hlt:=hat.lt;obtain ⟨arr,hg,hsz',hl,hm,hlen,hcell,hhf,hA,hT'⟩:=hat
      have hrl:rows.length=len:=by have:=ZY List.length o2;simp at this;omega
      have hget:∀ (i:Nat) (q:List I),rows[i]? = some q->b.rows[off+i]? = some (q.map .i):=by
       intro i q hi
       have hi':i<len:=by rw [<- hrl];exact (ZD.1 hi).1
       have:((b.rows.drop off).take len)[i]? = some (q.map .i):=by rw [o2,QQ,hi];rfl
       rwa [XM,QC hi',YH] at this
      by_cases h0:len=0
      . subst h0;obtain rfl:=YV hrl
        exact .one (.i (.nil _ _ _ _ _ (λe=>by cases e) (λe=>by cases e)))
      . obtain rfl:=had (.inl (by omega))
        have hblk:(E.lend bor).blk 0 g:=by
         simp only [Env.blk,if_true,Env.lend];exact λh=>h.2 ⟨k,hkb,.inl ⟨_,hβ⟩⟩
        have:=Ri.sl (w:=w) (E:=E.lend bor) 0 sz g (off*b.sz) (cap-off) rows (λi j=>(arr[(off+i)*b.sz+j]?).getD undef) (λe=>by subst e;simp at hrl;omega) (by omega) hlt hblk
         (λi q hi=>by have:=hlen _ _ (hget i q hi);simp at this;omega)
         (λi q j c hi hj=>by
          obtain ⟨u,hu,_⟩:=hcell _ _ j (.i c) (hget i q hi) (by rw [QQ,hj];rfl)
          rw [show off*b.sz+(i*sz+j)=(off+i)*b.sz+j by rw [<- c1,YQ];omega]
          simp [World.cell?,hg,hu])
         (λi q j c hi hj=>by
          obtain ⟨u,hu,hr⟩:=hcell _ _ j (.i c) (hget i q hi) (by rw [QQ,hj];rfl)
          rw [hu]
          cases hr with | i hr=>exact kT _ _ hr)
        rw [hrl] at this;exact .one (.i this)
   . cases h
 . rename_i y _
   cases hc:(y.noH&&a.noH) with
   | false=>rw [hc] at h;cases h
   | true =>
    rw [hc] at h;simp only [cond,QI,QL] at h;obtain ⟨p,hp,rfl,rfl⟩:=h;simp only [QH] at hc;refine Ayt ?_ hp ho
    cases hv.v_inv with
    | one hr=>exact .one (kC _ _ hc.1 hr)
    | agg hr=>exact .agg ⟨hr.1,λj v c hv hj=>kC _ _ (Eu hc.1 hj) (hr.2 j v c hv hj)⟩
 . cases h
theorem A78 {Γ:Ctx} {w:World} {E:Env} {s:St} {tmps:Array Value} (hs:A6 Γ w E s tmps) {bor:List Nat}:∀ {vs:List Value} {cs as:List C} {obs:List Prop} {hh:List Nat},
  Fq w E vs cs->Dy (A1 · s.boxes) cs as=some (obs,hh)->(∀ p ∈ obs,p)->(∀ k ∈ hh,k ∈ bor)->Fq w (E.lend bor) vs as
 | vs,[],[],_,_,hv,_,_,_=>⟨hv.1,λj v c _ hc=>by simp at hc⟩
 | _,[],_::_,_,_,_,h,_,_=>by simp [Dy] at h
 | _,_::_,[],_,_,_,h,_,_=>by simp [Dy] at h
 | [],c::cs,a::as,_,_,hv,_,_,_=>by have:=hv.1;simp at this
 | v::vs,c::cs,a::as,obs,hh,hv,h,ho,hb=>by
  simp only [Dy] at h;split at h
  . rename_i p k ps ks h1 h2;simp only [QF,QL] at h;obtain ⟨rfl,rfl⟩:=h;have r1:=Abe hs (bor:=bor) (x:=.v (.one c)) (a:=.one a) (.v (.one (hv.2 0 v c rfl rfl))) h1 (λq hq=>ho q (QG.2 (.inl hq))) (λq hq=>hb q (QG.2 (.inl hq)))
    have r2:=A78 hs (vs:=vs) (cs:=cs) ⟨by simpa using hv.1,λj v' c' h1 h2=>hv.2 (j+1) v' c' (by simpa using h1) (by simpa using h2)⟩ h2 (λq hq=>ho q (QG.2 (.inr hq))) (λq hq=>hb q (QG.2 (.inr hq)))
    refine ⟨by simp [r2.1],λj v' x' hv' hx'=>?_⟩
    cases j with
    | zero=>simp at hv' hx';subst hv';subst hx';cases r1 with | one r1=>exact r1
    | succ j=>exact r2.2 j v' x' (by simpa using hv') (by simpa using hx')
  . cases h
theorem Akt {Γ:Ctx} {w:World} {E:Env} {s:St} {tmps:Array Value} (hs:A6 Γ w E s tmps) {bor:List Nat} {v:Value} {x:S} {a:V} {obs:List Prop} {hh:List Nat}
  (hv:Rs w E v x) (h:A03 (A1 · s.boxes) x a=some (obs,hh)) (ho:∀ p ∈ obs,p) (hb:∀ k ∈ hh,k ∈ bor):Rv w (E.lend bor) v a:=by
 unfold A03 at h;split at h
 . rename_i q hq;obtain rfl:=QA h;exact Abe hs hv hq ho hb
 . split at h
   . cases hv with | v hv=>cases hv with | agg hv=>exact .agg (A78 hs hv h ho hb)
   . cases h
theorem Aks {Γ:Ctx} {w:World} {E:Env} {s:St} {tmps:Array Value} (hs:A6 Γ w E s tmps) (bor:List Nat):∀ (xs:List S) (as:List V) (vs:List Value) (obs:List Prop) (hh:List Nat),vs.length=xs.length ->
  (∀ (j:Nat) v x,vs[j]? = some v->xs[j]? = some x->Rs w E v x)->K5 (A1 · s.boxes) xs as=some (obs,hh)->(∀ p ∈ obs,p)->(∀ k ∈ hh,k ∈ bor)->P2 w (E.lend bor) vs as
 | [],[],vs,obs,hh,hl,_,_,_,_=>⟨by simpa using hl,λj v x _ hx=>by simp at hx⟩
 | [],_::_,_,_,_,_,_,h,_,_=>by simp [K5] at h
 | _::_,[],_,_,_,_,_,h,_,_=>by simp [K5] at h
 | x::xs,a::as,[],_,_,hl,_,_,_,_=>by simp at hl
 | x::xs,a::as,v::vs,obs,hh,hl,hv,h,ho,hb=>by
  simp only [K5] at h;split at h
  . rename_i p k ps ks h1 h2;simp only [QF,QL] at h;obtain ⟨rfl,rfl⟩:=h;have r1:=Akt hs (bor:=bor) (hv 0 v x rfl rfl) h1 (λq hq=>ho q (QG.2 (.inl hq))) (λq hq=>hb q (QG.2 (.inl hq)))
    have r2:=Aks hs bor xs as vs ps ks (by simpa using hl) (λj v x hv' hx'=>hv (j+1) v x (by simpa using hv') (by simpa using hx')) h2 (λq hq=>ho q (QG.2 (.inr hq))) (λq hq=>hb q (QG.2 (.inr hq)))
    refine ⟨by simp [r2.1],λj v' x' hv' hx'=>?_⟩
    cases j with
    | zero=>simp at hv' hx';subst hv';subst hx';exact r1
    | succ j=>exact r2.2 j v' x' (by simpa using hv') (by simpa using hx')
  . cases h
theorem B2r {Γ:Ctx} {w:World} {E:Env} {s:St} {tmps:Array Value} (hs:A6 Γ w E s tmps) {f:FuncId} {mv:List Nat} {xs:List S} {as:List V} {vs:List Value} {r:S} {nt':Nat} {obs:List Prop} {bor:List Nat}
  (hd:Me P f s.nt mv [] as r nt' []) (hl:vs.length=xs.length) (hv:∀ (j:Nat) v x,vs[j]? = some v->xs[j]? = some x->Rs w E v x) (ha:K5 (A1 · s.boxes) xs as=some (obs,bor)) (ho:∀ p ∈ obs,p)
  (hr:r.noH=true) (hcl:bor=[] \/ Nn r) (hfz:∀ h ∈ bor,∃ b,A1 h s.boxes=some b/\b.fz=false) :
  Calls P f vs.toArray w (λe w'=>∃ v E',e = .returned v/\Rs w' E' v r/\A6 Γ w' E' { s with nt:=nt' } tmps):=by
 have hin:FIn w (E.lend bor) s.nt []:=by
  refine ⟨⟨λb hb=>hs.wf.alt b hb.1,λt g ht=>?_,hs.wf.inj,λ_ _ h=>nomatch h⟩,(λh b hb=>by cases hb),(λh h' b b' g g' z z' hb=>by cases hb),(λh x hx=>by cases hx),λ_ _ h=>nomatch h⟩
  obtain ⟨h1,h2,h3⟩:=hs.wf.tag t g ht;refine ⟨h1,h2,h3,?_⟩
  rintro ⟨h,hh,hz⟩
  obtain ⟨b,hb,_⟩:=hfz h hh;rcases hz with ⟨z,hz⟩ | hz
  . obtain ⟨_,_,_,_,_,hT,_⟩:=(hs.boxes h b hb).facts hz;exact hT t ht
  . exact (hs.wf.om g h hz).2.1 t ht
 refine Calls.mono' (hd.2 w (E.lend bor) vs hin (Aks hs bor xs as vs obs bor hl hv ha ho (λ_ h=>h))) ?_
 rintro e w' ⟨v,Ec,rfl,hrv,hout⟩
 have hblock:∀ b,b<w.heap.size->w'.heap[b]? = w.heap[b]?:=λb hb=>hout.fr.block b hb (λ⟨_,_,hx,_⟩=>by cases hx)
 have ht:Mb w w' (λ_=>False):=⟨hout.fr.os,hout.fr.tape,hout.fr.output,hout.fr.size,λb hb _=>hblock b hb⟩
 have lentA:∀ g,V3 E bor g->E.A g/\g<w.heap.size /\ ∀ t,E.τ t ≠ some g:=by
  rintro g ⟨h,hh,hz⟩
  obtain ⟨b,hb,hf⟩:=hfz h hh;rcases hz with ⟨z,hz⟩ | hz
  . obtain ⟨_,_,_,ha,hA,hT,_⟩:=(hs.boxes h b hb).facts hz;exact ⟨hA hf,(ZU.1 ha).1,hT⟩
  . obtain ⟨h1,h2,_⟩:=hs.wf.om g h hz;exact ⟨h1,hs.wf.alt g h1,h2⟩
 let E':Env:={ A:=λb=>Ec.A b \/ V3 E bor b,τ:=Ec.τ,β:=E.β,ω:=E.ω }
 have hAold:∀ b,b<w.heap.size->(E'.A b ↔ E.A b):=by
  intro b hb;have:=hout.old b hb;constructor
  . rintro (h' | h')
    . exact (this.1 h').1
    . exact (lentA b h').1
  . intro h';by_cases hlb:V3 E bor b
    . exact .inr hlb
    . exact .inl (this.2 ⟨h',hlb⟩)
 have kk:Cy w w' E E':=by
  refine ⟨ht.size,λtag g hg hb=>?_,λ_ _ h=>h,λtag g o v _ hc=>ht.cell hc (λh=>h)⟩;unfold Env.blk at hb ⊢;split
  . rename_i e;rw [QC e] at hb;exact λh'=>hb ((hAold g hg).1 h')
  . rename_i e;rw [QB e] at hb;have:=(hs.wf.tag tag g hb).1;exact (hout.tag tag this).trans hb
 have tagfr:∀ g,g<w.heap.size->(∀ t,E.τ t ≠ some g)->∀ t,E'.τ t ≠ some g:=by
  intro g hg hT t ht';by_cases hlt:t<s.nt
  . exact hT t ((hout.tag t hlt).symm.trans ht')
  . have:=hout.new t g (by omega) ht'
    omega
 have hωk:∀ b k,E.ω b=some k->E'.ω b=some k/\w'.heap[b]? = w.heap[b]?:=λb k hb=>⟨hb,hblock b (hs.wf.alt b (hs.wf.om b k hb).1)⟩;refine ⟨v,E',rfl,?_,?_⟩
 . rcases hcl with rfl | hcl
   . have hA0 : E'.A = Ec.A := by
      funext b
      exact propext ⟨λh=>h.elim id (λ⟨_,hh,_⟩=>by cases hh),λh=>.inl h⟩
     exact Rs.noH (E:=Ec) (E':=E') hA0 rfl hr hrv
   . exact Rs.closed (E:=Ec) (E':=E') rfl hrv hcl
 . refine ⟨hs.fr.trans ht.os ht.tape ht.output ht.size (λb hb _=>hblock b (XB hb hs.fr.size)),⟨λb hb=>?_,λt g htg=>?_,hout.wf.inj,λb k hb=>?_⟩,λb hb=>?_,ZQ hs.nt hout.ntle,λt htn=>?_,λt g htn htg=>?_,λh b hb=>?_,hs.inj,hs.own,λt x hx=>(hs.slots t x hx).keep kk,hs.tsize,hs.dom,hs.stay,λh b g z hb hβ hf hA=>?_,λb o hb=>⟨(hs.held b o hb).1,(hblock b (ZU.1 (hs.held b o hb).2).1).trans (hs.held b o hb).2⟩,hs.tow⟩
   . rcases hb with hb | hb
     . exact hout.wf.alt b hb
     . exact XB (lentA b hb).2.1 ht.size
   . obtain ⟨h1,h2,h3⟩:=hout.wf.tag t g htg;exact ⟨h1,h2,.inl h3⟩
   . obtain ⟨h1,h2,h3⟩:=hs.wf.omk (λb k hb=>(hωk b k hb).2) b k hb;exact ⟨(hAold b (hs.wf.alt b h1)).2 h1,tagfr b (hs.wf.alt b h1) h2,h3⟩
   . rw [hAold b (XB hb hs.fr.size)];exact hs.old b hb
   . exact (hout.tag t (XB htn hs.nt)).trans (hs.tag t htn)
   . by_cases hlt:t<s.nt
     . exact hs.new t g htn ((hout.tag t hlt).symm.trans htg)
     . exact ZQ hs.fr.size (hout.new t g (by omega) htg)
   . obtain ⟨g,cap,hβ,hat,hω,hS⟩:=hs.boxes h b hb
     exact Hi.keep hat hω hS hβ (hblock g hat.lt) (λ_ _ _ _ _ _ _ hr=>hr.keep (kk.rd h b.tr hωk)) (λhA=>(hAold g hat.lt).2 hA) (tagfr g hat.lt (by obtain ⟨_,_,_,_,_,_,_,_,_,hT⟩:=hat;rw [Env.rd_τ] at hT;exact hT)) (λb' hb'=>hωk b' _ hb') hω
   . exact hs.fzn h b g z hb hβ hf ((hAold g (hs.lt hb hβ)).1 hA)
end Go.Ev

/- DERIVED. A call that is handed boxes, or hands out boxes. -/
namespace Go.Ev
open Go
variable {P:Program} {T:Ty}
def C.ren (σ:Nat->Nat):C->C
 | .i x=>.i x
 | .hs h o l=>.hs (σ h) o l
 | .hp h r c=>.hp (σ h) r c
def V.ren (σ:Nat->Nat):V->V
 | .one c=>.one (c.ren σ)
 | .agg cs=>.agg (cs.map (C.ren σ))
def S.ren (σ:Nat->Nat):S->S
 | .v x=>.v (x.ren σ)
 | .tup xs=>.tup (xs.map (V.ren σ))
 | .dead=>.dead
def C.okH (p:Nat->Bool):C->Bool
 | .i _=>true
 | .hs h _ _=>p h
 | .hp h _ _=>p h
def V.okH (p:Nat->Bool):V->Bool
 | .one c=>c.okH p
 | .agg cs=>cs.all (C.okH p)
def S.okH (p:Nat->Bool):S->Bool
 | .v x=>x.okH p
 | .tup xs=>xs.all (V.okH p)
 | .dead=>true
def C.allI (Q:I->Prop):C->Prop
 | .i x=>Q x
 | _=>True
def V.allI (Q:I->Prop):V->Prop
 | .one c=>c.allI Q
 | .agg cs=>∀ (j:Nat) (c:C),cs[j]? = some c->c.allI Q
def S.allI (Q:I->Prop):S->Prop
 | .v x=>x.allI Q
 | .tup xs=>∀ (j:Nat) (x:V),xs[j]? = some x->x.allI Q
 | .dead=>True
theorem C.allI_mono {Q R:I->Prop} (h:∀ y,Q y->R y) {c:C} (hc:c.allI Q):c.allI R:=by
 cases c with
 | i x=>exact h x hc
 | hs=>trivial
 | hp=>trivial
theorem C.allI_true {c:C}:c.allI (λ_=>True):=by cases c <;> trivial
theorem V.allI_true {x:V}:x.allI (λ_=>True):=by cases x with | one=>exact C.allI_true | agg=>exact λ_ _ _=>C.allI_true
theorem S.allI_true {x:S}:x.allI (λ_=>True):=by cases x with | v=>exact V.allI_true | tup=>exact λ_ _ _=>V.allI_true | dead=>trivial
section
variable {w:World} {E E':Env} {σ:Nat->Nat} {p:Nat->Bool} {Q:I->Prop}
theorem Rc.ren (kI:∀ v y,Ri w E v y->Q y->Ri w E' v y) (hβ:∀ k,p k=true->E'.β (σ k)=E.β k) {v:Value} {c:C} (ho:c.okH p=true) (hq:c.allI Q) (h:Rc w E v c):Rc w E' v (c.ren σ):=by
 cases h with
 | i h=>exact .i (kI _ _ h hq)
 | hs h off len g sz cap ad hb hle had=>exact .hs (σ h) off len g sz cap ad ((hβ h ho).trans hb) hle had
 | hp h row col g sz cap hb=>exact .hp (σ h) row col g sz cap ((hβ h ho).trans hb)
theorem Rv.ren (kI:∀ v y,Ri w E v y->Q y->Ri w E' v y) (hβ:∀ k,p k=true->E'.β (σ k)=E.β k) {v:Value} {x:V} (ho:x.okH p=true) (hq:x.allI Q) (h:Rv w E v x):Rv w E' v (x.ren σ):=by
 cases h with
 | one h=>exact .one (h.ren kI hβ ho hq)
 | @agg vs cs h =>
  refine .agg ⟨by simp [h.1],λj v c hv hc=>?_⟩
  rw [QQ,QI] at hc;obtain ⟨c0,hc0,rfl⟩:=hc;exact (h.2 j v c0 hv hc0).ren kI hβ (Eu ho hc0) (hq j c0 hc0)
theorem Rs.ren (kI:∀ v y,Ri w E v y->Q y->Ri w E' v y) (hβ:∀ k,p k=true->E'.β (σ k)=E.β k) {v:Value} {x:S} (ho:x.okH p=true) (hq:x.allI Q) (h:Rs w E v x):Rs w E' v (x.ren σ):=by
 cases h with
 | v h=>exact .v (h.ren kI hβ ho hq)
 | @tup vs xs h =>
  refine .tup ⟨by simp [h.1],λj v c hv hc=>?_⟩
  rw [QQ,QI] at hc;obtain ⟨c0,hc0,rfl⟩:=hc;exact (h.2 j v c0 hv hc0).ren kI hβ (Eu ho hc0) (hq j c0 hc0)
 | dead=>exact .dead
end
def Env.give (E:Env) (bor:List Nat) (bs:List (Nat × Box)) (σ:Nat->Nat) (π:Nat->Option Nat:=λ_=>none):Env :=
 { A:=λb=>E.A b /\ ¬ V3 E bor b,τ:=E.τ,β:=λk=>if (A1 k bs).isSome then E.β (σ k) else none,
   ω:=λg=>(E.ω g).bind λh=>(π h).bind λk=>if (A1 k bs).isSome then some k else none }
def To (hd:Nat->Nat->Bool) (bx:Nat->Option Box) (c a:C):Option (List Prop × List Nat) :=
 match c,a with
 | .hs h o l,.hs k o' l'=>bif hd k h then some ([o=o',l=l'],[]) else none
 | .hp h r c,.hp k r' c'=>bif hd k h then some ([r=r',c=c'],[]) else none
 | c,a=>Jg bx (.v (.one c)) (.one a)
def Qi (hd:Nat->Nat->Bool) (bx:Nat->Option Box):List C->List C->Option (List Prop × List Nat)
 | [],[]=>some ([],[])
 | c::cs,a::as=>match To hd bx c a,Qi hd bx cs as with
  | some (p,h),some (ps,hs)=>some (p++ps,h++hs)
  | _,_=>none
 | _,_=>none
def A48 (hd:Nat->Nat->Bool) (bx:Nat->Option Box) (im:Bool) (x:S) (a:V):Option (List Prop × List Nat) :=
 bif im then A03 bx x a else match x,a with
 | .v (.one c),.one a=>To hd bx c a
 | .v (.agg cs),.agg as=>Qi hd bx cs as
 | _,_=>none
def K6 (hd:Nat->Nat->Bool) (bx:Nat->Option Box):List Bool->List S->List V->Option (List Prop × List Nat)
 | [],[],[]=>some ([],[])
 | i::is,x::xs,a::as=>match A48 hd bx i x a,K6 hd bx is xs as with
  | some (p,h),some (ps,hs)=>some (p++ps,h++hs)
  | _,_=>none
 | _,_,_=>none
theorem Abg {bx:Nat->Option Box} {x:S} {a:V} {q:List Prop × List Nat} (h:Jg bx x a=some q):a.noH=true:=by
 unfold Jg at h;split at h
 . split at h
   . rfl
   . cases h
 . rename_i y _
   cases hc:(y.noH&&a.noH) with
   | false=>rw [hc] at h;cases h
   | true=>exact (QH _ _ ▸ hc).2
 . cases h
theorem Ace {bx:Nat->Option Box}:∀ {cs as:List C} {q:List Prop × List Nat},Dy bx cs as=some q->as.all Dc=true
 | [],[],_,_=>rfl
 | [],_::_,_,h=>by simp [Dy] at h
 | _::_,[],_,h=>by simp [Dy] at h
 | c::cs,a::as,q,h=>by
  simp only [Dy] at h;split at h
  . rename_i h1 h2;have e1:=Abg h1;have e2:=Ace h2;simp only [XJ,e2,XR];exact e1
  . cases h
theorem Bep {bx:Nat->Option Box} {x:S} {a:V} {q:List Prop × List Nat} (h:A03 bx x a=some q):a.noH=true:=by
 unfold A03 at h;split at h
 . rename_i q' hq;exact Abg hq
 . split at h
   . exact Ace h
   . cases h
section
variable {Γ:Ctx} {w:World} {E:Env} {s:St} {tmps:Array Value} {bor:List Nat} {bs:List (Nat × Box)} {σ:Nat->Nat} {hd:Nat->Nat->Bool} {π:Nat->Option Nat}
theorem Aku (hs:A6 Γ w E s tmps) (hhd:∀ k h,hd k h=true->σ k=h/\(A1 k bs).isSome=true) {v:Value} {c a:C} {obs:List Prop} {hh:List Nat}
  (hv:Rc w E v c) (h:To hd (A1 · s.boxes) c a=some (obs,hh)) (ho:∀ p ∈ obs,p) (hb:∀ k ∈ hh,k ∈ bor):Rc w (E.give bor bs σ π) v a:=by
 have dflt:Jg (A1 · s.boxes) (.v (.one c)) (.one a)=some (obs,hh)->Rc w (E.give bor bs σ π) v a:=by
  intro h;have r:=Abe hs (bor:=bor) (x:=.v (.one c)) (a:=.one a) (.v (.one hv)) h ho hb;have:=Rv.noH (E:=E.lend bor) (E':=E.give bor bs σ π) rfl rfl (Abg h) r
  cases this with | one h=>exact h
 unfold To at h;split at h
 . rename_i h0 o l k o' l'
   cases hc:hd k h0 with
   | false=>rw [hc] at h;cases h
   | true =>
    rw [hc] at h;simp only [cond,QF,QL] at h;obtain ⟨rfl,rfl⟩:=h;obtain ⟨e1,e2⟩:=hhd k h0 hc
    have p1:o=o':=ho _ (by simp)
    have p2:l=l':=ho _ (by simp)
    subst p1;subst p2
    cases hv with
    | hs _ _ _ g sz cap ad hβ hle had=>exact .hs k o l g sz cap ad (by show (if _ then _ else _)=_;rw [QC e2,e1];exact hβ) hle had
 . rename_i h0 o l k o' l'
   cases hc:hd k h0 with
   | false=>rw [hc] at h;cases h
   | true =>
    rw [hc] at h;simp only [cond,QF,QL] at h;obtain ⟨rfl,rfl⟩:=h;obtain ⟨e1,e2⟩:=hhd k h0 hc
    have p1:o=o':=ho _ (by simp)
    have p2:l=l':=ho _ (by simp)
    subst p1;subst p2
    cases hv with
    | hp _ _ _ g sz cap hβ=>exact .hp k o l g sz cap (by show (if _ then _ else _)=_;rw [QC e2,e1];exact hβ)
 . exact dflt h
theorem Aev (hs:A6 Γ w E s tmps) (hhd:∀ k h,hd k h=true->σ k=h/\(A1 k bs).isSome=true):∀ {vs:List Value} {cs as:List C} {obs:List Prop} {hh:List Nat},
  Fq w E vs cs->Qi hd (A1 · s.boxes) cs as=some (obs,hh)->(∀ p ∈ obs,p)->(∀ k ∈ hh,k ∈ bor)->Fq w (E.give bor bs σ π) vs as
 | vs,[],[],_,_,hv,_,_,_=>⟨hv.1,λj v c _ hc=>by simp at hc⟩
 | _,[],_::_,_,_,_,h,_,_=>by simp [Qi] at h
 | _,_::_,[],_,_,_,h,_,_=>by simp [Qi] at h
 | [],c::cs,a::as,_,_,hv,_,_,_=>by have:=hv.1;simp at this
 | v::vs,c::cs,a::as,obs,hh,hv,h,ho,hb=>by
  simp only [Qi] at h;split at h
  . rename_i p k ps ks h1 h2;simp only [QF,QL] at h;obtain ⟨rfl,rfl⟩:=h;have r1:=Aku (π:=π) hs hhd (bor:=bor) (hv.2 0 v c rfl rfl) h1 (λq hq=>ho q (QG.2 (.inl hq))) (λq hq=>hb q (QG.2 (.inl hq)))
    have r2:=Aev hs hhd (vs:=vs) (cs:=cs) ⟨by simpa using hv.1,λj v' c' h1 h2=>hv.2 (j+1) v' c' (by simpa using h1) (by simpa using h2)⟩ h2 (λq hq=>ho q (QG.2 (.inr hq))) (λq hq=>hb q (QG.2 (.inr hq)))
    refine ⟨by simp [r2.1],λj v' x' hv' hx'=>?_⟩
    cases j with
    | zero=>simp at hv' hx';subst hv';subst hx';exact r1
    | succ j=>exact r2.2 j v' x' (by simpa using hv') (by simpa using hx')
  . cases h
theorem Ba4 (hs:A6 Γ w E s tmps) (hhd:∀ k h,hd k h=true->σ k=h/\(A1 k bs).isSome=true) {v:Value} {x:S} {a:V} {obs:List Prop} {hh:List Nat}
  {im:Bool} (hv:Rs w E v x) (h:A48 hd (A1 · s.boxes) im x a=some (obs,hh)) (ho:∀ p ∈ obs,p) (hb:∀ k ∈ hh,k ∈ bor):Rv w (E.give bor bs σ π) v a:=by
 unfold A48 at h
 cases im with
 | true=>exact Rv.noH (E:=E.lend bor) (E':=E.give bor bs σ π) rfl rfl (Bep h) (Akt hs hv h ho hb)
 | false =>
 simp only [cond] at h;split at h
 . cases hv with | v hv=>cases hv with | one hv=>exact .one (Aku hs hhd hv h ho hb)
 . cases hv with | v hv=>cases hv with | agg hv=>exact .agg (Aev hs hhd hv h ho hb)
 . cases h
theorem Aeu (hs:A6 Γ w E s tmps) (hhd:∀ k h,hd k h=true->σ k=h/\(A1 k bs).isSome=true):∀ (is:List Bool) (xs:List S) (as:List V) (vs:List Value) (obs:List Prop) (hh:List Nat),vs.length=xs.length ->
  (∀ (j:Nat) v x,vs[j]? = some v->xs[j]? = some x->Rs w E v x)->K6 hd (A1 · s.boxes) is xs as=some (obs,hh)->(∀ p ∈ obs,p)->(∀ k ∈ hh,k ∈ bor)->P2 w (E.give bor bs σ π) vs as
 | [],[],[],vs,obs,hh,hl,_,_,_,_=>⟨by simpa using hl,λj v x _ hx=>by simp at hx⟩
 | i::is,x::xs,a::as,[],_,_,hl,_,_,_,_=>by simp at hl
 | i::is,x::xs,a::as,v::vs,obs,hh,hl,hv,h,ho,hb=>by
  simp only [K6] at h;split at h
  . rename_i p k ps ks h1 h2;simp only [QF,QL] at h;obtain ⟨rfl,rfl⟩:=h;have r1:=Ba4 (π:=π) (bor:=bor) hs hhd (hv 0 v x rfl rfl) h1 (λq hq=>ho q (QG.2 (.inl hq))) (λq hq=>hb q (QG.2 (.inl hq)))
    have r2:=Aeu hs hhd is xs as vs ps ks (by simpa using hl) (λj v x hv' hx'=>hv (j+1) v x (by simpa using hv') (by simpa using hx')) h2 (λq hq=>ho q (QG.2 (.inr hq))) (λq hq=>hb q (QG.2 (.inr hq)))
    refine ⟨by simp [r2.1],λj v' x' hv' hx'=>?_⟩
    cases j with
    | zero=>simp at hv' hx';subst hv';subst hx';exact r1
    | succ j=>exact r2.2 j v' x' (by simpa using hv') (by simpa using hx')
  . cases h
 | [],[],_::_,_,_,_,_,_,h,_,_=>by simp [K6] at h
 | [],_::_,_,_,_,_,_,_,h,_,_=>by simp [K6] at h
 | _::_,[],_,_,_,_,_,_,h,_,_=>by simp [K6] at h
 | _::_,_::_,[],_,_,_,_,_,h,_,_=>by simp [K6] at h
end
theorem C.okH_true {p:Nat->Bool} (hp:∀ h,p h=true) (c:C):c.okH p=true:=by cases c <;> first | rfl | exact hp _
theorem V.okH_true {p:Nat->Bool} (hp:∀ h,p h=true) (x:V):x.okH p=true:=by
 cases x with
 | one c=>exact C.okH_true hp c
 | agg cs=>exact QK.2 λc _=>C.okH_true hp c
theorem S.okH_true {p:Nat->Bool} (hp:∀ h,p h=true) (x:S):x.okH p=true:=by
 cases x with
 | v x=>exact V.okH_true hp x
 | tup xs=>exact QK.2 λx _=>V.okH_true hp x
 | dead=>rfl
structure No (p:Nat->Bool) (w w':World) (E E':Env):Prop where
 size:w.heap.size<=w'.heap.size
 blk:∀ tag g,g<w.heap.size->E.blk tag g->E'.blk tag g
 β:∀ h x,p h=true->E.β h=some x->E'.β h=some x
 cell:∀ tag g o v,E.blk tag g->w.cell? ⟨g,o,none⟩=some v->w'.cell? ⟨g,o,none⟩=some v
theorem Rc.keepOn {p:Nat->Bool} {w w':World} {E E':Env} (k:No p w w' E E') {v:Value} {x:C} (ho:x.okH p=true) (h:Rc w E v x):Rc w' E' v x:=by
 cases h with
 | i h=>exact .i (h.keepI k.size k.blk k.cell)
 | hs h off len g sz cap ad hβ hle had=>exact .hs h off len g sz cap ad (k.β _ _ ho hβ) hle had
 | hp h row col g sz cap hβ=>exact .hp h row col g sz cap (k.β _ _ ho hβ)
theorem Rv.keepOn {p:Nat->Bool} {w w':World} {E E':Env} (k:No p w w' E E') {v:Value} {x:V} (ho:x.okH p=true) (h:Rv w E v x):Rv w' E' v x:=by
 cases h with
 | one h=>exact .one (h.keepOn k ho)
 | agg h=>exact .agg ⟨h.1,λj v c hv hc=>(h.2 j v c hv hc).keepOn k (Eu ho hc)⟩
theorem Rs.keepOn {p:Nat->Bool} {w w':World} {E E':Env} (k:No p w w' E E') {v:Value} {x:S} (ho:x.okH p=true) (h:Rs w E v x):Rs w' E' v x:=by
 cases h with
 | v h=>exact .v (h.keepOn k ho)
 | tup h=>exact .tup ⟨h.1,λj v c hv hc=>(h.2 j v c hv hc).keepOn k (Eu ho hc)⟩
 | dead=>exact .dead
theorem No.rd {p:Nat->Bool} {w w':World} {E E':Env} (k:No p w w' E E') (h:Nat) (tr:Bool) (ho:∀ b,E.ω b=some h->E'.ω b=some h/\w'.heap[b]? = w.heap[b]?):No p w w' (E.rd h tr) (E'.rd h tr):=by
 cases tr with
 | false=>exact k
 | true =>
  have hb0:∀ tag g,(E.rd h true).blk tag g->E.blk tag g \/ (tag=0/\E.ω g=some h):=by
   intro tag g hb;unfold Env.blk at hb ⊢;by_cases e:tag=0
   . rw [QC e] at hb ⊢;by_cases hA:E.A g
     . refine .inr ⟨e,?_⟩;exact Classical.byContradiction λhn=>hb ⟨hA,hn⟩
     . exact .inl hA
   . rw [QB e] at hb ⊢;exact .inl hb
  refine ⟨k.size,λtag g hg hb=>?_,k.β,λtag g o v hb hc=>?_⟩
  . rcases hb0 tag g hb with h1 | ⟨e,h1⟩
    . have h2:=k.blk tag g hg h1;unfold Env.blk at h2 ⊢;by_cases e:tag=0
      . rw [QC e] at h2 ⊢;exact λh3=>h2 h3.1
      . rw [QB e] at h2 ⊢;exact h2
    . unfold Env.blk;rw [QC e];exact λh3=>h3.2 (ho g h1).1
  . rcases hb0 tag g hb with h1 | ⟨_,h1⟩
    . exact k.cell tag g o v h1 hc
    . rw [World.cell?_of_block (a:=⟨g,o,none⟩) (ho g h1).2];exact hc
def A6p (y:I):Prop:=(∃ v,y = .lit v) \/ ∃ nl sz rows,y = .sl 0 nl sz rows /\ ∀ (i:Nat) (r:List I) (j:Nat) (c:I),rows[i]? = some r->r[j]? = some c->∃ v,c = .lit v
theorem Ri.flat {w:World} {E E':Env} {v:Value} {y:I} (h:Ri w E v y) (hy:A6p y) (hb:∀ a len cap,v = .slice (some a) len cap->0<len->E'.blk 0 a.block):Ri w E' v y:=by
 cases h with
 | lit v h=>exact .lit v h
 | nil tag sz cap a nl hn hc=>exact .nil tag sz cap a nl hn hc
 | sl tag sz g o cap rows vs hne hcap hg hbk hlen hcell hrc =>
  rcases hy with ⟨_,hy⟩ | ⟨nl,sz',rows',hy,hl⟩
  . cases hy
  . obtain ⟨rfl,rfl,rfl,rfl⟩:=I.sl.inj hy;refine .sl 0 sz g o cap rows vs hne hcap hg (hb _ _ _ rfl (XU.2 hne)) hlen hcell (λi r j c hi hj=>?_);obtain ⟨u,rfl⟩:=hl i r j c hi hj;have:=hrc i r j _ hi hj;generalize vs i j=z at this ⊢
    cases this with | lit _ h=>exact .lit _ h
 | ref=>rcases hy with ⟨_,hy⟩ | ⟨_,_,_,hy,_⟩ <;> cases hy
 | fn=>rcases hy with ⟨_,hy⟩ | ⟨_,_,_,hy,_⟩ <;> cases hy
 | any=>rcases hy with ⟨_,hy⟩ | ⟨_,_,_,hy,_⟩ <;> cases hy
def Box.ren (σ:Nat->Nat) (b:Box):Box:={ b with rows:=b.rows.map λr=>r.map (C.ren σ) }
def Box.okH (p:Nat->Bool) (b:Box):Bool:=b.rows.all λr=>r.all (C.okH p)
theorem Box.okH_get {p:Nat->Bool} {b:Box} (h:b.okH p=true) {i j:Nat} {r:List C} {c:C} (hr:b.rows[i]? = some r) (hc:r[j]? = some c):c.okH p=true:=Eu (Eu h hr) hc
theorem C.ren_i {σ:Nat->Nat} {c:C} {x:I} (h:c.ren σ = .i x):c = .i x:=by cases c <;> first | exact h | cases h
theorem Box.ren_get {σ:Nat->Nat} {b:Box} {i j:Nat} {r:List C} {c:C} (hr:b.rows[i]? = some r) (hc:r[j]? = some c):(b.ren σ).rows[i]? = some (r.map (C.ren σ))/\(r.map (C.ren σ))[j]? = some (c.ren σ):=by
 simp [Box.ren,hr,hc]
theorem Box.ren_inv {σ:Nat->Nat} {b:Box} {i j:Nat} {r:List C} {c:C} (hr:(b.ren σ).rows[i]? = some r) (hc:r[j]? = some c):∃ r0 c0,b.rows[i]? = some r0/\r0[j]? = some c0/\c=c0.ren σ:=by
 simp only [Box.ren,QQ,QI] at hr;obtain ⟨r0,h1,rfl⟩:=hr;rw [QQ,QI] at hc;obtain ⟨c0,h2,rfl⟩:=hc;exact ⟨r0,c0,h1,h2,rfl⟩
theorem Box.ren_row {σ:Nat->Nat} {b:Box} {i:Nat} {r:List C} (hr:(b.ren σ).rows[i]? = some r):∃ r0,b.rows[i]? = some r0/\r=r0.map (C.ren σ):=by
 simp only [Box.ren,QQ,QI] at hr;obtain ⟨r0,h1,rfl⟩:=hr;exact ⟨r0,h1,rfl⟩
theorem C.ren_ren {σ ρ:Nat->Nat} {p:Nat->Bool} (hp:∀ k,p k=true->ρ (σ k)=k) {c:C} (h:c.okH p=true):(c.ren σ).ren ρ=c:=by
 cases c with
 | i x=>rfl
 | hs k o l=>simp only [C.ren,hp k h]
 | hp k o l=>simp only [C.ren,hp k h]
theorem Box.ren_ren {σ ρ:Nat->Nat} {p:Nat->Bool} (hp:∀ k,p k=true->ρ (σ k)=k) {b:Box} (h:b.okH p=true):(b.ren σ).ren ρ=b:=by
 obtain ⟨e,sz,hf,fz,rows,tr⟩:=b;simp only [Box.ren,XC,Box.mk.injEq,Qaf,and_true];have h:rows.all (λr=>r.all (C.okH p))=true:=h;refine (ZE λr hr=>?_).trans (List.map_id rows);simp only [Function.comp,XC,id];refine (ZE λc hc=>?_).trans (List.map_id r);simp only [Function.comp,id];exact C.ren_ren hp (QK.1 (QK.1 h r hr) c hc)
theorem C.okH_ren {σ:Nat->Nat} {p q:Nat->Bool} (hp:∀ k,p k=true->q (σ k)=true) {c:C} (h:c.okH p=true):(c.ren σ).okH q=true:=by
 cases c with
 | i x=>rfl
 | hs k o l=>exact hp k h
 | hp k o l=>exact hp k h
theorem Box.okH_ren {σ:Nat->Nat} {p q:Nat->Bool} (hp:∀ k,p k=true->q (σ k)=true) {b:Box} (h:b.okH p=true):(b.ren σ).okH q=true:=by
 simp only [Box.okH,Box.ren,YB,QK,Function.comp];exact λr hr c hc=>C.okH_ren hp (QK.1 (QK.1 h r hr) c hc)
theorem C3.unren {w w':World} {E E':Env} {σ:Nat->Nat} {b:Box} {g cap:Nat} (h:C3 w E (b.ren σ) g cap) (hb:w'.heap[g]? = w.heap[g]?)
  (hc:∀ (i:Nat) (r:List C) (j:Nat) (c:C) v,b.rows[i]? = some r->r[j]? = some c->Rc w E v (c.ren σ)->Rc w' E' v c)
  (hA:E.A g->E'.A g) (ht:∀ t,E'.τ t ≠ some g):C3 w' E' b g cap:=by
 obtain ⟨arr,hg,hs,hl,hm,hlen,hcell,hhf,hfz,_⟩:=h
 refine ⟨arr,hb.trans hg,hs,by simpa [Box.ren] using hl,hm,λi r hr=>?_,λi r j c hi hj=>?_,λe i r j c hi hj=>?_,λe=>hA (hfz e),ht⟩
 . have:=hlen i (r.map (C.ren σ)) (by simp [Box.ren,hr])
   simpa [Box.ren] using this
 . obtain ⟨h1,h2⟩:=Box.ren_get (σ:=σ) hi hj;obtain ⟨v,hv,hr⟩:=hcell i _ j _ h1 h2;exact ⟨v,hv,hc i r j c v hi hj hr⟩
 . obtain ⟨h1,h2⟩:=Box.ren_get (σ:=σ) hi hj;obtain ⟨x,hx⟩:=hhf e i _ j _ h1 h2;exact ⟨x,C.ren_i hx⟩
theorem C3.ren_ {w w':World} {E E':Env} {σ:Nat->Nat} {b:Box} {g cap:Nat} (h:C3 w E b g cap) (hb:w'.heap[g]? = w.heap[g]?)
  (hc:∀ (i:Nat) (r:List C) (j:Nat) (c:C) v,b.rows[i]? = some r->r[j]? = some c->w.cell? ⟨g,i*b.sz+j,none⟩=some v->Rc w E v c->Rc w' E' v (c.ren σ))
  (hA:E.A g->E'.A g) (ht:∀ t,E'.τ t ≠ some g):C3 w' E' (b.ren σ) g cap:=by
 obtain ⟨arr,hg,hs,hl,hm,hlen,hcell,hhf,hfz,_⟩:=h
 refine ⟨arr,hb.trans hg,hs,by simpa [Box.ren] using hl,hm,λi r hr=>?_,λi r j c hi hj=>?_,λe i r j c hi hj=>?_,λe=>hA (hfz e),ht⟩
 . obtain ⟨r0,h1,rfl⟩:=Box.ren_row hr;simpa [Box.ren] using hlen i r0 h1
 . obtain ⟨r0,c0,h1,h2,rfl⟩:=Box.ren_inv hi hj;obtain ⟨v,hv,hr⟩:=hcell i r0 j c0 h1 h2
   exact ⟨v,hv,hc i r0 j c0 v h1 h2 (by simp [World.cell?,hg,hv]) hr⟩
 . obtain ⟨r0,c0,h1,h2,rfl⟩:=Box.ren_inv hi hj;obtain ⟨x,rfl⟩:=hhf e i r0 j c0 h1 h2;exact ⟨x,rfl⟩
theorem P1.unren {w:World} {E:Env} {σ:Nat->Nat} {h:Nat} {b:Box} {g:Nat} (hs:P1 w E h (b.ren σ) g):P1 w E h b g :=
 ⟨λi r j y len cap a h1 h2 h3 h4 h5=>hs.1 i _ j y len cap a (Box.ren_get h1 h2).1 (Box.ren_get h1 h2).2 h3 h4 h5,
  λi r j y i' r' j' y' len len' cap cap' a a' h1 h2 h3 h1' h2' h3' hn h4 h4' h5 h5'=>hs.2.1 i _ j y i' _ j' y' len len' cap cap' a a' (Box.ren_get h1 h2).1 (Box.ren_get h1 h2).2 h3 (Box.ren_get h1' h2').1 (Box.ren_get h1' h2').2 h3' hn h4 h4' h5 h5',
  λi r j y len cap a h1 h2 h3 h4 h5=>hs.2.2 i _ j y len cap a (Box.ren_get h1 h2).1 (Box.ren_get h1 h2).2 h3 h4 h5⟩
theorem P1.ren_ {w:World} {E:Env} {σ:Nat->Nat} {h:Nat} {b:Box} {g:Nat} (hs:P1 w E h b g):P1 w E h (b.ren σ) g:=by
 have inv:∀ {i j:Nat} {r:List C} {y:I},(b.ren σ).rows[i]? = some r->r[j]? = some (.i y)->∃ r0,b.rows[i]? = some r0/\r0[j]? = some (.i y):=by
  intro i j r y h1 h2;obtain ⟨r0,c0,q1,q2,q3⟩:=Box.ren_inv h1 h2;obtain rfl:=C.ren_i q3.symm;exact ⟨r0,q1,q2⟩
 refine ⟨λi r j y len cap a h1 h2 h3 h4 h5=>?_,λi r j y i' r' j' y' len len' cap cap' a a' h1 h2 h3 h1' h2' h3' hn h4 h4' h5 h5'=>?_,λi r j y len cap a h1 h2 h3 h4 h5=>?_⟩
 . obtain ⟨r0,q1,q2⟩:=inv h1 h2;exact hs.1 i r0 j y len cap a q1 q2 h3 h4 h5
 . obtain ⟨r0,q1,q2⟩:=inv h1 h2;obtain ⟨r1,q3,q4⟩:=inv h1' h2';exact hs.2.1 i r0 j y i' r1 j' y' len len' cap cap' a a' q1 q2 h3 q3 q4 h3' hn h4 h4' h5 h5'
 . obtain ⟨r0,q1,q2⟩:=inv h1 h2;exact hs.2.2 i r0 j y len cap a q1 q2 h3 h4 h5
theorem A7j {Γ:Ctx} {w:World} {E:Env} {s s':St} {tmps:Array Value} (hs:A6 Γ w E s tmps) {f:FuncId} {as:List V} {vs:List Value} {r:S} {nt':Nat} {bor:List Nat} {bs bs':List (Nat × Box)} (σ:Nat->Nat) (π:Nat->Option Nat) (mv:List Nat) (gone:Nat->Bool)
  (hg1:∀ k,(A1 k bs).isSome=true->mv.contains k=true->gone (σ k)=true) (hg2:∀ h,gone h=true->h<1000 \/ Γ.K.mv.contains h=true)
  (hg3:∀ t x,A1 t s.slots=some x->x.okH (λh=>!gone h)=true) (hg4:∀ h b,A1 h s.boxes=some b->b.hf=true \/ ∀ (i:Nat) (q:List C) (j:Nat) (c:C),b.rows[i]? = some q->q[j]? = some c->c.okH (λh=>!gone h)=true)
  (hd:Me P f s.nt mv bs as r nt' bs') (hv:P2 w (E.give bor bs σ π) vs as)
  (hπ1:∀ k,(A1 k bs').isSome=true->π (σ k)=some k) (hπ2:∀ h k,π h=some k->σ k=h/\(A1 k bs').isSome=true)
  (hi:∀ k b,A1 k bs=some b->1000<=k/\A1 (σ k) s.boxes=some (b.ren σ)/\b.fz=false/\b.okH (λk=>(A1 k bs).isSome)=true/\σ k ∉ bor/\(A1 k bs').isSome=true)
  (ho:∀ k b,A1 k bs'=some b->b.okH (λk=>(A1 k bs').isSome)=true/\(A1 k bs=none->A1 (σ k) s.boxes=none/\σ k<1000))
  (hcl:bor=[] \/ (r.allI IClosed /\ ∀ k b,A1 k bs'=some b->∀ (i:Nat) (q:List C) (j:Nat) (c:C),b.rows[i]? = some q->q[j]? = some c->c.allI λy=>IClosed y \/ (b.tr=true/\A6p y)))
  (hr:r.okH (λk=>(A1 k bs').isSome)=true) (hfz:∀ h ∈ bor,∃ b,A1 h s.boxes=some b/\b.fz=false)
  (hs1:∀ h,A1 h s'.boxes=match π h with | some k=>(A1 k bs').map (Box.ren σ) | none=>A1 h s.boxes) (hs2:∀ t x,A1 t s'.slots=some x->x = .dead \/ A1 t s.slots=some x) (hs3:s'.nt=nt') :
  Calls P f vs.toArray w (λe w'=>∃ v E',e = .returned v/\Rs w' E' v (r.ren σ)/\A6 Γ w' E' s' tmps):=by
 have lentA:∀ g,V3 E bor g->E.A g/\g<w.heap.size /\ ∀ t,E.τ t ≠ some g:=by
  rintro g ⟨h,hh,hz⟩
  obtain ⟨b,hb,hf⟩:=hfz h hh;rcases hz with ⟨z,hz⟩ | hz
  . obtain ⟨_,_,_,ha,hA,hT,_⟩:=(hs.boxes h b hb).facts hz;exact ⟨hA hf,(ZU.1 ha).1,hT⟩
  . obtain ⟨h1,h2,_⟩:=hs.wf.om g h hz;exact ⟨h1,hs.wf.alt g h1,h2⟩
 let E1:=E.give bor bs σ π
 have ω1:∀ g k,E1.ω g=some k ↔ E.ω g=some (σ k)/\(A1 k bs).isSome=true:=by
  intro g k
  show ((E.ω g).bind λh=>(π h).bind λk=>if (A1 k bs).isSome then some k else none)=some k ↔ _
  constructor
  . intro h;obtain ⟨h0,e1,h⟩:=YX.1 h;obtain ⟨k0,e2,h⟩:=YX.1 h;split at h
    . rename_i e3;obtain rfl:=QA h;rw [(hπ2 h0 k0 e2).1];exact ⟨e1,e3⟩
    . cases h
  . rintro ⟨e1,e2⟩
    obtain ⟨b,hb⟩:=QZ.1 e2;rw [e1,XY,hπ1 k (hi k b hb).2.2.2.2.2,XY,QC e2]
 have E1β:∀ k b,A1 k bs=some b->E1.β k=E.β (σ k):=λk b hb=>by
  show (if _ then _ else _)=_
  rw [QC (by rw [hb];rfl)]
 have notlent:∀ k b g z,A1 k bs=some b->E.β (σ k)=some (g,z)->¬ V3 E bor g:=by
  rintro k b g z hb hz ⟨h,hh,hz'⟩
  obtain ⟨_,h2,_,_,h5,_⟩:=hi k b hb;obtain ⟨b',hb',_⟩:=hfz h hh;rcases hz' with ⟨z',hz'⟩ | hz'
  . exact hs.inj h (σ k) b' _ g g z' z hb' h2 hz' hz (λe=>h5 (e ▸ hh)) rfl
  . obtain ⟨_,_,_,_,_,_,hω⟩:=(hs.boxes _ _ h2).facts hz;rw [hω] at hz';cases hz'
 have notlentω:∀ k b g,A1 k bs=some b->E.ω g=some (σ k)->¬ V3 E bor g:=by
  rintro k b g hb hz ⟨h,hh,hz'⟩
  obtain ⟨_,h2,_,_,h5,_⟩:=hi k b hb;obtain ⟨b',hb',_⟩:=hfz h hh;rcases hz' with ⟨z',hz'⟩ | hz'
  . obtain ⟨_,_,_,_,_,_,hω⟩:=(hs.boxes h b' hb').facts hz';rw [hω] at hz;cases hz
  . rw [hz] at hz';exact h5 (QA hz' ▸ hh)
 have hin:FIn w E1 s.nt bs:=by
  refine ⟨⟨λb hb=>hs.wf.alt b hb.1,λt g ht=>?_,hs.wf.inj,λg k hk=>?_⟩,λk b hb=>?_,λk k' b b' g g' z z' hb hb' hz hz' hk=>?_,λk x hx=>?_,λg k hk=>((ω1 g k).1 hk).2⟩
  . obtain ⟨h1,h2,h3⟩:=hs.wf.tag t g ht;exact ⟨h1,h2,h3,λhl=>(lentA g hl).2.2 t ht⟩
  . obtain ⟨e1,e2⟩:=(ω1 g k).1 hk;obtain ⟨b,hb⟩:=QZ.1 e2;obtain ⟨h1,h2,h3⟩:=hs.wf.om g _ e1;exact ⟨⟨h1,notlentω k b g hb e1⟩,h2,h3⟩
  . obtain ⟨h1,h2,h3,h4,h5,_⟩:=hi k b hb;obtain ⟨g,cap,hβ,hat,hω,hS⟩:=hs.boxes _ _ h2;have hnl:=notlent k b g _ hb hβ
    have hω':E1.ω g=none:=by
     cases e:E1.ω g with
     | none=>rfl
     | some k'=>have:=((ω1 g k').1 e).1;rw [hω] at this;cases this
    refine ⟨⟨g,cap,(E1β k b hb).trans hβ,C3.unren (σ:=σ) hat rfl (λi q j c v hq hc hrc=>?_) (λhA=>(Env.rd_A hω').2 ⟨(Env.rd_A hω).1 hA,hnl⟩) ?_,hω',λe=>?_⟩,h3,h1⟩
    rotate_left 2
    . have hS':=(hS e).unren
      refine ⟨λi r j y len cap a h1 h2 h3 h4 h5=>(ω1 _ _).2 ⟨hS'.1 i r j y len cap a h1 h2 h3 h4 h5,by rw [hb];rfl⟩,hS'.2⟩
    . have hok:=Box.okH_get h4 hq hc
      have hβk:∀ k',(A1 k' bs).isSome=true->(E1.rd k b.tr).β k'=(E.rd (σ k) (b.ren σ).tr).β (σ k'):=λk' hk'=>by
       obtain ⟨b',hb'⟩:=QZ.1 hk';rw [Env.rd_β,Env.rd_β];exact E1β k' b' hb'
      cases c with
      | hs k' off len=>cases hrc with | hs _ _ _ g sz cap ad hβ hle had=>exact .hs k' off len g sz cap ad ((hβk k' hok).trans hβ) hle had
      | hp k' row col=>cases hrc with | hp _ _ _ g sz cap hβ=>exact .hp k' row col g sz cap ((hβk k' hok).trans hβ)
      | i x =>
      cases hrc with
      | i hri =>
       refine .i (hri.keepI (ZF _) (λtag g _ hb'=>?_) (λ_ _ _ _ _ h=>h));unfold Env.blk at hb' ⊢;split
       . rename_i e;rw [QC e] at hb'
         cases htr:b.tr with
         | false=>rw [show (b.ren σ).tr=false from htr] at hb';exact λh=>hb' h.1
         | true =>
          rw [show (b.ren σ).tr=true from htr] at hb'
          exact λh=>hb' ⟨h.1.1,λh4=>h.2 ((ω1 _ _).2 ⟨h4,by rw [hb];rfl⟩)⟩
       . rename_i e;rw [QB e,Env.rd_τ] at hb';rw [Env.rd_τ];exact hb'
    . obtain ⟨_,_,_,_,_,_,_,_,_,hT⟩:=hat;rw [Env.rd_τ] at hT ⊢;exact hT
  . rw [E1β k b hb] at hz;rw [E1β k' b' hb'] at hz';have e1:=hi k b hb;have e2:=hi k' b' hb';refine hs.inj _ _ _ _ g g' z z' e1.2.1 e2.2.1 hz hz' λe=>hk ?_;have h1:=hπ1 k e1.2.2.2.2.2;have h2:=hπ1 k' e2.2.2.2.2.2;rw [e,h2] at h1;exact (QA h1).symm
  . by_cases hk:(A1 k bs).isSome=true
    . exact hk
    . have:E1.β k=none:=by show (if _ then _ else _)=_;rw [QB hk]
      rw [this] at hx;cases hx
 refine Calls.mono' (hd.2 w E1 vs hin hv) ?_
 rintro e w' ⟨v,Ec,rfl,hrv,hout⟩
 let hand:Nat->Prop:=handed E1 bs
 have handOld:∀ g,hand g->∃ h b,A1 h s.boxes=some b/\((∃ z,E.β h=some (g,z)) \/ E.ω g=some h)/\b.fz=false /\ ∃ k,σ k=h/\(A1 k bs).isSome=true:=by
  rintro g ⟨k,b,hb,hz⟩
  obtain ⟨h1,h2,h3,_⟩:=hi k b hb
  refine ⟨σ k,b.ren σ,h2,?_,h3,k,rfl,by rw [hb];rfl⟩
  rcases hz with ⟨z,hz⟩ | hz
  . rw [E1β k b hb] at hz;exact .inl ⟨z,hz⟩
  . exact .inr ((ω1 g k).1 hz).1
 have handA:∀ g,hand g->E.A g/\g<w.heap.size /\ ∀ t,E.τ t ≠ some g:=by
  intro g hg;obtain ⟨h,b,hb,hz,hf,_⟩:=handOld g hg;rcases hz with ⟨z,hz⟩ | hz
  . obtain ⟨_,_,_,ha,hA,hT,_⟩:=(hs.boxes h b hb).facts hz;exact ⟨hA hf,(ZU.1 ha).1,hT⟩
  . obtain ⟨h1,h2,_⟩:=hs.wf.om g h hz;exact ⟨h1,hs.wf.alt g h1,h2⟩
 have hblock:∀ b,b<w.heap.size->¬ hand b->w'.heap[b]? = w.heap[b]?:=λb hb hn=>hout.fr.block b hb hn;have ht:Mb w w' hand:=⟨hout.fr.os,hout.fr.tape,hout.fr.output,hout.fr.size,hblock⟩
 let β':Nat->Option (Nat × Nat × Nat):=λh=>match π h with | some k=>Ec.β k | none=>E.β h
 let ω':Nat->Option Nat:=λg=>@ite _ (hand g \/ w.heap.size<=g) (Classical.propDecidable _) ((Ec.ω g).bind λk=>if (A1 k bs').isSome then some (σ k) else none) (E.ω g)
 let E':Env:=⟨λb=>Ec.A b \/ V3 E bor b,Ec.τ,β',ω'⟩
 have E'k:∀ k,(A1 k bs').isSome=true->E'.β (σ k)=Ec.β k:=λk hk=>by
  show (match π (σ k) with | some k=>Ec.β k | none=>E.β (σ k))=_
  rw [hπ1 k hk]
 have E'o:∀ h,π h=none->E'.β h=E.β h:=λh hh=>by
  show (match π h with | some k=>Ec.β k | none=>E.β h)=_
  rw [hh]
 have ωnew:∀ g,hand g \/ w.heap.size<=g->E'.ω g=(Ec.ω g).bind λk=>if (A1 k bs').isSome then some (σ k) else none:=λg hg=>QC hg
 have ωold:∀ g,¬ (hand g \/ w.heap.size<=g)->E'.ω g=E.ω g:=λg hg=>QB hg
 have ωk:∀ g k,(A1 k bs').isSome=true->Ec.ω g=some k->E'.ω g=some (σ k):=by
  intro g k hk hg;have:hand g \/ w.heap.size<=g:=(hout.tow g k hg).symm;rw [ωnew g this,hg,XY,QC hk]
 have ωinv:∀ g h,E'.ω g=some h->(∃ k,(A1 k bs').isSome=true/\σ k=h/\Ec.ω g=some k/\(hand g \/ w.heap.size<=g)) \/ (E.ω g=some h /\ ¬ hand g/\g<w.heap.size):=by
  intro g h hg;by_cases hp:hand g \/ w.heap.size<=g
  . rw [ωnew g hp] at hg;obtain ⟨k,e1,e2⟩:=YX.1 hg;split at e2
    . rename_i e3;exact .inl ⟨k,e3,QA e2,e1,hp⟩
    . cases e2
  . rw [ωold g hp] at hg;exact .inr ⟨hg,λh=>hp (.inl h),Nat.lt_of_not_le λh=>hp (.inr h)⟩
 have hAold:∀ b,b<w.heap.size->(E'.A b ↔ E.A b):=by
  intro b hb;have:=hout.old b hb;constructor
  . rintro (h' | h')
    . exact (this.1 h').1
    . exact (lentA b h').1
  . intro h';by_cases hlb:V3 E bor b
    . exact .inr hlb
    . exact .inl (this.2 ⟨h',hlb⟩)
 have stays:∀ k b,A1 k bs=some b->mv.contains k=false->Ec.β k=E.β (σ k):=λk b hb hm=>(hout.stay k b hb hm).1.trans (E1β k b hb)
 have kk:No (λh=>!gone h) w w' E E':=by
  refine ⟨ht.size,λtag g hg hb=>?_,λh x hng hx=>?_,λtag g o v hb hc=>ht.cell hc (λhh=>?_)⟩
  . unfold Env.blk at hb ⊢;split
    . rename_i e;rw [QC e] at hb;exact λh'=>hb ((hAold g hg).1 h')
    . rename_i e;rw [QB e] at hb;exact (hout.tag tag (hs.wf.tag tag g hb).1).trans hb
  . cases hp:π h with
    | none=>rw [E'o h hp];exact hx
    | some k =>
     obtain ⟨e1,e2⟩:=hπ2 h k hp;subst e1;rw [E'k k e2]
     cases hb:A1 k bs with
     | some b =>
      have hm:mv.contains k=false:=by
       cases hm:mv.contains k with
       | false=>rfl
       | true=>simp only [hg1 k (by rw [hb];rfl) hm,ZJ] at hng;cases hng
      rw [stays k b hb hm];exact hx
     | none =>
      obtain ⟨b',hb'⟩:=QZ.1 e2;have:=((ho k b' hb').2 hb).1;have hd':=hs.dom _ _ hx;rw [this] at hd';cases hd'
  . have:=handA g hh;unfold Env.blk at hb;split at hb
    . exact hb this.1
    . exact this.2.2 _ hb
 have tagfr:∀ g,g<w.heap.size->(∀ t,E.τ t ≠ some g)->∀ t,E'.τ t ≠ some g:=by
  intro g hg hT t ht';by_cases hlt:t<s.nt
  . exact hT t ((hout.tag t hlt).symm.trans ht')
  . have:=hout.new t g (by omega) ht'
    omega
 have kI:∀ (Q:I->Prop),(bor=[] \/ ∀ y,Q y->IClosed y)->∀ v y,Ri w' Ec v y->Q y->Ri w' E' v y:=by
  intro Q hQ v y hy hq;rcases hQ with hQ | hQ
  . have hA0 : E'.A = Ec.A := by
     funext b
     exact propext ⟨λh=>h.elim id (λ⟨_,hh,_⟩=>by rw [hQ] at hh;cases hh),λh=>.inl h⟩
    refine hy.keepI (ZF _) (λtag g _ hb=>?_) (λ_ _ _ _ _ h=>h);unfold Env.blk at hb ⊢;rw [hA0];exact hb
  . exact Ri.closed (E:=Ec) (E':=E') rfl hy (hQ y hq)
 have kB:∀ k b g cap,A1 k bs'=some b->C3 w' (Ec.rd k b.tr) b g cap->(b.tr=true->P1 w' Ec k b g)->∀ (i:Nat) (q:List C) (j:Nat) (y:I) v,b.rows[i]? = some q->q[j]? = some (.i y)->w'.cell? ⟨g,i*b.sz+j,none⟩=some v->Ri w' (Ec.rd k b.tr) v y->Ri w' (E'.rd (σ k) b.tr) v y:=by
  intro k b g cap hk hat hS i q j y v hq hc hcell hri
  have hks:(A1 k bs').isSome=true:=by rw [hk];rfl
  rcases hcl with hb0 | ⟨_,hc0⟩
  . cases htr:b.tr with
    | false =>
     rw [htr] at hri;exact kI (λ_=>True) (.inl hb0) _ _ hri trivial
    | true =>
     rw [htr] at hri
     have hA0:E'.A=Ec.A:=by
      funext b
      exact propext ⟨λh=>h.elim id (λ⟨_,hh,_⟩=>by rw [hb0] at hh;cases hh),λh=>.inl h⟩
     refine hri.keepI (ZF _) (λtag g' _ hb=>?_) (λ_ _ _ _ _ h=>h);unfold Env.blk at hb ⊢;split
     . rename_i e;rw [QC e] at hb
       rintro ⟨h1,h2⟩
       rw [hA0] at h1;exact hb ⟨h1,λh3=>h2 (ωk g' k hks h3)⟩
     . rename_i e;rw [QB e] at hb;exact hb
  . have hc1:=hc0 k b hk i q j _ hq hc;have hc1:IClosed y \/ (b.tr=true/\A6p y):=hc1;rcases hc1 with hc1 | ⟨htr,hfl⟩
    . exact Ri.closed (E:=Ec.rd k b.tr) (E':=E'.rd (σ k) b.tr) (by rw [Env.rd_τ,Env.rd_τ]) hri hc1
    . have hfl':=hfl;rcases hfl with ⟨u,rfl⟩ | ⟨nl,sz',rows',rfl,_⟩
      . cases hri with | lit _ h=>exact .lit _ h
      refine hri.flat hfl' λa len cap' hv hl=>?_;subst hv;have:=(hS htr).1 i q j _ len cap' a hq hc rfl hcell hl;rw [htr];unfold Env.blk;rw [QC rfl];exact λh=>h.2 (ωk _ k hks this)
 have ownc:∀ k b g z,A1 k bs'=some b->Ec.β k=some (g,z)->w.heap.size<=g \/ ∃ b0 z0,A1 k bs=some b0/\E.β (σ k)=some (g,z0):=by
  intro k b g z hb hz;rcases hout.own k b g z hb hz with h | ⟨b0,z0,h1,h2⟩
  . exact .inl h
  . rw [E1β k b0 h1] at h2;exact .inr ⟨b0,z0,h1,h2⟩
 have getb:∀ h b,A1 h s'.boxes=some b->(∃ k,π h=some k/\σ k=h/\(∃ b0,A1 k bs'=some b0/\b=b0.ren σ)/\E'.β h=Ec.β k) \/ (π h=none/\A1 h s.boxes=some b/\E'.β h=E.β h):=by
  intro h b hb;rw [hs1 h] at hb
  cases hp:π h with
  | none=>rw [hp] at hb;exact .inr ⟨rfl,hb,E'o h hp⟩
  | some k =>
   rw [hp] at hb;obtain ⟨e1,e2⟩:=hπ2 h k hp;obtain ⟨b0,hb0,rfl⟩:=QI.1 hb
   exact .inl ⟨k,rfl,e1,⟨b0,hb0,rfl⟩,by rw [<- e1];exact E'k k e2⟩
 refine ⟨v,E',rfl,?_,?_⟩
 . rcases hcl with hb | ⟨hc,_⟩
   . exact Rs.ren (Q:=λ_=>True) (kI _ (.inl hb)) (λk hk=>E'k k hk) hr S.allI_true hrv
   . exact Rs.ren (Q:=IClosed) (kI _ (.inr λ_ h=>h)) (λk hk=>E'k k hk) hr hc hrv
 . refine ⟨hs.fr.trans ht.os ht.tape ht.output ht.size (λb hb hnp=>hblock b (XB hb hs.fr.size) (λhh=>?_)),⟨λb hb=>?_,λt g htg=>?_,hout.wf.inj,λg h hg=>?_⟩,λb hb=>?_,by rw [hs3];exact ZQ hs.nt hout.ntle,λt htn=>?_,λt g htn htg=>?_,λh b hb=>?_,λh h' b b' g g' z z' hb hb' hz hz' hne=>?_,λh b g z hb hz=>?_,λt x hx=>?_,hs.tsize,λh x hx=>?_,λh hh hh2 hm=>?_,λh b g z hb hβ hf hA=>?_,λb o hb=>⟨(hs.held b o hb).1,(hblock b (ZU.1 (hs.held b o hb).2).1 (λhh=>?_)).trans (hs.held b o hb).2⟩,λg h hg=>?_⟩
   . obtain ⟨h,bx,h1,h2,_⟩:=handOld b hh;rcases h2 with ⟨z,h2⟩ | h2
     . rcases hs.own h bx b z h1 h2 with h' | h'
       . omega
       . exact hnp h'.1
     . rcases hs.tow b h h2 with h' | h'
       . omega
       . exact hnp h'
   . rcases hb with hb | hb
     . exact hout.wf.alt b hb
     . exact XB (lentA b hb).2.1 ht.size
   . obtain ⟨h1,h2,h3⟩:=hout.wf.tag t g htg;rw [hs3];exact ⟨h1,h2,.inl h3⟩
   . rcases ωinv g h hg with ⟨k,e1,e2,e3,_⟩ | ⟨e1,e2,e3⟩
     . obtain ⟨h1,h2,h3⟩:=hout.wf.om g k e3;exact ⟨.inl h1,h2,h3⟩
     . obtain ⟨h1,h2,o,h3,h4⟩:=hs.wf.om g h e1;exact ⟨(hAold g e3).2 h1,tagfr g e3 h2,o,(hblock g e3 e2).trans h3,h4⟩
   . rw [hAold b (XB hb hs.fr.size)];exact hs.old b hb
   . exact (hout.tag t (XB htn hs.nt)).trans (hs.tag t htn)
   . by_cases hlt:t<s.nt
     . exact hs.new t g htn ((hout.tag t hlt).symm.trans htg)
     . exact ZQ hs.fr.size (hout.new t g (by omega) htg)
   . rcases getb h b hb with ⟨k,hp,hσ,⟨b,hk,rfl⟩,hβ⟩ | ⟨hp,hk,hβ⟩
     . obtain ⟨g,cap,hβ',hat,hω,hS⟩:=(hout.boxes k b hk).1;have hat0:=hat
       have hω':E'.ω g=none:=by
        cases e:E'.ω g with
        | none=>rfl
        | some h0 =>
         rcases ωinv g h0 e with ⟨k',_,_,e3,_⟩ | ⟨_,e2,e3⟩
         . rw [hω] at e3;cases e3
         . rcases hout.own k b g _ hk hβ' with h4 | ⟨b0,_,h5,h6⟩
           . omega
           . exact absurd ⟨k,b0,h5,.inl ⟨_,h6⟩⟩ e2
       have a9:∀ t,Ec.τ t ≠ some g:=by obtain ⟨_,_,_,_,_,_,_,_,_,a9⟩:=hat;rw [Env.rd_τ] at a9;exact a9
       refine ⟨g,cap,hβ.trans hβ',C3.ren_ hat rfl (λi q j c v hq hc hv1 hrc=>?_) (λe=>(Env.rd_A hω').2 (.inl ((Env.rd_A hω).1 e))) (by rw [Env.rd_τ];exact a9),hω',λe=>?_⟩
       . have hok:=Box.okH_get (ho k b hk).1 hq hc
         have hβk:∀ k',(A1 k' bs').isSome=true->(E'.rd h (b.ren σ).tr).β (σ k')=(Ec.rd k b.tr).β k':=λk' hk'=>by
          rw [Env.rd_β,Env.rd_β];exact E'k k' hk'
         cases c with
         | hs k' off len=>cases hrc with | hs _ _ _ g sz cap ad hβ hle had=>exact .hs (σ k') off len g sz cap ad ((hβk k' hok).trans hβ) hle had
         | hp k' row col=>cases hrc with | hp _ _ _ g sz cap hβ=>exact .hp (σ k') row col g sz cap ((hβk k' hok).trans hβ)
         | i x =>
         cases hrc with
         | i hri =>
          rw [<- hσ];exact .i (kB k b g cap hk hat0 hS i q j x v hq hc hv1 hri)
       . have hS':=P1.ren_ (σ:=σ) (hS e);refine ⟨λi r j y len cap a h1 h2 h3 h4 h5=>?_,hS'.2⟩;rw [<- hσ]
         exact ωk _ k (by rw [hk];rfl) (hS'.1 i r j y len cap a h1 h2 h3 h4 h5)
     . obtain ⟨g,cap,hβ',hat,hω,hS⟩:=hs.boxes h b hk
       have hpn:∀ k,(A1 k bs).isSome=true->σ k ≠ h:=by
        intro k q4 e;obtain ⟨bb,hbb⟩:=QZ.1 q4;have:=hπ1 k (hi k bb hbb).2.2.2.2.2;rw [e,hp] at this
        cases this
       have hnω:∀ b',E.ω b'=some h->E'.ω b'=some h/\w'.heap[b']? = w.heap[b']?:=by
        intro b' hb';have hlt:=hs.wf.alt b' (hs.wf.om b' h hb').1
        have hn:¬ hand b':=by
         intro hh;obtain ⟨h2,b2,q1,q2,_,k,q3,q4⟩:=handOld b' hh;rcases q2 with ⟨z,q2⟩ | q2
         . obtain ⟨_,_,_,_,_,_,hω2⟩:=(hs.boxes h2 b2 q1).facts q2;rw [hω2] at hb';cases hb'
         . rw [hb'] at q2;exact hpn k q4 (q3.trans (QA q2).symm)
        exact ⟨by rw [ωold b' (λh'=>h'.elim hn λh'=>by omega)];exact hb',hblock b' hlt hn⟩
       have hnh:¬ hand g:=by
        intro hh;obtain ⟨h2,b2,q1,q2,_,k,q3,q4⟩:=handOld g hh;rcases q2 with ⟨z2,q2⟩ | q2
        rotate_left
        . rw [hω] at q2;cases q2
        by_cases e:h=h2
        . obtain ⟨bb,hbb⟩:=QZ.1 q4;have:=hπ1 k (hi k bb hbb).2.2.2.2.2;rw [q3,<- e,hp] at this
          cases this
        . exact hs.inj h h2 b b2 g g _ z2 hk q1 hβ' q2 e rfl
       exact Hi.keep hat hω hS (hβ.trans hβ') (hblock g hat.lt hnh) (λi q j c v hq hc hr=>hr.keepOn (kk.rd h b.tr hnω) (by
        rcases hg4 h b hk with hh | hh
        . obtain ⟨_,_,_,_,_,_,_,hhf,_,_⟩:=hat;obtain ⟨x,rfl⟩:=hhf hh i q j c hq hc;rfl
        . exact hh i q j c hq hc)) (λhA=>(hAold g hat.lt).2 hA) (tagfr g hat.lt (by obtain ⟨_,_,_,_,_,_,_,_,_,hT⟩:=hat;rw [Env.rd_τ] at hT;exact hT)) (λb' hb'=>hnω b' hb') (by rw [ωold g (λh'=>h'.elim hnh λh'=>by have:=hat.lt;omega)];exact hω)
   . rcases getb h b hb with ⟨k,hp,hσ,⟨b,hk,rfl⟩,hβ⟩ | ⟨hp,hk,hβ⟩ <;> rcases getb h' b' hb' with ⟨k',hp',hσ',⟨b',hk',rfl⟩,hβ'⟩ | ⟨hp',hk',hβ'⟩
     . rw [hβ] at hz;rw [hβ'] at hz'
       exact hout.inj k k' b b' g g' z z' hk hk' hz hz' (λe=>hne (by rw [<- hσ,<- hσ',e]))
     . rw [hβ] at hz;rw [hβ'] at hz';have hlt:=hs.lt hk' hz';rcases ownc k b g z hk hz with h1 | ⟨b0,z0,h1,h2⟩
       . omega
       . exact hs.inj (σ k) h' _ b' g g' z0 z' (hi k b0 h1).2.1 hk' h2 hz' (by rw [hσ];exact hne)
     . rw [hβ] at hz;rw [hβ'] at hz';have hlt:=hs.lt hk hz;rcases ownc k' b' g' z' hk' hz' with h1 | ⟨b0,z0,h1,h2⟩
       . omega
       . exact hs.inj h (σ k') b _ g g' z z0 hk (hi k' b0 h1).2.1 hz h2 (by rw [hσ'];exact hne)
     . rw [hβ] at hz;rw [hβ'] at hz';exact hs.inj h h' b b' g g' z z' hk hk' hz hz' hne
   . rcases getb h b hb with ⟨k,hp,hσ,⟨b,hk,rfl⟩,hβ⟩ | ⟨hp,hk,hβ⟩
     . rw [hβ] at hz;rcases ownc k b g z hk hz with h1 | ⟨b0,z0,h1,h2⟩
       . exact .inl (ZQ hs.fr.size h1)
       . rcases hs.own (σ k) _ g z0 (hi k b0 h1).2.1 h2 with h3 | h3
         . exact .inl h3
         . exact .inr ⟨h3.1,(hout.boxes k b hk).2,by rw [<- hσ];exact h3.2.2⟩
     . rw [hβ] at hz;exact hs.own h b g z hk hz
   . rcases hs2 t x hx with rfl | hx
     . exact .dead
     . exact (hs.slots t x hx).keepOn kk (hg3 t x hx)
   . rw [hs1 h]
     cases hp:π h with
     | none=>rw [E'o h hp] at hx;exact hs.dom h x hx
     | some k =>
      show ((A1 k bs').map (Box.ren σ)).isSome=true;rw [KB];exact (hπ2 h k hp).2
   . cases hp:π h with
     | none=>rw [E'o h hp];exact hs.stay h hh hh2 hm
     | some k =>
      obtain ⟨e1,e2⟩:=hπ2 h k hp;rw [<- e1,E'k k e2]
      cases hb:A1 k bs with
      | some b =>
       have hm':mv.contains k=false:=by
        cases hm':mv.contains k with
        | false=>rfl
        | true =>
         rcases hg2 _ (hg1 k (by rw [hb];rfl) hm') with h1 | h1
         . omega
         . rw [e1,hm] at h1;cases h1
       rw [stays k b hb hm',e1];exact hs.stay h hh hh2 hm
      | none =>
       obtain ⟨b',hb'⟩:=QZ.1 e2;have:=((ho k b' hb').2 hb).2;omega
   . rcases getb h b hb with ⟨k,hp,hσ,⟨b,hk,rfl⟩,hβ'⟩ | ⟨hp,hk,hβ'⟩
     . rw [show (b.ren σ).fz=b.fz from rfl,(hout.boxes k b hk).2] at hf;cases hf
     . rw [hβ'] at hβ;exact hs.fzn h b g z hk hβ hf ((hAold g (hs.lt hk hβ)).1 hA)
   . obtain ⟨h,bx,h1,h2,_⟩:=handOld b hh;obtain ⟨o1,o2⟩:=hs.held b o hb;rcases h2 with ⟨z,h2⟩ | h2
     . obtain ⟨_,_,_,ha,_⟩:=(hs.boxes h bx h1).facts h2;rw [ha] at o2;obtain rfl:=QA o2
       cases o1
     . obtain ⟨_,_,o',h3,h4⟩:=hs.wf.om b h h2;rw [h3] at o2;obtain rfl:=QA o2;rw [h4] at o1;cases o1
   . rcases ωinv g h hg with ⟨k,e1,e2,e3,hp⟩ | ⟨e1,e2,e3⟩
     . rcases hp with hp | hp
       . obtain ⟨h2,bx,h3,h4,_⟩:=handOld g hp;rcases h4 with ⟨z,h4⟩ | h4
         . rcases hs.own h2 bx g z h3 h4 with h' | h'
           . exact .inl h'
           . exact .inr h'.1
         . exact hs.tow g h2 h4
       . exact .inl (ZQ hs.fr.size hp)
     . exact hs.tow g h e1
end Go.Ev

/- DERIVED. A state that names some handles nowhere. -/
namespace Go.Ev
open Go
def killAll:List Nat->St->St
 | [],s=>s
 | h::r,s=>{ killAll r s with slots:=Lk h (killAll r s).slots,boxes:=killB h (killAll r s).boxes }
theorem A6.killAll {Γ:Ctx} {w:World} {E:Env} {tmps:Array Value}:∀ (ms:List Nat) {s:St},A6 Γ w E s tmps->A6 Γ w E (Go.Ev.killAll ms s) tmps
 | [],_,hs=>hs
 | h::r,s,hs=>by
  have h1:=(A6.killAll r hs).kill h;exact h1.1.killB h
theorem Acf:∀ (ms:List Nat) (s:St),(killAll ms s).nt=s.nt
 | [],_=>rfl
 | _::r,s=>Acf r s
theorem A79:∀ (ms:List Nat) {s:St} {k:Nat} {b:Box},A1 k s.boxes=some b->b.hf=true->A1 k (killAll ms s).boxes=some b
 | [],_,_,_,h,_=>h
 | m::r,s,k,b,h,hf=>by
  show A1 k (killB m (killAll r s).boxes)=_;rw [Gr,A79 r h hf];exact ZY some (Qn hf)
theorem A23:∀ (ms:List Nat) {s:St} {k:Nat},(A1 k (killAll ms s).boxes).isSome=(A1 k s.boxes).isSome
 | [],_,_=>rfl
 | m::r,s,k=>by
  show (A1 k (killB m (killAll r s).boxes)).isSome=_;rw [Gr,KB,A23 r]
theorem A24:∀ (ms:List Nat) {s:St} {t:Nat} {x:S},A1 t (killAll ms s).slots=some x->(x = .dead \/ A1 t s.slots=some x) /\ ∀ m ∈ ms,x.men m=false
 | [],_,_,_,h=>⟨.inr h,by simp⟩
 | m::r,s,t,x,h=>by
  have h':A1 t (Lk m (killAll r s).slots)=some x:=h;unfold Lk at h'
  rw [Xw (λx=>bif S.men m x then .dead else x)] at h'
  obtain ⟨y,hy,rfl⟩:=QI.1 h';obtain ⟨h1,h2⟩:=A24 r hy
  cases hm:y.men m with
  | true=>exact ⟨.inl rfl,λ_ _=>rfl⟩
  | false =>
   refine ⟨h1,λq hq=>?_⟩;rcases QX.1 hq with rfl | hq
   . exact hm
   . exact h2 q hq
end Go.Ev

/- DERIVED. A state that names some handles nowhere: what a call asks of it. -/
namespace Go.Ev
open Go
theorem C.okH_men {ms:List Nat} {c:C} (h:∀ m ∈ ms,c.men m=false):c.okH (λh=>!ms.contains h)=true:=by
 have key:∀ k,(∀ m ∈ ms,Nat.beq k m=false)->(!ms.contains k)=true:=λk hk=>by
  cases e:ms.contains k with
  | false=>rfl
  | true =>
   have:=hk k (JC.1 e);simp at this
 cases c with
 | i y=>rfl
 | hs k _ _=>exact key k h
 | hp k _ _=>exact key k h
theorem V.okH_men {ms:List Nat} {x:V} (h:∀ m ∈ ms,x.men m=false):x.okH (λh=>!ms.contains h)=true:=by
 cases x with
 | one c=>exact C.okH_men h
 | agg cs =>
  refine QK.2 λc hc=>C.okH_men λm hm=>?_;have:=h m hm
  cases e:c.men m with
  | false=>rfl
  | true =>
   have h2:(V.agg cs).men m=true:=ZL.2 ⟨c,hc,e⟩;rw [this] at h2;cases h2
theorem S.okH_men {ms:List Nat} {x:S} (h:∀ m ∈ ms,x.men m=false):x.okH (λh=>!ms.contains h)=true:=by
 cases x with
 | v x=>exact V.okH_men h
 | dead=>rfl
 | tup xs =>
  refine QK.2 λc hc=>V.okH_men λm hm=>?_;have:=h m hm
  cases e:c.men m with
  | false=>rfl
  | true =>
   have h2:(S.tup xs).men m=true:=ZL.2 ⟨c,hc,e⟩;rw [this] at h2;cases h2
theorem C.okH_mono {p q:Nat->Bool} (h:∀ k,p k=true->q k=true) {c:C} (hc:c.okH p=true):c.okH q=true:=by
 cases c <;> first | rfl | exact h _ hc
theorem V.okH_mono {p q:Nat->Bool} (h:∀ k,p k=true->q k=true) {x:V} (hx:x.okH p=true):x.okH q=true:=by
 cases x with
 | one c=>exact C.okH_mono h hx
 | agg cs=>exact QK.2 λc hc=>C.okH_mono h (QK.1 hx c hc)
theorem S.okH_mono {p q:Nat->Bool} (h:∀ k,p k=true->q k=true) {x:S} (hx:x.okH p=true):x.okH q=true:=by
 cases x with
 | v x=>exact V.okH_mono h hx
 | dead=>rfl
 | tup xs=>exact QK.2 λc hc=>V.okH_mono h (QK.1 hx c hc)
theorem Aob (ms:List Nat) {s:St} (hf:∀ h b,A1 h s.boxes=some b->b.hf=true) (h:Nat):A1 h (killAll ms s).boxes=A1 h s.boxes:=by
 cases e:A1 h s.boxes with
 | some b=>exact A79 ms e (hf h b e)
 | none =>
  have:=A23 ms (s:=s) (k:=h);rw [e] at this
  cases e2:A1 h (killAll ms s).boxes with
  | none=>rfl
  | some b=>rw [e2] at this;cases this
theorem A25:∀ (ms:List Nat) {s:St} {t:Nat} {x:S},A1 t s.slots=some x->(∀ m ∈ ms,x.men m=false)->A1 t (killAll ms s).slots=some x
 | [],_,_,_,h,_=>h
 | m::r,s,t,x,h,hm=>by
  show A1 t (Lk m (killAll r s).slots)=some x;unfold Lk
  rw [Xw (λx=>bif S.men m x then .dead else x),A25 r h λq hq=>hm q (ZI _ hq)]
  show some (bif S.men m x then S.dead else x)=some x
  rw [hm m (YA ..)];rfl
end Go.Ev

/- DERIVED. One operation. -/
namespace Go.Ev
open Go
variable {P:Program} {T:Ty}
structure CallD where
 args:List V
 r:S
 nt:Nat
structure CallB where
 ims:List Bool
 args:List V
 r:S
 bs:List (Nat × Box)
 bs':List (Nat × Box)
 σ:Nat->Nat
 π:Nat->Option Nat
 hd:Nat->Nat->Bool
 s':St
 mv:List Nat:=[]
structure CallB.OK (P:Program) (K:Aj) (f:FuncId) (s:St) (c:CallB) (bor:List Nat):Prop where
 den:Me P f s.nt c.mv c.bs c.args c.r c.s'.nt c.bs'
 hhd:∀ k h,c.hd k h=true->c.σ k=h/\(A1 k c.bs).isSome=true
 π1:∀ k,(A1 k c.bs').isSome=true->c.π (c.σ k)=some k
 π2:∀ h k,c.π h=some k->c.σ k=h/\(A1 k c.bs').isSome=true
 hi:∀ k b,A1 k c.bs=some b->1000<=k/\A1 (c.σ k) s.boxes=some (b.ren c.σ)/\b.fz=false/\b.okH (λk=>(A1 k c.bs).isSome)=true/\c.σ k ∉ bor/\(A1 k c.bs').isSome=true
 ho:∀ k b,A1 k c.bs'=some b->b.okH (λk=>(A1 k c.bs').isSome)=true/\(A1 k c.bs=none->A1 (c.σ k) s.boxes=none/\c.σ k<1000)
 hcl:bor=[] \/ (c.r.allI IClosed /\ ∀ k b,A1 k c.bs'=some b->∀ (i:Nat) (q:List C) (j:Nat) (x:C),b.rows[i]? = some q->q[j]? = some x->x.allI λy=>IClosed y \/ (b.tr=true/\A6p y))
 hr:c.r.okH (λk=>(A1 k c.bs').isSome)=true
 hfz:∀ h ∈ bor,∃ b,A1 h s.boxes=some b/\b.fz=false
 s1:∀ h,A1 h c.s'.boxes=match c.π h with | some k=>(A1 k c.bs').map (Box.ren c.σ) | none=>A1 h s.boxes
 s2:∀ t x,A1 t c.s'.slots=some x->x = .dead \/ (A1 t s.slots=some x /\ ∀ m ∈ c.mv.map c.σ,x.men m=false)
 mvk:∀ k,c.mv.contains k=true->(A1 k c.bs).isSome=true->c.σ k<1000 \/ K.mv.contains (c.σ k)=true
 mvb:c.mv=[] \/ ∀ h b,A1 h s.boxes=some b->b.hf=true
structure Hh where
 own:Option St:=none
 callB:Option CallB:=none
 call:Option CallD:=none
 val:Option S:=none
 rows:Option (List (List C)):=none
 fz:List (Nat × V):=[]
 cells:Option (List C):=none
def St.box (s:St) (h:Nat):Option Box:=A1 h s.boxes
def Lh (s:St) (ps:Array (Nat × Operand)):List (Nat × S):=ps.toList.map λp=>(p.1,s.val p.2)
def J1 (T:Ty) (hint:Option (List C)) (o:Oper) (s:St):Option Res :=
 match o.op with
 | .move x=>some (.pure (s.val x))
 | .assign x=>some (.pure (s.val x))
 | .pick c a b=>B9g (s.val c) (s.val a) (s.val b)
 | .alloc e=>match T e,o.dst with
  | some ti,some k=>some ⟨.v (.one (.hp k 0 0)),.new ⟨e,(Cj ti).length,true,false,[Cj ti],false⟩,[]⟩
  | _,_=>none
 | .box e x=>match s.val x,o.dst with
  | .v v,some k=>some ⟨.v (.one (.hp k 0 0)),.new ⟨e,v.cells.length,v.cells.all Dc,false,[v.cells],false⟩,[]⟩
  | _,_=>none
 | .build t ps=>R4 T t (Lh s ps)
 | .buildSlice t len ps=>match o.dst with
  | some k=>A6d T k t len (Lh s ps)
  | none=>none
 | .load t a=>Jy T hint t (s.val a) s.box
 | .store t a x=>Nh T hint t (s.val a) (s.val x) s.box
 | .nilCheck x=>B2m (s.val x)
 | .binOp op t x y _=>Iz T op t (s.val x) (s.val y)
 | .unOp op _ x=>B2l op (s.val x)
 | .convert src dst x=>A3w T src dst (s.val x)
 | .makeFunc (.func f) first caps=>match first.toList,Hg (caps.toList.map s.val) s.box with
  | [],some (cs,ks)=>some ⟨.v (.one (.i (.fn f cs))),.freeze ks,[]⟩
  | _,_=>none
 | .makeSlice t (.tmp l) (.tmp c)=>match o.dst with
  | some k=>bif Nat.beq l c then A3v T k t (s.val (.tmp l)) else none
  | none=>none
 | .slice t x lo hi none=>Ni T t (s.val x) (lo.map s.val) (hi.map s.val) s.box
 | .fieldAddr t x f=>R2 T t (s.val x) f
 | .indexAddr t x i=>Nj T t (s.val x) (s.val i) s.box
 | .extract x k=>Un (s.val x) k
 | .call c=>match c.callee with
  | .builtin .len=>match c.args.toList,c.argTypes.toList with
   | [x],[t]=>O4 T t (s.val x)
   | _,_=>none
  | .builtin .max=>match c.args.toList with
   | [x,y]=>Um true (s.val x) (s.val y)
   | _=>none
  | .builtin .min=>match c.args.toList with
   | [x,y]=>Um false (s.val x) (s.val y)
   | _=>none
  | .builtin .append=>match c.args.toList,c.argTypes.toList,o.dst with
   | [x,y],[t,t'],some k=>bif Nat.beq t t' then A6f T k t (s.val x) (s.val y) s.box else none
   | _,_,_=>none
  | _=>none
 | _=>none
def Eff.rows (rs:List (List C)):Eff->Option (Eff × Prop)
 | .new b=>some (.new { b with rows:=rs },b.rows=rs)
 | .set h b=>some (.set h { b with rows:=rs },b.rows=rs)
 | .move h b=>some (.move h { b with rows:=rs },b.rows=rs)
 | .none=>Option.none
 | .freeze _=>Option.none
def St.eff (K:Aj) (s:St) (dst:Option Tmp):Eff->Option St
 | .none=>some s
 | .new b=>match dst with
  | some k=>bif (A1 k s.boxes).isNone&&Nat.blt k 1000 then some { s with boxes:=B2 k b s.boxes } else none
  | none=>none
 | .set h b=>some { s with boxes:=B2 h b s.boxes }
 | .move h b=>bif (Nat.blt h 1000 || K.mv.contains h) then (match dst with
  | some _=>some (s.app h b)
  | none=>none) else none
 | .freeze ks=>some { s with boxes:=Bk s.boxes ks }
def St.putD (K:Aj) (s:St) (dst:Option Tmp) (x:S):Option St :=
 match dst with
 | none=>some s
 | some t=>bif Nat.blt t K.N then some { s with slots:=B2 t x s.slots } else none
def St.lendable (s:St) (h:Nat):Bool:=match s.box h with
 | some b=>!b.fz
 | none=>false
def Nl (x:S):Option (FuncId × List I) :=
 match x with
 | .v (.one (.i (.lit (.func (.func f) a b))))=>match a.toList,b.toList with
  | [],[]=>some (f,[])
  | _,_=>none
 | .v (.one (.i (.fn f caps)))=>some (f,caps)
 | _=>none
def Fs (P:Program) (K:Aj) (o:Oper) (s s':St):Prop :=
 ∀ (Γ:Ctx) (w:World) (E:Env) (a:Act) (ro:Option Nat) (n:Nat) (X:Act->Prop),Γ.K=K->(∀ b v,X b->X (b.put o.dst v))->X a->A6 Γ w E s a.tmps->∀ (next:Act->World->Prop) (Q:Exit->Act->World->Prop),
  (∀ a' w',X a'->(∃ E',A6 Γ w' E' s' a'.tmps)->next a' w')->o.wpIn (FR ro) n P a w next Q
def Alu (P:Program) (K:Aj) (o:Oper) (cb:CallB) (s:St):Option (St × List Prop) :=
 match o.op with
 | .call c=>match c.callee with
  | .value f=>match Nl (s.val f) with
   | some (fid,caps)=>match K6 cb.hd s.box cb.ims (c.args.toList.map s.val++caps.map λx=>.v (.one (.i x))) cb.args with
    | some (obs,bor)=>(cb.s'.putD K o.dst (cb.r.ren cb.σ)).map λs'=>(s',cb.OK P K fid s bor::obs)
    | none=>none
   | none=>none
  | _=>none
 | _=>none
def Fg (P:Program) (T:Ty) (K:Aj) (o:Oper) (D:Hh) (s:St):Option (St × List Prop) :=
 match D.own with
 | some s'=>some (s',[Fs P K o s s'])
 | none=>match D.callB with
 | some cb=>Alu P K o cb s
 | none=>match D.call with
 | some cd=>match o.op with
  | .call c=>match c.callee with
   | .value f=>match Nl (s.val f) with
    | some (fid,caps)=>match K5 s.box (c.args.toList.map s.val++caps.map λx=>.v (.one (.i x))) cd.args with
     | some (obs,bor)=>bif cd.r.noH&&bor.all s.lendable then
       (({ s with nt:=cd.nt }:St).putD K o.dst (D.val.getD cd.r)).map λs'=>(s',Me P fid s.nt [] [] cd.args cd.r cd.nt []::(bor=[] \/ Nn cd.r)::(cd.r=D.val.getD cd.r)::obs) else none
     | none=>none
    | none=>none
   | _=>none
  | _=>none
 | none=>match J1 T D.cells o s with
  | none=>none
  | some r=>match (match D.rows with | none=>some (r.eff,([]:List Prop)) | some rs=>(r.eff.rows rs).map λp=>(p.1,[p.2])) with
   | none=>none
   | some (e,ob2)=>match s.eff K o.dst e with
    | none=>none
    | some s1=>(s1.putD K o.dst (D.val.getD r.val)).map λs'=>(s',r.ob++ob2++(match D.val with | none=>[] | some x=>[r.val=x]))
theorem A1g {ro:Option Nat} {ρ:Operand->Value} {o:Oper} {w w':World} {nx:Next} (h:(execOp ρ o).run P w = .ok nx w') (hn:∀ d,nx ≠ .defer d):(o.semAt ro ρ).run P w = .ok nx w':=by
 rw [Oper.semAt_eq]
 . exact h
 intro c hc;unfold execOp at h;rw [hc] at h;simp only [Sem.run_bind] at h
 cases hr:(resolve ρ c o.type).run P w with
 | ok d w1 =>
  rw [hr] at h;simp at h;exact hn _ h.1.symm
 | halt x w1 =>
  rw [hr] at h;simp at h
theorem A6.val_sound {Γ:Ctx} {w:World} {E:Env} {s:St} {a:Act} (hs:A6 Γ w E s a.tmps) (x:Operand):Rs w E (a.eval x) (s.val x):=by
 cases x with
 | tmp t =>
  simp only [Act.eval,St.val]
  cases h:A1 t s.slots with
  | none=>exact .dead
  | some x=>exact hs.slots t x h
 | const v =>
  simp only [Act.eval]
  cases v <;> first | exact .dead | exact .v (.one (.i (.lit _ rfl)))
 | global g=>exact .dead
 | func f=>exact .v (.one (.i (.lit _ rfl)))
theorem Io {Γ:Ctx} {K:Aj} (hK:Γ.K=K) {w:World} {E:Env} {s s':St} {a:Act} (hs:A6 Γ w E s a.tmps) {dst:Option Tmp} {v:Value} {x:S} (hx:Rs w E v x) (h:s.putD K dst x=some s') :
  A6 Γ w E s' (a.put dst v).tmps/\(a.put dst v).defers=a.defers:=by
 unfold St.putD at h
 cases dst with
 | none=>obtain rfl:=QA h;exact ⟨hs,rfl⟩
 | some t =>
  simp only at h
  cases hb:Nat.blt t K.N with
  | false=>rw [hb] at h;cases h
  | true =>
   rw [hb] at h;obtain rfl:=QA h
   have:t<Γ.K.N:=by rw [hK];simpa [XD] using hb
   exact ⟨hs.put this hx,rfl⟩
theorem Fs.of {K:Aj} {o:Oper} {s s1 s':St} {x:S} (hput:s1.putD K o.dst x=some s')
  (h:∀ (Γ:Ctx) (w:World) (E:Env) (a:Act),Γ.K=K->A6 Γ w E s a.tmps->∃ nx v w' E',(execOp a.eval o).run P w = .ok nx w'/\((nx = .value v) \/ (nx = .skip/\v=undef))/\Rs w' E' v x/\A6 Γ w' E' s1 a.tmps) :
  Fs P K o s s':=by
 intro Γ w E a ro n X hK hX hd hs next Q hn;obtain ⟨nx,v,w',E',hrun,hnx,hx,hs1⟩:=h Γ w E a hK hs;obtain ⟨hs2,_⟩:=Io hK hs1 hx hput;unfold Oper.wpIn;refine ⟨λ_ _=>trivial,?_⟩
 rw [show (FR ro).round=ro from rfl,A1g hrun (by rcases hnx with rfl | ⟨rfl,rfl⟩ <;> intro d e <;> cases e)]
 rcases hnx with rfl | ⟨rfl,rfl⟩
 . exact hn _ _ (hX _ _ hd) ⟨E',hs2⟩
 . exact hn _ _ (hX _ _ hd) ⟨E',hs2⟩
theorem Fs.quiet {K:Aj} {o:Oper} {s s':St} {x:S} (hput:s.putD K o.dst x=some s')
  (h:∀ (Γ:Ctx) (w:World) (E:Env) (a:Act),Γ.K=K->A6 Γ w E s a.tmps->∃ v,(execOp a.eval o).run P w = .ok (.value v) w/\Rs w E v x) :
  Fs P K o s s' :=
 Fs.of hput λΓ w E a hK hs=>by
  obtain ⟨v,hr,hx⟩:=h Γ w E a hK hs;exact ⟨_,v,w,E,hr,.inl rfl,hx,hs⟩
theorem B9x (ro:Option Nat) (n:Nat) {f:FuncId} {args:Array Value} {w:World} {R:Ending->World->Prop} (h:Calls P f args w R):CallsIn (FR ro) n P f args w R:=(callsIn_wide (n:=n)).2 h
end Go.Ev

/- DERIVED. Each operation is what its abstract one is. -/
namespace Go.Ev
open Go
variable {P:Program} {T:Ty}
theorem Rs.tup_inv {w:World} {E:Env} {v:Value} {xs:List V} (h:Rs w E v (.tup xs)):∃ vs,v = .tuple vs.toArray/\P2 w E vs xs:=by
 cases h with | tup h=>exact ⟨_,rfl,h⟩
theorem Bgt {e e':Eff} {rs:List (List C)} {p:Prop} (h:e.rows rs=some (e',p)) (hp:p):e'=e:=by
 cases e with
 | none=>cases h
 | freeze=>cases h
 | new b=>simp only [Eff.rows,QF,QL] at h;obtain ⟨rfl,rfl⟩:=h;rw [<- hp]
 | set h' b=>simp only [Eff.rows,QF,QL] at h;obtain ⟨rfl,rfl⟩:=h;rw [<- hp]
 | move h' b=>simp only [Eff.rows,QF,QL] at h;obtain ⟨rfl,rfl⟩:=h;rw [<- hp]
theorem A75 {Γ:Ctx} {w:World} {E:Env} {s:St} {a:Act} (hs:A6 Γ w E s a.tmps) (ps:Array (Nat × Operand)) :
  ((ps.map λ(i,x)=>(i,a.eval x)).toList.length=(Lh s ps).length) /\
  ∀ (j:Nat) p q,(ps.map λ(i,x)=>(i,a.eval x)).toList[j]? = some p->(Lh s ps)[j]? = some q->p.1=q.1/\Rs w E p.2 q.2:=by
 refine ⟨by simp [Lh],λj p q hp hq=>?_⟩
 simp only [Lh,QQ] at hq;obtain ⟨z,hz,rfl⟩:=QI.1 hq;simp only [Array.toList_map,QQ,hz,QV,QF] at hp;subst hp;exact ⟨rfl,hs.val_sound z.2⟩
theorem Atq {α:Type} {x:Option α} (h:x.isNone=true):x = .none:=by cases x <;> simp_all
def Atc (P:Program) (K:Aj) (o:Oper) (s s1:St) (x:S):Prop :=
 ∀ (Γ:Ctx) (w:World) (E:Env) (a:Act),Γ.K=K->A6 Γ w E s a.tmps->∃ nx v w' E',(execOp a.eval o).run P w = .ok nx w'/\((nx = .value v) \/ (nx = .skip/\v=undef))/\Rs w' E' v x/\A6 Γ w' E' s1 a.tmps
theorem Atc.quiet {K:Aj} {o:Oper} {s:St} {x:S} (h:∀ (Γ:Ctx) (w:World) (E:Env) (a:Act),A6 Γ w E s a.tmps->∃ v,(execOp a.eval o).run P w = .ok (.value v) w/\Rs w E v x):Atc P K o s s x :=
 λΓ w E a _ hs=>by
  obtain ⟨v,hr,hx⟩:=h Γ w E a hs;exact ⟨_,v,w,E,hr,.inl rfl,hx,hs⟩
theorem Qm {K:Aj} {s s1:St} {k:Tmp} {b:Box} (h:s.eff K (some k) (.new b)=some s1):A1 k s.boxes = .none/\k<1000/\s1={ s with boxes:=B2 k b s.boxes }:=by
 simp only [St.eff] at h
 cases hc:((A1 k s.boxes).isNone&&Nat.blt k 1000) with
 | false=>rw [hc] at h;cases h
 | true =>
  rw [hc] at h;simp only [QH] at hc
  exact ⟨Atq hc.1,by simpa [XD] using hc.2,(QA h).symm⟩
theorem B2o (hT:B8 P T) {K:Aj} {o:Oper} {s s1:St} {r:Res} {hint:Option (List C)} (h:J1 T hint o s=some r) (ho:∀ p ∈ r.ob,p) (he:s.eff K o.dst r.eff=some s1):Atc P K o s s1 r.val:=by
 obtain ⟨dst,op,type,pos,after,guard⟩:=o;unfold J1 at h;simp only at h he;split at h
 . -- move
   obtain rfl:=QA h;obtain rfl:=QA he;exact .quiet λΓ w E a hs=>⟨_,rfl,hs.val_sound _⟩
 . -- assign
   obtain rfl:=QA h;obtain rfl:=QA he;exact .quiet λΓ w E a hs=>⟨_,rfl,hs.val_sound _⟩
 . -- pick
   rename_i c x y;unfold B9g at h;split at h
   . rename_i hc;obtain rfl:=QA h;obtain rfl:=QA he;refine .quiet λΓ w E a hs=>⟨_,?_,hs.val_sound x⟩;have hv:=hs.val_sound c;rw [hc] at hv;simp [execOp,hv.lit_inv,asBool]
   . rename_i hc;obtain rfl:=QA h;obtain rfl:=QA he;refine .quiet λΓ w E a hs=>⟨_,?_,hs.val_sound y⟩;have hv:=hs.val_sound c;rw [hc] at hv;simp [execOp,hv.lit_inv,asBool]
   . cases h
 . -- alloc
   split at h
   . rename_i ti k hti;obtain rfl:=QA h;obtain ⟨hk,hk1,rfl⟩:=Qm he;intro Γ w E a _ hs;obtain ⟨u,w',E',hr,hx,hs'⟩:=Auo hT hs hti hk hk1
     exact ⟨_,u,w',E',by simp [execOp,hr],.inl rfl,hx,hs'⟩
   . cases h
 . -- box
   rename_i e x;split at h
   . rename_i y k hy;obtain rfl:=QA h;obtain ⟨hk,hk1,rfl⟩:=Qm he;intro Γ w E a _ hs;have hv:=hs.val_sound x;rw [hy] at hv;obtain ⟨u,w',E',hr,hx,hs'⟩:=B9z (P:=P) hs (t:=e) hv.v_inv hk hk1
     exact ⟨_,u,w',E',by simp [execOp,hr],.inl rfl,hx,hs'⟩
   . cases h
 . -- build
   rename_i t ps
   have heff:r.eff = .none:=by
    unfold R4 at h;split at h
    . split at h
      . rename_i fs _
        cases hc:fs.toList.all (λf=>(T f.type).isSome) with
        | false=>rw [hc] at h;cases h
        | true =>
         rw [hc] at h;simp only [cond] at h;split at h
         . obtain rfl:=QA h;rfl
         . cases h
      . cases h
    . cases h
   rw [heff] at he;obtain rfl:=QA he;refine .quiet λΓ w E a hs=>?_;obtain ⟨h1,h2⟩:=A75 hs ps;obtain ⟨u,hr,hx,_⟩:=Aun (P:=P) hT (w:=w) (E:=E) h1 h2 h;rw [Qae] at hr
   exact ⟨u,by simp only [execOp,Sem.run_bind,hr,Result.andThen_ok,Sem.run_pure],hx⟩
 . -- buildSlice
   rename_i t len ps;split at h
   . rename_i k
     have hb:∃ b,r.eff = .new b:=by
      unfold A6d at h;split at h
      . split at h
        . rename_i e ei rows _ _
          cases hc:(Nat.beq (Lh s ps).length len&&Nat.ble 1 ei.size&&rows.all (λr=>Nat.beq r.length ei.size)&&Nat.ble (len*ei.size) 16777216) with
          | false=>rw [hc] at h;cases h
          | true=>rw [hc] at h;obtain rfl:=QA h;exact ⟨_,rfl⟩
        . cases h
      . cases h
     obtain ⟨b,hb⟩:=hb;rw [hb] at he;obtain ⟨hk,hk1,rfl⟩:=Qm he;intro Γ w E a _ hs;obtain ⟨h1,h2⟩:=A75 hs ps;obtain ⟨b',u,w',E',hb',hr,hx,hs'⟩:=B4j hT hs hk hk1 h1 h2 h;rw [hb] at hb';obtain rfl:=Eff.new.inj hb';rw [Qae] at hr
     exact ⟨_,u,w',E',by simp only [execOp,Sem.run_bind,hr,Result.andThen_ok,Sem.run_pure],.inl rfl,hx,hs'⟩
   . cases h
 . -- load
   rename_i t x;intro Γ w E a _ hs;obtain ⟨u,hr,hx,he0⟩:=Acc hT hs (hs.val_sound x) h ho;rw [he0] at he;obtain rfl:=QA he
   exact ⟨_,u,w,E,by simp only [execOp,Sem.run_bind,hr,Result.andThen_ok,Sem.run_pure],.inl rfl,hx,hs⟩
 . -- store
   rename_i t x y;intro Γ w E a _ hs;obtain ⟨k',b',w',E',hb',hd,hr,hs'⟩:=Ati hT hs (hs.val_sound x) (hs.val_sound y) h ho;rw [hb'] at he;obtain rfl:=QA he
   refine ⟨.skip,undef,w',E',by simp only [execOp,Sem.run_bind,hr,Result.andThen_ok,Sem.run_pure],.inr ⟨rfl,rfl⟩,by rw [hd];exact .dead,hs'⟩
 . -- nilCheck
   rename_i x;unfold B2m at h;split at h
   . rename_i hh row col hx;obtain rfl:=QA h;obtain rfl:=QA he;refine .quiet λΓ w E a hs=>?_;have hv:=hs.val_sound x;rw [hx] at hv;obtain ⟨g,sz,cap,hβ,he'⟩:=hv.hp_inv
     exact ⟨a.eval x,by simp only [execOp,he'];rfl,hv⟩
   . rename_i tag cs hx;obtain rfl:=QA h;obtain rfl:=QA he;refine .quiet λΓ w E a hs=>?_;have hv:=hs.val_sound x;rw [hx] at hv;obtain ⟨g,o,he',_⟩:=(hv.i_inv).ref_drop 0
     exact ⟨a.eval x,by simp only [execOp,he'];rfl,hv⟩
   . cases h
 . -- binOp
   rename_i bop t x y yt;intro Γ w E a _ hs;obtain ⟨u,hr,hx,he0⟩:=Ba3 (ox:=x) (oy:=y) hT (hs.val_sound x) (hs.val_sound y) h ho;rw [he0] at he;obtain rfl:=QA he
   exact ⟨_,u,w,E,by simp only [execOp];rw [Sem.run_bind,hr];rfl,.inl rfl,hx,hs⟩
 . -- unOp
   rename_i uop t x;intro Γ w E a _ hs;obtain ⟨u,hr,hx,he0⟩:=Ban (P:=P) (hs.val_sound x) h;rw [he0] at he;obtain rfl:=QA he
   exact ⟨_,u,w,E,by simp only [execOp,Sem.run_bind,hr,Result.andThen_ok,Sem.run_pure],.inl rfl,hx,hs⟩
 . -- convert
   rename_i src dst' x;intro Γ w E a _ hs;obtain ⟨u,hr,hx,he0⟩:=B2p (P:=P) hT (hs.val_sound x) h;rw [he0] at he;obtain rfl:=QA he
   exact ⟨_,u,w,E,by simp only [execOp,Sem.run_bind,hr,Result.andThen_ok,Sem.run_pure],.inl rfl,hx,hs⟩
 . -- makeFunc
   rename_i f first caps;split at h
   . rename_i cs ks hf hcs;obtain rfl:=QA h;obtain rfl:=QA he;intro Γ w E a _ hs
     obtain ⟨E',hs',hl,hr,_⟩:=Zy (caps.toList.map s.val) (caps.toList.map a.eval) cs ks E s a.tmps hs (by simp) (λj v x hv hx=>by
      rw [QQ] at hv hx;obtain ⟨z,hz,rfl⟩:=QI.1 hx;rw [hz] at hv;obtain rfl:=QA hv
      exact hs.val_sound z) hcs
     have hfirst:first = #[]:=by cases first;simp at hf;rw [hf]
     subst hfirst;refine ⟨_,.func (.func f) #[] (caps.toList.map a.eval).toArray,w,E',?_,.inl rfl,.v (.one (.i (.fn f _ cs hl hr))),hs'⟩;simp [execOp,Instr.makeFunc];apply Qaz;simp
   . cases h
 . -- makeSlice
   rename_i t l c;split at h
   . rename_i k
     cases hc:Nat.beq l c with
     | false=>rw [hc] at h;cases h
     | true =>
      rw [hc] at h;simp only [cond] at h;have:=QD hc;subst this
      have hb:∃ b,r.eff = .new b:=by
       unfold A3v at h;split at h
       . split at h
         . rename_i ei _
           cases hc:Nat.ble 1 ei.size with
           | false=>rw [hc] at h;cases h
           | true=>rw [hc] at h;obtain rfl:=QA h;exact ⟨_,rfl⟩
         . cases h
       . cases h
      obtain ⟨b,hb⟩:=hb;rw [hb] at he;obtain ⟨hk,hk1,rfl⟩:=Qm he;intro Γ w E a _ hs;obtain ⟨b',u,w',E',hb',hr,hx,hs'⟩:=Azg hT hs hk hk1 (hs.val_sound (.tmp l)) h ho;rw [hb] at hb';obtain rfl:=Eff.new.inj hb'
      exact ⟨_,u,w',E',by simp only [execOp,Sem.run_bind,hr,Result.andThen_ok,Sem.run_pure],.inl rfl,hx,hs'⟩
   . cases h
 . -- slice
   rename_i t x lo hi;intro Γ w E a _ hs
   obtain ⟨u,hr,hx,he0⟩:=Atk hT hs (vlo:=lo.map a.eval) (vhi:=hi.map a.eval) (hs.val_sound x)
    (λy hy=>by obtain ⟨z,hz,rfl⟩:=QI.1 hy;exact ⟨_,by rw [hz];rfl,hs.val_sound z⟩) (λhn=>by cases lo with | none=>rfl | some=>cases hn)
    (λy hy=>by obtain ⟨z,hz,rfl⟩:=QI.1 hy;exact ⟨_,by rw [hz];rfl,hs.val_sound z⟩) (λhn=>by cases hi with | none=>rfl | some=>cases hn) h ho
   rw [he0] at he;obtain rfl:=QA he
   exact ⟨_,u,w,E,by simp only [execOp,Sem.run_bind,Option.map_none,hr,Result.andThen_ok,Sem.run_pure],.inl rfl,hx,hs⟩
 . -- fieldAddr
   rename_i t x f;intro Γ w E a _ hs;obtain ⟨u,hr,hx,he0⟩:=Atu (P:=P) hT (hs.val_sound x) h;rw [he0] at he;obtain rfl:=QA he
   exact ⟨_,u,w,E,by simp only [execOp,Sem.run_bind,hr,Result.andThen_ok,Sem.run_pure],.inl rfl,hx,hs⟩
 . -- indexAddr
   rename_i t x ix;intro Γ w E a _ hs;obtain ⟨u,hr,hx,he0⟩:=Atr hT hs (hs.val_sound x) (hs.val_sound ix) h ho;rw [he0] at he;obtain rfl:=QA he
   exact ⟨_,u,w,E,by simp only [execOp,Sem.run_bind,hr,Result.andThen_ok,Sem.run_pure],.inl rfl,hx,hs⟩
 . -- extract
   rename_i x k;unfold Un at h;split at h
   . rename_i xs hx;split at h
     . rename_i y hy;obtain rfl:=QA h;obtain rfl:=QA he;refine .quiet λΓ w E a hs=>?_;have hv:=hs.val_sound x;rw [hx] at hv;obtain ⟨vs,hvs,hr⟩:=hv.tup_inv
       obtain ⟨v,hv'⟩:∃ v,vs[k]? = some v:=by
        have:k<vs.length:=by rw [hr.1];exact (ZD.1 hy).1
        exact ⟨_,QN this⟩
       refine ⟨v,?_,.v (hr.2 k v y hv' hy)⟩;simp [execOp,hvs,Instr.extract,hv']
     . cases h
   . cases h
 . -- calls of builtins
   rename_i c;obtain ⟨callee,args,argTypes⟩:=c;simp only at h
   have l1:∀ {α:Type} {arr:Array α} {x:α},arr.toList=[x]->arr = #[x]:=λh=>Qaz (by rw [h])
   have l2:∀ {α:Type} {arr:Array α} {x y:α},arr.toList=[x,y]->arr = #[x,y]:=λh=>Qaz (by rw [h])
   split at h
   . split at h
     . rename_i x t hx ht;obtain rfl:=l1 hx;obtain rfl:=l1 ht;intro Γ w E a _ hs;obtain ⟨u,hr,hxr,he0⟩:=B4m (P:=P) (ty:=type) hT (hs.val_sound x) h;rw [he0] at he;obtain rfl:=QA he
       exact ⟨_,u,w,E,by simp [execOp,resolve,invoke,builtin,hr],.inl rfl,hxr,hs⟩
     . cases h
   . split at h
     . rename_i x y hx;obtain rfl:=l2 hx;intro Γ w E a _ hs;obtain ⟨u,hr,hxr,he0⟩:=B4e (P:=P) (ts:=argTypes) (ty:=type) (hs.val_sound x) (hs.val_sound y) h;rw [he0] at he;obtain rfl:=QA he
       exact ⟨_,u,w,E,by simp [execOp,resolve,invoke,builtin,hr],.inl rfl,hxr,hs⟩
     . cases h
   . split at h
     . rename_i x y hx;obtain rfl:=l2 hx;intro Γ w E a _ hs;obtain ⟨u,hr,hxr,he0⟩:=B4c (P:=P) (ts:=argTypes) (ty:=type) (hs.val_sound x) (hs.val_sound y) h;rw [he0] at he;obtain rfl:=QA he
       exact ⟨_,u,w,E,by simp [execOp,resolve,invoke,builtin,hr],.inl rfl,hxr,hs⟩
     . cases h
   . split at h
     . rename_i x y t t' k hx ht
       cases hc:Nat.beq t t' with
       | false=>rw [hc] at h;cases h
       | true =>
        rw [hc] at h;simp only [cond] at h;have:=QD hc;subst this;obtain rfl:=l2 hx;obtain rfl:=l2 ht;intro Γ w E a hK hs
        have keyfree:(∃ b,r.eff = .new b)->A1 k s.boxes = .none/\k<1000:=by
         rintro ⟨b,hn⟩
         rw [hn] at he;obtain ⟨h1,h2,_⟩:=Qm he;exact ⟨h1,h2⟩
        have moved:∀ h' b,r.eff = .move h' b->(h'<1000 \/ Γ.K.mv.contains h'=true)/\s1=s.app h' b:=by
         intro h' b hm;rw [hm] at he;simp only [St.eff] at he
         cases hc:(Nat.blt h' 1000 || K.mv.contains h') with
         | false=>rw [hc] at he;cases he
         | true =>
          rw [hc] at he;simp only [cond] at he;simp only [XA] at hc
          exact ⟨hc.imp (λh=>by simpa [XD] using h) (λh=>by rw [hK];exact h),(QA he).symm⟩
        obtain ⟨h',b,u,w',E',hcase,hr,hxr,hm,hn⟩:=Ba5 (P:=P) (ty:=type) hT hs keyfree (hs.val_sound x) (hs.val_sound y) h ho (λh' b hm=>(moved h' b hm).1)
        refine ⟨_,u,w',E',by simp [execOp,resolve,invoke,builtin,hr],.inl rfl,hxr,?_⟩
        rcases hcase with hmv | ⟨hnw,rfl⟩
        . rw [(moved h' b hmv).2];exact hm hmv
        . rw [hnw] at he;obtain ⟨_,_,rfl⟩:=Qm he;exact hn hnw
     . cases h
   . cases h
 . cases h
end Go.Ev

/- DERIVED. One operation with its decision; a region in its own order. -/
namespace Go.Ev
open Go
variable {P:Program} {T:Ty}
theorem Ri.fn_inv {w:World} {E:Env} {v:Value} {f:FuncId} {caps:List I} (h:Ri w E v (.fn f caps)):∃ vs:List Value,v = .func (.func f) #[] vs.toArray/\vs.length=caps.length /\ ∀ (j:Nat) (v:Value) (c:I),vs[j]? = some v->caps[j]? = some c->Ri w E v c:=by
 cases h with | fn _ vs _ hl hrc=>exact ⟨vs,rfl,hl,hrc⟩
theorem Aep {Γ:Ctx} {w:World} {E:Env} {s:St} {a:Act} (hs:A6 Γ w E s a.tmps) {f:Operand} {fid:FuncId} {caps:List I} (h:Nl (s.val f)=some (fid,caps)) :
  ∃ vs:List Value,a.eval f = .func (.func fid) #[] vs.toArray/\vs.length=caps.length /\ ∀ (j:Nat) (v:Value) (c:I),vs[j]? = some v->caps[j]? = some c->Ri w E v c:=by
 have hv:=hs.val_sound f;unfold Nl at h;split at h
 . rename_i g x y hf;split at h
   . rename_i hx hy;simp only [QF,QL] at h;obtain ⟨rfl,rfl⟩:=h;rw [hf] at hv
     have hx':x = #[]:=Qaz (by rw [hx])
     have hy':y = #[]:=Qaz (by rw [hy])
     subst hx';subst hy'
     exact ⟨[],hv.lit_inv,rfl,λj v c hv hc=>by simp at hc⟩
   . cases h
 . rename_i g cs hf;simp only [QF,QL] at h;obtain ⟨rfl,rfl⟩:=h;rw [hf] at hv;exact hv.i_inv.fn_inv
 . cases h
theorem Atj {K:Aj} {o:Oper} {cb:CallB} {s s':St} {obs:List Prop} (h:Alu P K o cb s=some (s',obs)) (ho:∀ p ∈ obs,p):Fs P K o s s':=by
 unfold Alu at h;split at h
 . rename_i c hop;split at h
   . rename_i f hf;split at h
     . rename_i fid caps hcal;split at h
       . rename_i obs' bor hargs;simp only [QI,QL] at h;obtain ⟨s2,hput,rfl,rfl⟩:=h
         have ok:cb.OK P K fid s bor:=ho _ (by simp)
         intro Γ w E a ro n X hK hX hdef hs next Q hn;obtain ⟨vcaps,hev,hcl,hcr⟩:=Aep hs hcal
         have hread:=Aeu (π:=cb.π) (bor:=bor) hs ok.hhd cb.ims (c.args.toList.map s.val++caps.map λx=>S.v (V.one (C.i x))) cb.args (c.args.toList.map a.eval++vcaps) obs' bor (by simp [hcl]) (λj v x hv hx=>by
           by_cases hj:j<(c.args.toList.map a.eval).length
           . rw [ZH hj] at hv
             rw [ZH (by simpa using hj)] at hx
             rw [QQ] at hv hx;obtain ⟨z,hz,rfl⟩:=QI.1 hx;rw [hz] at hv;obtain rfl:=QA hv;exact hs.val_sound z
           . rw [ZG (by omega)] at hv
             rw [ZG (by simp at hj ⊢;omega)] at hx
             rw [QQ] at hx;obtain ⟨z,hz,rfl⟩:=QI.1 hx
             exact .v (.one (.i (hcr _ v z hv (by simpa using hz))))) hargs (λp hp=>ho p (ZI _ hp)) (λ_ hk=>hk)
         have hcalls:Calls P fid (c.args.toList.map a.eval++vcaps).toArray w (λe w'=>∃ v E',e = .returned v/\Rs w' E' v (cb.r.ren cb.σ)/\A6 Γ w' E' cb.s' a.tmps):=by
          rcases ok.mvb with hm | hm
          . have hden:=ok.den;rw [hm] at hden
            exact A7j hs cb.σ cb.π [] (λ_=>false) (λ_ _ h=>by cases h) (λ_ h=>by cases h) (λ_ x _=>S.okH_true (λ_=>rfl) x) (λ_ _ _=>.inr λ_ _ _ c _ _=>C.okH_true (λ_=>rfl) c) hden hread ok.π1 ok.π2 ok.hi ok.ho ok.hcl ok.hr ok.hfz ok.s1 (λt x hx=>(ok.s2 t x hx).imp_right And.left) rfl
          . have hs0:=hs.killAll (cb.mv.map cb.σ);have hL:=Aob (cb.mv.map cb.σ) hm
            refine A7j hs0 cb.σ cb.π cb.mv (λh=>(cb.mv.map cb.σ).contains h&&cb.mv.any λk=>(A1 k cb.bs).isSome&&Nat.beq (cb.σ k) h) (λk h1 h2=>?_) (λh hg=>?_) (λt x hx=>?_) (λh b hb=>.inl (hm h b ((hL h).symm.trans hb))) (by rw [Acf];exact ok.den) hread ok.π1 ok.π2 (λk b hb=>?_) (λk b hb=>?_) ok.hcl ok.hr (λh hh=>?_) (λh=>?_) (λt x hx=>?_) rfl
            . have h3:cb.σ k ∈ cb.mv.map cb.σ:=ZK.2 ⟨k,JC.1 h2,rfl⟩;simp only [QH,JC.2 h3,Qaf]
              exact ZL.2 ⟨k,JC.1 h2,by simp [h1]⟩
            . simp only [QH] at hg;obtain ⟨k,hk,hk2⟩:=ZL.1 hg.2;simp only [QH] at hk2;have:=ok.mvk k (JC.2 hk) hk2.1;rw [QD hk2.2] at this;rw [hK];exact this
            . have h3:=S.okH_men (A24 (cb.mv.map cb.σ) hx).2
              exact S.okH_mono (λh h4=>by
               cases e:(cb.mv.map cb.σ).contains h with
               | false=>rfl
               | true=>rw [e] at h4;cases h4) h3
            . obtain ⟨h1,h2,h3⟩:=ok.hi k b hb;exact ⟨h1,(hL _).trans h2,h3⟩
            . obtain ⟨h1,h2⟩:=ok.ho k b hb;exact ⟨h1,λe=>⟨(hL _).trans (h2 e).1,(h2 e).2⟩⟩
            . obtain ⟨b,h1,h2⟩:=ok.hfz h hh;exact ⟨b,(hL _).trans h1,h2⟩
            . rw [ok.s1 h]
              cases cb.π h with
              | none=>exact (hL h).symm
              | some k=>rfl
            . rcases ok.s2 t x hx with h | ⟨h1,h2⟩
              . exact .inl h
              . exact .inr (A25 _ h1 h2)
         obtain ⟨fn,hfn,hname,hbody⟩:=ok.den.1
         have hrun:(execOp a.eval o).run P w = .ok (.enter fid (c.args.toList.map a.eval++vcaps).toArray) w:=by
          have e1:(c.args.toList.map a.eval++vcaps).toArray=c.args.map a.eval++vcaps.toArray:=by
           apply Qaz;simp
          rw [e1];obtain ⟨dst,op,type,pos,after,guard⟩:=o;simp only at hop;subst hop;obtain ⟨callee,args,argTypes⟩:=c;simp only at hf;subst hf
          have hn1 : ¬ fn.name = "runtime.NumGoroutine" := by simpa using hname
          have hn2:¬ fn.body=Option.none:=by intro e;rw [e] at hbody;cases hbody
          simp [execOp,resolve,Deferred.ofValue,hev,invoke,callFunc,hfn,hn1,hn2]
         unfold Oper.wpIn;refine ⟨λ_ _=>trivial,?_⟩
         rw [show (FR ro).round=ro from rfl,A1g hrun (λd e=>by cases e)]
         refine ⟨λe=>by simp [FR,Fence.wide] at e,?_⟩
         refine B9x ro _ (Calls.mono hcalls ?_)
         rintro e w' ⟨v,E',rfl,hrv,hs'⟩
         obtain ⟨hs2,hdef2⟩:=Io hK hs' hrv hput;exact hn _ _ (hX _ _ hdef) ⟨E',hs2⟩
       . cases h
     . cases h
   . cases h
 . cases h
theorem Hj (hT:B8 P T) {K:Aj} {o:Oper} {D:Hh} {s s':St} {obs:List Prop} (h:Fg P T K o D s=some (s',obs)) (ho:∀ p ∈ obs,p):Fs P K o s s':=by
 unfold Fg at h;split at h
 . simp only [QF,QL] at h;obtain ⟨rfl,rfl⟩:=h
   exact ho _ (by simp)
 split at h
 . exact Atj h ho
 split at h
 . rename_i cd hcd;split at h
   . rename_i c hop;split at h
     . rename_i f hf;split at h
       . rename_i fid caps hcal;split at h
         . rename_i obs' bor hargs
           cases hc:(cd.r.noH&&bor.all s.lendable) with
           | false=>rw [hc] at h;cases h
           | true =>
            rw [hc] at h;simp only [cond,QI,QL] at h;obtain ⟨s2,hput,rfl,rfl⟩:=h;simp only [QH] at hc
            have hd:Me P fid s.nt [] [] cd.args cd.r cd.nt []:=ho _ (by simp)
            have hbc:bor=[] \/ Nn cd.r:=ho _ (by simp)
            have hval:cd.r=D.val.getD cd.r:=ho _ (by simp)
            intro Γ w E a ro n X hK hX hdef hs next Q hn;obtain ⟨vcaps,hev,hcl,hcr⟩:=Aep hs hcal
            have hcalls:=B2r hs (xs:=c.args.toList.map s.val++caps.map λx=>S.v (V.one (C.i x))) (as:=cd.args) (obs:=obs') (bor:=bor) (vs:=c.args.toList.map a.eval++vcaps) hd (by simp [hcl]) (λj v x hv hx=>by
             by_cases hj:j<(c.args.toList.map a.eval).length
             . rw [ZH hj] at hv
               rw [ZH (by simpa using hj)] at hx
               rw [QQ] at hv hx;obtain ⟨z,hz,rfl⟩:=QI.1 hx;rw [hz] at hv;obtain rfl:=QA hv;exact hs.val_sound z
             . rw [ZG (by omega)] at hv
               rw [ZG (by simp at hj ⊢;omega)] at hx
               rw [QQ] at hx;obtain ⟨z,hz,rfl⟩:=QI.1 hx
               exact .v (.one (.i (hcr _ v z hv (by simpa using hz))))) hargs (λp hp=>ho p (ZI _ (ZI _ (ZI _ hp)))) hc.1 hbc (λk hk=>by
               have:=QK.1 hc.2 k hk;unfold St.lendable St.box at this
               cases hbx:A1 k s.boxes with
               | none=>rw [hbx] at this;cases this
               | some b=>rw [hbx] at this;exact ⟨b,rfl,by simpa using this⟩)
            obtain ⟨fn,hfn,hname,hbody⟩:=hd.1
            have hrun:(execOp a.eval o).run P w = .ok (.enter fid (c.args.toList.map a.eval++vcaps).toArray) w:=by
             have e1:(c.args.toList.map a.eval++vcaps).toArray=c.args.map a.eval++vcaps.toArray:=by
              apply Qaz;simp
             rw [e1];obtain ⟨dst,op,type,pos,after,guard⟩:=o;simp only at hop;subst hop;obtain ⟨callee,args,argTypes⟩:=c;simp only at hf;subst hf
             have hn1 : ¬ fn.name = "runtime.NumGoroutine" := by simpa using hname
             have hn2:¬ fn.body=Option.none:=by intro e;rw [e] at hbody;cases hbody
             simp [execOp,resolve,Deferred.ofValue,hev,invoke,callFunc,hfn,hn1,hn2]
            unfold Oper.wpIn;refine ⟨λ_ _=>trivial,?_⟩
            rw [show (FR ro).round=ro from rfl,A1g hrun (λd e=>by cases e)]
            refine ⟨λe=>by simp [FR,Fence.wide] at e,?_⟩
            refine B9x ro _ (Calls.mono hcalls ?_)
            rintro e w' ⟨v,E',rfl,hrv,hs'⟩
            rw [hval] at hrv;obtain ⟨hs2,hdef2⟩:=Io hK hs' hrv hput;exact hn _ _ (hX _ _ hdef) ⟨E',hs2⟩
         . cases h
       . cases h
     . cases h
   . cases h
 . split at h
   . cases h
   . rename_i r hr;split at h
     . cases h
     . rename_i e ob2 hrows;split at h
       . cases h
       . rename_i s1 heff;simp only [QI,QL] at h;obtain ⟨s2,hput,rfl,rfl⟩:=h
         have he:e=r.eff:=by
          cases hD:D.rows with
          | none=>rw [hD] at hrows;simp only [QF,QL] at hrows;exact hrows.1.symm
          | some rs =>
           rw [hD] at hrows;simp only [QI,QL] at hrows;obtain ⟨q,hq,rfl,rfl⟩:=hrows
           exact Bgt hq (ho _ (by simp))
         rw [he] at heff
         have hv:D.val.getD r.val=r.val:=by
          cases hD:D.val with
          | none=>rfl
          | some x=>have:r.val=x:=ho _ (by simp [hD]);rw [<- this];rfl
         rw [hv] at hput
         exact Fs.of hput (B2o hT hr (λp hp=>ho p (by simp [hp])) heff)
def Jp (s:St) (ops:List Oper) (o:Oper):Option Bool :=
 match o.guard with
 | none=>some true
 | some (j,want)=>match ops[j]? with
  | some p=>match p.dst with
   | some t=>match A1 t s.slots with
    | some (.v (.one (.i (.lit (.bool b)))))=>some (b==want)
    | some (.tup [])=>some false
    | _=>none
   | none=>none
  | none=>none
def A4o (P:Program) (T:Ty) (K:Aj) (ops:List Oper) (o:Oper) (D:Hh) (s:St):Option (St × List Prop) :=
 match Jp s ops o with
 | some true=>Fg P T K o D s
 | some false=>(s.putD K o.dst (.tup [])).map λs'=>(s',[])
 | none=>none
theorem Rs.undef {w:World} {E:Env}:Rs w E Go.undef (.tup []):=.tup (vs:=[]) ⟨rfl,λj v x _ hx=>by simp at hx⟩
theorem Hl {Γ:Ctx} {w:World} {E:Env} {s:St} {a:Act} (hs:A6 Γ w E s a.tmps) {ops:Array Oper} {o:Oper} {b:Bool} (h:Jp s ops.toList o=some b):Region.wanted o (yielded ops a.tmps)=b:=by
 unfold Jp at h;unfold Region.wanted;split at h
 . rename_i hg;rw [hg];exact QA h
 . rename_i j want hg;rw [hg];split at h
   . rename_i p hp;split at h
     . rename_i t ht;split at h
       . rename_i b' hl;obtain rfl:=QA h;have hv:=(hs.slots t _ hl).lit_inv
         have hp':ops[j]? = some p:=by simpa using hp
         have hsome:a.tmps[t]? = some (.bool b'):=by
          rw [KH] at hv
          cases hq:a.tmps[t]? with
          | none=>rw [hq] at hv;cases hv
          | some u=>rw [hq] at hv;simpa using hv
         simp [yielded,hp',ht,hsome]
       . rename_i hl;obtain rfl:=QA h;obtain ⟨vs,hv,hrs⟩:=(hs.slots t _ hl).tup_inv;have hvs:vs=[]:=YV hrs.1;subst hvs
         have hp':ops[j]? = some p:=by simpa using hp
         rw [KH] at hv
         cases hq:a.tmps[t]? with
         | none=>simp [yielded,hp',ht,hq]
         | some u =>
          rw [hq] at hv
          have hu:u = .tuple #[]:=by simpa using hv
          simp [yielded,hp',ht,hq,hu]
       . cases h
     . cases h
   . cases h
end Go.Ev

/- DERIVED. From a body's evaluation to the function's contract. -/
namespace Go.Ev
open Go
variable {P:Program} {T:Ty}
def J2 (bs:List (Nat × Box)) (ks:List Nat):Bool:=ks.all λh=>Nat.blt h 1000&&(A1 h bs).isSome
theorem A6.freezes {Γ:Ctx} {w:World}:∀ (ks:List Nat) {E:Env} {s:St} {tmps:Array Value},A6 Γ w E s tmps->J2 s.boxes ks=true ->
  ∃ E',A6 Γ w E' { s with boxes:=Bk s.boxes ks } tmps/\Cy w w E E'/\(∀ k,E'.β k=E.β k)/\(E'.τ=E.τ) /\
   ∀ k b,A1 k s.boxes=some b->∃ b',A1 k (Bk s.boxes ks)=some b'/\b'.rows=b.rows/\b'.sz=b.sz/\b'.hf=b.hf/\(b.fz=true->b'.fz=true)/\(k ∈ ks->b'.fz=true)/\b'.tr=b.tr
 | [],E,s,tmps,hs,_=>⟨E,hs,⟨ZF _,λ_ _ _ h=>h,λ_ _ h=>h,λ_ _ _ _ _ h=>h⟩,λ_=>rfl,rfl,λk b hb=>⟨b,hb,rfl,rfl,rfl,λh=>h,(λh=>by cases h),rfl⟩⟩
 | h::r,E,s,tmps,hs,hc=>by
  simp only [J2,XJ,QH] at hc;obtain ⟨⟨hlt,hsome⟩,hrest⟩:=hc
  have hlt:h<1000:=by simpa [XD] using hlt
  obtain ⟨b,hb⟩:=QZ.1 hsome;obtain ⟨g,cap,hβ,_⟩:=hs.boxes h b hb;have hf:=hs.freeze hb hβ hlt
  have kk:Cy w w E (E.free g):=by
   refine ⟨ZF _,λtag x _ hx=>?_,λ_ _ h=>h,λ_ _ _ _ _ h=>h⟩;unfold Env.blk at hx ⊢;split
   . rename_i e;rw [QC e] at hx;exact λh'=>hx h'.1
   . rename_i e;rw [QB e] at hx;exact hx
  have hc2:J2 (B2 h { b with fz:=true } s.boxes) r=true:=by
   simp only [J2,QK,QH] at hrest ⊢;intro k hk;refine ⟨(hrest k hk).1,?_⟩;by_cases e:k=h
   . subst e;rw [At];rfl
   . rw [As _ _ e];exact (hrest k hk).2
  obtain ⟨E2,hs2,kk2,hβ2,hτ2,hl⟩:=A6.freezes r (s:={ s with boxes:=B2 h { b with fz:=true } s.boxes }) hf hc2;refine ⟨E2,?_,⟨ZF _,λtag y hy hb'=>kk2.blk tag y hy (kk.blk tag y hy hb'),λk y hy=>kk2.β k y (kk.β k y hy),λ_ _ _ _ _ h=>h⟩,λk=>hβ2 k,hτ2,λk b0 hk=>?_⟩
  . simp only [Bk,hb];exact hs2
  . simp only [Bk,hb];by_cases e:k=h
    . subst e;rw [hb] at hk;obtain rfl:=QA hk;obtain ⟨b',h1,h2,h3,h4,h5,_,h7⟩:=hl k { b with fz:=true } (At _ _ _);exact ⟨b',h1,h2,h3,h4,λ_=>h5 rfl,λ_=>h5 rfl,h7⟩
    . obtain ⟨b',h1,h2,h3,h4,h5,h6,h7⟩:=hl k b0 (by show A1 k (B2 h _ s.boxes)=_;rw [As _ _ e];exact hk)
      refine ⟨b',h1,h2,h3,h4,h5,λhm=>?_,h7⟩;rcases QX.1 hm with e' | hm
      . exact absurd e' e
      . exact h6 hm
theorem Att {Γ:Ctx} {w:World} {E:Env} {s:St} {tmps:Array Value} (hs:A6 Γ w E s tmps) {h off len:Nat} {b:Box} {v:Value} {rows:List (List I)} (hb:A1 h s.boxes=some b) (hfz:b.fz=true) (htr:b.tr=false)
  (o1:off+len<=b.rows.length) (o2:(b.rows.drop off).take len=rows.map (·.map .i)) (hv:Rc w E v (.hs h off len)):Ri w E v (.sl 0 false b.sz rows):=by
 cases hv with
 | hs _ _ _ g sz cap ad hβ hle had =>
 obtain ⟨rfl,hat,_⟩:=hs.box hb hβ;have hat:=hat htr;have hlt:=hat.lt;obtain ⟨arr,hg,hsz',hl,hm,hlen,hcell,hhf,hA,hT'⟩:=hat
 have hrl:rows.length=len:=by have:=ZY List.length o2;simp at this;omega
 have hget:∀ (i:Nat) (q:List I),rows[i]? = some q->b.rows[off+i]? = some (q.map .i):=by
  intro i q hi
  have hi':i<len:=by rw [<- hrl];exact (ZD.1 hi).1
  have:((b.rows.drop off).take len)[i]? = some (q.map .i):=by rw [o2,QQ,hi];rfl
  rwa [XM,QC hi',YH] at this
 by_cases h0:len=0
 . subst h0;obtain rfl:=YV hrl
   exact .nil _ _ _ _ _ (λe=>by cases e) (λe=>by cases e)
 . obtain rfl:=had (.inl (by omega))
   have hblk:E.blk 0 g:=by
    simp only [Env.blk,if_true];exact hs.fzn h b g _ hb hβ hfz
   have:=Ri.sl (w:=w) (E:=E) 0 b.sz g (off*b.sz) (cap-off) rows (λi j=>(arr[(off+i)*b.sz+j]?).getD undef) (λe=>by subst e;simp at hrl;omega) (by omega) hlt hblk
    (λi q hi=>by have:=hlen _ _ (hget i q hi);simpa using this)
    (λi q j c hi hj=>by
     obtain ⟨u,hu,_⟩:=hcell _ _ j (.i c) (hget i q hi) (by rw [QQ,hj];rfl)
     rw [show off*b.sz+(i*b.sz+j)=(off+i)*b.sz+j by rw [YQ];omega]
     simp [World.cell?,hg,hu])
    (λi q j c hi hj=>by
     obtain ⟨u,hu,hr⟩:=hcell _ _ j (.i c) (hget i q hi) (by rw [QQ,hj];rfl)
     rw [hu]
     cases hr with | i hr=>exact hr)
   rw [hrl] at this;exact this
def Qd (bx:Nat->Option Box) (c c':C):Option (List Prop × List Nat) :=
 match c,c' with
 | .hs h off len,.i (.sl 0 false sz rows)=>match bx h with
  | some b=>bif Nat.beq b.sz sz && !b.tr then some ([off+len<=b.rows.length,(b.rows.drop off).take len=rows.map (·.map .i)],[h]) else none
  | none=>none
 | c,c'=>(Xj c c').map λp=>(p,[])
def Gh (bx:Nat->Option Box):List C->List C->Option (List Prop × List Nat)
 | [],[]=>some ([],[])
 | c::r,c'::r'=>match Qd bx c c',Gh bx r r' with
  | some (p,k),some (q,l)=>some (p++q,k++l)
  | _,_=>none
 | _,_=>none
def M3 (bx:Nat->Option Box):V->V->Option (List Prop × List Nat)
 | .one c,.one c'=>Qd bx c c'
 | .agg cs,.agg cs'=>Gh bx cs cs'
 | _,_=>none
def Atb (s s':St) (ks:List Nat):Prop:=∀ k ∈ ks,∀ b,A1 k s.boxes=some b->∃ b',A1 k s'.boxes=some b'/\b'.rows=b.rows/\b'.sz=b.sz/\b'.fz=true/\b'.tr=b.tr
theorem V7 {Γ:Ctx} {w:World} {E E':Env} {s s':St} {tmps:Array Value} (hs':A6 Γ w E' s' tmps) (kk:Cy w w E E') {v:Value} {c c':C} {obs:List Prop} {ks:List Nat} (hv:Rc w E v c)
  (h:Qd (A1 · s.boxes) c c'=some (obs,ks)) (ho:∀ p ∈ obs,p) (hfz:Atb s s' ks):Rc w E' v c':=by
 unfold Qd at h;split at h
 . rename_i k off len sz rows;split at h
   . rename_i b hb
     cases hc:(Nat.beq b.sz sz && !b.tr) with
     | false=>rw [hc] at h;cases h
     | true =>
      rw [hc] at h;simp only [cond,QF,QL] at h;obtain ⟨rfl,rfl⟩:=h;simp only [QH,XH] at hc;obtain ⟨hc,htr⟩:=hc
      obtain ⟨b',hb',hr,hz,hf,hft⟩:=hfz k (by simp) b hb
      have o1:off+len<=b.rows.length:=ho _ (by simp)
      have o2:(b.rows.drop off).take len=rows.map (·.map .i):=ho _ (by simp)
      have hc:=QD hc
      have:=Att hs' hb' hf (hft.trans htr) (by rw [hr];exact o1) (by rw [hr];exact o2) (hv.keep kk)
      rw [hz,hc] at this;exact .i this
   . cases h
 . simp only [QI,QL] at h;obtain ⟨p,hp,rfl,rfl⟩:=h;exact Py (hv.keep kk) hp ho
theorem A42 {Γ:Ctx} {w:World} {E E':Env} {s s':St} {tmps:Array Value} (hs':A6 Γ w E' s' tmps) (kk:Cy w w E E'):∀ (cs cs':List C) (vs:List Value) (obs:List Prop) (ks:List Nat),Fq w E vs cs ->
  Gh (A1 · s.boxes) cs cs'=some (obs,ks)->(∀ p ∈ obs,p)->Atb s s' ks->Fq w E' vs cs'
 | [],[],vs,_,_,hv,_,_,_=>⟨by simpa using hv.1,λj v c _ hc=>by simp at hc⟩
 | [],_::_,_,_,_,_,h,_,_=>by simp [Gh] at h
 | _::_,[],_,_,_,_,h,_,_=>by simp [Gh] at h
 | c::r,c'::r',[],_,_,hv,_,_,_=>by have:=hv.1;simp at this
 | c::r,c'::r',v::vs,obs,ks,hv,h,ho,hfz=>by
  simp only [Gh] at h;split at h
  . rename_i p k q l h1 h2;simp only [QF,QL] at h;obtain ⟨rfl,rfl⟩:=h;have r1:=V7 hs' kk (hv.2 0 v c rfl rfl) h1 (λx hx=>ho x (QG.2 (.inl hx))) (λx hx=>hfz x (QG.2 (.inl hx)))
    have r2:=A42 hs' kk r r' vs q l ⟨by simpa using hv.1,λj v c hv' hc'=>hv.2 (j+1) v c (by simpa using hv') (by simpa using hc')⟩ h2 (λx hx=>ho x (QG.2 (.inr hx))) (λx hx=>hfz x (QG.2 (.inr hx)))
    refine ⟨by simp [r2.1],λj v' x' hv' hx'=>?_⟩
    cases j with
    | zero=>simp at hv' hx';subst hv';subst hx';exact r1
    | succ j=>exact r2.2 j v' x' (by simpa using hv') (by simpa using hx')
  . cases h
theorem A7e {Γ:Ctx} {w:World} {E E':Env} {s s':St} {tmps:Array Value} (hs':A6 Γ w E' s' tmps) (kk:Cy w w E E') {v:Value} {x x':V} {obs:List Prop} {ks:List Nat} (hv:Rv w E v x)
  (h:M3 (A1 · s.boxes) x x'=some (obs,ks)) (ho:∀ p ∈ obs,p) (hfz:Atb s s' ks):Rv w E' v x':=by
 cases hv with
 | one hv =>
  cases x' with
  | one c'=>exact .one (V7 hs' kk hv h ho hfz)
  | agg=>simp [M3] at h
 | agg hv =>
  cases x' with
  | one c'=>simp [M3] at h
  | agg cs'=>exact .agg (A42 hs' kk _ _ _ _ _ hv h ho hfz)
def A1f (s:St) (t:Nat) (x':V):Option (St × List Prop) :=
 match A1 t s.slots with
 | some (.v x)=>match M3 (A1 · s.boxes) x x' with
  | some (obs,ks)=>bif J2 s.boxes ks then some ({ s with slots:=B2 t (.v x') s.slots,boxes:=Bk s.boxes ks },obs) else none
  | none=>none
 | _=>none
theorem A6.reslot {Γ:Ctx} {w:World} {E:Env} {s:St} {tmps:Array Value} (hs:A6 Γ w E s tmps) {t:Nat} {x:S} (hx:Rs w E (tmps.getD t undef) x):A6 Γ w E { s with slots:=B2 t x s.slots } tmps:=by
 refine { hs with slots:=λi y hy=>?_ };by_cases e:i=t
 . subst e;simp only [At,QF] at hy;subst hy;exact hx
 . simp only [As _ _ e] at hy;exact hs.slots i y hy
theorem Anf {Γ:Ctx} {w:World} {E:Env} {s s':St} {tmps:Array Value} (hs:A6 Γ w E s tmps) {t:Nat} {x':V} {obs:List Prop} (h:A1f s t x'=some (s',obs)) (ho:∀ p ∈ obs,p):∃ E',A6 Γ w E' s' tmps:=by
 unfold A1f at h;split at h
 . rename_i x hx;split at h
   . rename_i obs' ks hcv
     cases hc:J2 s.boxes ks with
     | false=>rw [hc] at h;cases h
     | true =>
      rw [hc] at h;simp only [cond,QF,QL] at h;obtain ⟨rfl,rfl⟩:=h;obtain ⟨E',hs',kk,_,_,hl⟩:=hs.freezes ks hc;have hv:=(hs.slots t _ hx).v_inv
      have:=A7e (s:=s) (s':={ s with boxes:=Bk s.boxes ks }) hs' kk hv hcv ho (λk hk b hb=>by
       obtain ⟨b',h1,h2,h3,_,_,h6,h7⟩:=hl k b hb
       exact ⟨b',h1,h2,h3,h6 hk,h7⟩)
      exact ⟨E',hs'.reslot (.v this)⟩
   . cases h
 . cases h
def Gb:List (Nat × V)->St->Option (St × List Prop)
 | [],s=>some (s,[])
 | (t,x)::r,s=>match A1f s t x with
  | some (s1,p)=>match Gb r s1 with
   | some (s2,q)=>some (s2,p++q)
   | none=>none
  | none=>none
theorem Fd {Γ:Ctx} {w:World} {tmps:Array Value}:∀ (l:List (Nat × V)) {E:Env} {s s':St} {obs:List Prop},A6 Γ w E s tmps->Gb l s=some (s',obs)->(∀ p ∈ obs,p)->∃ E',A6 Γ w E' s' tmps
 | [],E,s,s',obs,hs,h,_=>by
  simp only [Gb,QF,QL] at h;obtain ⟨rfl,rfl⟩:=h;exact ⟨E,hs⟩
 | (t,x)::r,E,s,s',obs,hs,h,ho=>by
  simp only [Gb] at h;split at h
  . rename_i s1 p h1;split at h
    . rename_i s2 q h2;simp only [QF,QL] at h;obtain ⟨rfl,rfl⟩:=h;obtain ⟨E1,hs1⟩:=Anf hs h1 (λx hx=>ho x (QG.2 (.inl hx)));exact Fd r hs1 h2 (λx hx=>ho x (QG.2 (.inr hx)))
    . cases h
  . cases h
end Go.Ev

/- DERIVED. Regions and code, by evaluation along one path. -/
namespace Go.Ev
open Go
variable {P:Program} {T:Ty}
theorem Amr {id:Nat} {ops:Array Oper} {draw:Bool} {i:Nat} {o:Oper} (hi:ops[i]? = some o) {a b:Act} {v:Value}
  (h:b.defers=a.defers /\ ∀ t,(Code.region id ops draw).wr t=false->b.tmps.getD t undef=a.tmps.getD t undef) :
  (b.put o.dst v).defers=a.defers /\ ∀ t,(Code.region id ops draw).wr t=false->(b.put o.dst v).tmps.getD t undef=a.tmps.getD t undef:=by
 cases hd:o.dst with
 | none=>simpa [Act.put] using h
 | some u =>
  refine ⟨h.1,λt ht=>?_⟩;rw [<- h.2 t ht]
  have hne:u ≠ t:=by
   rintro rfl
   have hm:o ∈ ops.toList:=by
    obtain ⟨hl,rfl⟩:=ZU.1 hi;simp
   have:(Code.region id ops draw).wr u=true:=ZL.2 ⟨o,hm,by simp [hd]⟩
   rw [this] at ht;cases ht
  simp [Act.put,KH,hne]
def Ei (P:Program) (T:Ty) (K:Aj) (ops:List Oper) (Ds:List (Nat × Hh)):List (Nat × Oper)->St->Option (St × List Prop)
 | [],s=>some (s,[])
 | (i,o)::r,s=>match Gb ((A1 i Ds).getD {}).fz s with
  | some (s0,u)=>match A4o P T K ops o ((A1 i Ds).getD {}) s0 with
   | some (s1,p)=>match Ei P T K ops Ds r s1 with
    | some (s2,q)=>some (s2,u++(p++q))
    | none=>none
   | none=>none
  | none=>none
theorem A1k (hT:B8 P T) {K:Aj} {ops:Array Oper} {Ds:List (Nat × Hh)}:∀ (l:List (Nat × Oper)) (s s':St) (obs:List Prop),(∀ p ∈ l,ops[p.1]? = some p.2)->Ei P T K ops.toList Ds l s=some (s',obs)->(∀ p ∈ obs,p) ->
  ∀ (Γ:Ctx) (w:World) (E:Env) (a:Act) (ro:Option Nat) (n:Nat) (X:Act->Prop),Γ.K=K->(∀ (i:Nat) (o:Oper),ops[i]? = some o->∀ b v,X b->X (b.put o.dst v))->X a->A6 Γ w E s a.tmps->∀ (Q:Exit->Act->World->Prop),(∀ a' w',X a'->(∃ E',A6 Γ w' E' s' a'.tmps)->Q .normal a' w')->wpOpsIn (FR ro) n P ops Q (l.map (·.1)) a w
 | [],s,s',obs,_,h,_,Γ,w,E,a,ro,n,X,hK,hX,hd,hs,Q,hQ=>by
  simp only [Ei,QF,QL] at h;obtain ⟨rfl,rfl⟩:=h;exact hQ a w hd ⟨E,hs⟩
 | (i,o)::r,s,s',obs,hl,h,ho,Γ,w,E,a,ro,n,X,hK,hX,hd,hs,Q,hQ=>by
  simp only [Ei] at h;split at h
  . rename_i s0 u hfz;split at h
    . rename_i s1 p hstep;split at h
      . rename_i s2 q hrest;simp only [QF,QL] at h;obtain ⟨rfl,rfl⟩:=h;obtain ⟨E0,hs⟩:=Fd _ hs hfz (λx hx=>ho x (QG.2 (.inl hx)));have ho:∀ x ∈ p++q,x:=λx hx=>ho x (QG.2 (.inr hx))
        have hi:ops[i]? = some o:=hl (i,o) (by simp)
        have ih:=A1k hT r s1 s2 q (λp hp=>hl p (by simp [hp])) hrest (λx hx=>ho x (QG.2 (.inr hx)))
        simp only [QT,wpOpsIn,hi];unfold A4o at hstep;split at hstep
        . rename_i hg;rw [Hl hs hg];exact Hj hT hstep (λx hx=>ho x (QG.2 (.inl hx))) Γ w E0 a ro n X hK (hX i o hi) hd hs _ Q (λa' w' hd' ⟨E',hs'⟩=>ih Γ w' E' a' ro n X hK hX hd' hs' Q hQ)
        . rename_i hg;rw [Hl hs hg];simp only [QI,QL] at hstep;obtain ⟨s3,hput,rfl,rfl⟩:=hstep;obtain ⟨hs3,_⟩:=Io hK hs (v:=Go.undef) Rs.undef hput;simp only [XG,if_false];exact ⟨λ_ _=>trivial,ih Γ w E0 _ ro n X hK hX (hX i o hi _ _ hd) hs3 Q hQ⟩
        . cases hstep
      . cases h
    . cases h
  . cases h
def Amf (l:List Nat) (sl:List (Nat × S)):List (Nat × S):=sl.filter λp=>!l.contains p.1
theorem B4h {t:Nat} {x:S} {l:List Nat} {sl:List (Nat × S)} (h:A1 t (Amf l sl)=some x):A1 t sl=some x:=by
 induction sl with
 | nil=>exact h
 | cons p r ih =>
  obtain ⟨j,y⟩:=p;unfold Amf at h ih;simp only [YT] at h;simp only [A1]
  cases hb:Nat.beq j t with
  | true =>
   have:=QD hb;subst this;split at h
   . simpa [A1] using h
   . rename_i hc;exfalso;simp only [XH,Bool.not_eq_false] at hc
     have:∀ (q:List (Nat × S)),A1 j (q.filter λp=>!l.contains p.1) = .none:=by
      intro q
      induction q with
      | nil=>rfl
      | cons p' r' ih' =>
       obtain ⟨j',y'⟩:=p';simp only [YT];split
       . rename_i hc';simp only [A1]
         cases hb':Nat.beq j' j with
         | true =>
          have:=QD hb';subst this;simp only [XH] at hc';rw [hc'] at hc
          cases hc
         | false=>exact ih'
       . exact ih'
     rw [this] at h
     cases h
  | false =>
   simp only [cond];split at h
   . simp only [A1,hb,cond] at h;exact ih h
   . exact ih h
structure RD where
 ds:List (Nat × Hh):=[]
 drop:List Nat:=[]
def St.forget (s:St) (l:List Nat):St:={ s with slots:=Amf l s.slots }
def Ad (l:List Oper):List (Nat × Oper):=l.zipIdx.map λp=>(p.2,p.1)
def O9 (P:Program) (T:Ty) (K:Aj) (ops:Array Oper) (R:RD) (s:St):Option (St × List Prop) :=
 match Ei P T K ops.toList R.ds (Ad ops.toList) s with
 | some (s',p)=>some (s'.forget R.drop,p)
 | none=>none
theorem Ano (hT:B8 P T) {K:Aj} {id:Nat} {ops:Array Oper} {R:RD} {s s':St} {obs:List Prop} (h:O9 P T K ops R s=some (s',obs)) (ho:∀ p ∈ obs,p):Code.Den P K (.region id ops false) s .normal s':=by
 unfold O9 at h;split at h
 . rename_i s1 p hr;simp only [QF,QL] at h;obtain ⟨rfl,rfl⟩:=h;intro Γ w E a ro n hK _ hs;refine wpIn_region ?_
   have hl:List.range ops.size=(Ad ops.toList).map (·.1):=by
    apply JY;intro j;simp only [Ad,XC,QQ,YY];by_cases hj:j<ops.size
    . simp [hj]
    . simp [hj]
   rw [hl]
   exact A1k hT _ s s1 _ (λq hq=>by
    obtain ⟨⟨o,i⟩,hm,rfl⟩:=ZK.1 hq;have:=List.mem_zipIdx hm;simp at this ⊢;obtain ⟨h1,h2⟩:=this;rw [h2]
    simp [h1]) hr ho Γ w E a ro n (λb=>b.defers=a.defers /\ ∀ t,(Code.region id ops false).wr t=false->b.tmps.getD t undef=a.tmps.getD t undef) hK (λi o hi b v hb=>Amr hi hb) ⟨rfl,λ_ _=>rfl⟩ hs _ (λa' w' hd' ⟨E',hs'⟩=>⟨rfl,.id hd'.1 hd'.2 ⟨E',hs'.less λt x hx=>B4h hx⟩⟩)
 . cases h
end Go.Ev

/- DERIVED. A body's evaluation gives the function's contract. -/
namespace Go.Ev
open Go
variable {P:Program} {T:Ty}
def params:Nat->List V->List (Nat × S)
 | _,[]=>[]
 | i,x::r=>(i,.v x)::params (i+1) r
theorem A76:∀ (l:List V) (i t:Nat) (x:S),A1 t (params i l)=some x->∃ y,x = .v y/\i<=t/\l[t-i]? = some y
 | [],i,t,x,h=>by cases h
 | y::r,i,t,x,h=>by
  simp only [params,A1] at h
  cases hb:Nat.beq i t with
  | true =>
   rw [hb] at h;have:=QD hb;subst this
   exact ⟨y,(QA h).symm,ZF _,by simp⟩
  | false =>
   rw [hb] at h;obtain ⟨z,hz,hle,hl⟩:=A76 r (i+1) t x h
   refine ⟨z,hz,by omega,?_⟩
   rw [show t-i=(t-(i+1))+1 by omega]
   simpa using hl
theorem Bge {K:Aj} {w:World} {E:Env} {nt:Nat} {bs:List (Nat × Box)} {args:List V} {vs:List Value} (hin:FIn w E nt bs) (hv:P2 w E vs args) (hle:args.length<=K.N) :
  A6 { w0:=w,E0:=E,nt0:=nt,pass:=handed E bs,K:=K,hold:=λ_ _=>False } w E { slots:=params 0 args,boxes:=bs,nt:=nt } (vs.toArray++Array.replicate (K.N-vs.toArray.size) undef) where
 fr:=⟨rfl,rfl,rfl,ZF _,λ_ _ _=>rfl⟩
 wf:=hin.wf
 held:=λ_ _ h=>h.elim
 old:=λ_ _=>Iff.rfl
 nt:=ZF _
 tag:=λ_ _=>rfl
 new:=λt g ht hg=>absurd (hin.wf.tag t g hg).1 (Nat.not_lt.2 ht)
 boxes:=λh b hb=>(hin.boxes h b hb).1
 inj:=hin.inj
 own:=λh b g z hb hβ=>.inr ⟨⟨h,b,hb,.inl ⟨z,hβ⟩⟩,(hin.boxes h b hb).2.1,(hin.boxes h b hb).2.2,λ_=>⟨z,hβ⟩⟩
 slots:=λt x hx=>by
  obtain ⟨y,rfl,_,hl⟩:=A76 args 0 t x hx;rw [KZ] at hl;have hlt:=(ZD.1 hl).1
  have hlt':t<vs.length:=by rw [hv.1];exact hlt
  have hv':vs[t]? = some vs[t]:=QN hlt';have:=hv.2 t _ _ hv' hl
  have hget:(vs.toArray++Array.replicate (K.N-vs.toArray.size) undef).getD t undef=vs[t]:=by
   have:t<(vs.toArray++Array.replicate (K.N-vs.toArray.size) undef).size:=by simp;omega
   simp [Array.getD,hlt'];omega
  rw [hget];exact .v this
 tsize:=by simp [hv.1];omega
 dom:=hin.dom
 stay:=λ_ _ _ _=>rfl
 fzn:=λh b g z hb _ hf=>by rw [(hin.boxes h b hb).2.1] at hf;cases hf
 tow:=λg h hg=>by
  obtain ⟨b,hb⟩:=QZ.1 (hin.odom g h hg);exact .inr ⟨h,b,hb,.inr hg⟩
theorem Ri.sameAτ {w:World} {E E':Env} (hA:E'.A=E.A) (hτ:E'.τ=E.τ) {v:Value} {x:I} (h:Ri w E v x):Ri w E' v x:=by
 refine h.keepI (ZF _) (λtag g _ hb=>?_) (λ_ _ _ _ _ h=>h);unfold Env.blk at hb ⊢;rw [hA,hτ];exact hb
def V0 (bs:List (Nat × Box)) (out:List Nat):List (Nat × Box):=bs.filter λp=>out.contains p.1
theorem Gk {h:Nat} {b:Box} {out:List Nat}:∀ {bs:List (Nat × Box)},A1 h (V0 bs out)=some b->out.contains h=true/\A1 h bs=some b
 | [],hb=>by cases hb
 | (j,y)::r,hb=>by
  unfold V0 at hb;simp only [YT] at hb
  have none_of:out.contains h=false->∀ q:List (Nat × Box),A1 h (q.filter λp=>out.contains p.1) = .none:=by
   intro hc q
   induction q with
   | nil=>rfl
   | cons p' r' ih' =>
    simp only [YT];split
    . rename_i hc';simp only [A1]
      cases hb':Nat.beq p'.1 h with
      | true=>have:=QD hb';rw [this,hc] at hc';cases hc'
      | false=>exact ih'
    . exact ih'
  simp only [A1]
  cases hb':Nat.beq j h with
  | true =>
   have:=QD hb';subst this
   cases hc:out.contains j with
   | true =>
    rw [QC hc] at hb;simp only [A1,hb',cond] at hb;exact ⟨rfl,hb⟩
   | false =>
    rw [QB (by rw [hc];exact Bool.false_ne_true)] at hb
    rw [none_of hc] at hb
    cases hb
  | false =>
   simp only [cond];split at hb
   . simp only [A1,hb',cond] at hb;exact Gk hb
   . exact Gk hb
theorem Rr {h:Nat} {b:Box} {out:List Nat} (ho:out.contains h=true):∀ {bs:List (Nat × Box)},A1 h bs=some b->A1 h (V0 bs out)=some b
 | [],hb=>by cases hb
 | (j,y)::r,hb=>by
  unfold V0;simp only [YT];simp only [A1] at hb
  cases hb':Nat.beq j h with
  | true =>
   have:=QD hb';subst this;rw [QC ho];rw [hb'] at hb;simp only [A1,hb'];exact hb
  | false =>
   rw [hb'] at hb;split
   . simp only [A1,hb',cond];exact Rr ho hb
   . exact Rr ho hb
def Rk (T:Ty) (s:St):ResultVar->Option (V × List Prop)
 | .tmp t=>match A1 t s.slots with
  | some (.v x)=>some (x,[])
  | _=>none
 | .cell a t=>match Jy T none t (s.val (.tmp a)) s.box with
  | some r=>match r.val with
   | .v x=>some (x,r.ob)
   | _=>none
  | none=>none
def Lf (T:Ty) (s:St) (rv:ResultVar) (d:Option V):Option (V × List Prop × List Nat) :=
 match Rk T s rv with
 | some (x,p)=>match d with
  | none=>some (x,p,[])
  | some x'=>match M3 s.box x x' with
   | some (q,ks)=>some (x',p++q,ks)
   | none=>none
 | none=>none
def Fh (T:Ty) (s:St):List ResultVar->List (Option V)->Option (List V × List Prop × List Nat)
 | [],_=>some ([],[],[])
 | rv::r,ds=>match Lf T s rv (ds.headD none),Fh T s r ds.tail with
  | some (x,p,ks),some (xs,q,ls)=>some (x::xs,p++q,ks++ls)
  | _,_=>none
def F1:List V->S
 | [x]=>.v x
 | xs=>.tup xs
theorem A1n {Γ:Ctx} (hT:B8 P T) {w:World} {E:Env} {s:St} {tmps:Array Value} (hs:A6 Γ w E s tmps) {rv:ResultVar} {x:V} {obs:List Prop} (h:Rk T s rv=some (x,obs)) (ho:∀ p ∈ obs,p) :
  ∃ v,(match rv with | .tmp t=>pure (tmps.getD t undef) | .cell a t=>do loadVar t (<- asAddr (tmps.getD a undef)):Sem Value).run P w = .ok v w/\Rv w E v x:=by
 unfold Rk at h;split at h
 . rename_i t;split at h
   . rename_i y hy;simp only [QF,QL] at h;obtain ⟨rfl,rfl⟩:=h
     exact ⟨_,by simp,(hs.slots t _ hy).v_inv⟩
   . cases h
 . rename_i a t;split at h
   . rename_i r hr;split at h
     . rename_i y hy;simp only [QF,QL] at h;obtain ⟨rfl,rfl⟩:=h;have hv:=hs.val_sound (a:={ tmps:=tmps,defers:=[] }) (.tmp a);simp only [Act.eval] at hv;obtain ⟨u,hu,hru,_⟩:=Acc hT hs hv hr ho;rw [hy] at hru;refine ⟨u,?_,hru.v_inv⟩;simp only [Instr.loadAt] at hu;generalize tmps.getD a undef=z at hu ⊢;unfold Instr.sureAddr at hu;unfold asAddr;split at hu
       . simpa using hu
       . simp [Go.stuck] at hu
     . cases h
   . cases h
theorem Rl {Γ:Ctx} (hT:B8 P T) {w:World} {E E':Env} {s s':St} {tmps:Array Value} (hs:A6 Γ w E s tmps) (hs':A6 Γ w E' s' tmps) (kk:Cy w w E E'):∀ (l:List ResultVar) (ds:List (Option V)) (xs:List V) (obs:List Prop) (ks:List Nat),
  Fh T s l ds=some (xs,obs,ks)->(∀ p ∈ obs,p)->Atb s s' ks->∃ vs:List Value,(l.mapM λrv=>(match rv with | .tmp t=>pure (tmps.getD t undef) | .cell a t=>do loadVar t (<- asAddr (tmps.getD a undef)):Sem Value)).run P w = .ok vs w/\P2 w E' vs xs
 | [],ds,xs,obs,ks,h,_,_=>by
  simp only [Fh,QF,QL] at h;obtain ⟨rfl,_,_⟩:=h
  exact ⟨[],by simp,rfl,λj v c _ hc=>by simp at hc⟩
 | rv::r,ds,xs,obs,ks,h,ho,hfz=>by
  simp only [Fh] at h;split at h
  . rename_i x p k xs' q l h1 h2;simp only [QF,QL] at h;obtain ⟨rfl,rfl,rfl⟩:=h;have ho1:∀ y ∈ p,y:=λy hy=>ho y (QG.2 (.inl hy));have hz1:Atb s s' k:=λy hy=>hfz y (QG.2 (.inl hy));obtain ⟨vs,hvs,hrs⟩:=Rl hT hs hs' kk r ds.tail xs' q l h2 (λy hy=>ho y (QG.2 (.inr hy))) (λy hy=>hfz y (QG.2 (.inr hy)))
    have one:∃ v,(match rv with | .tmp t=>pure (tmps.getD t undef) | .cell a t=>do loadVar t (<- asAddr (tmps.getD a undef)):Sem Value).run P w = .ok v w/\Rv w E' v x:=by
     unfold Lf at h1;split at h1
     . rename_i y p' hraw;split at h1
       . simp only [QF,QL] at h1;obtain ⟨rfl,rfl,rfl⟩:=h1;obtain ⟨v,hv,hr⟩:=A1n hT hs hraw ho1;exact ⟨v,hv,hr.keep kk⟩
       . rename_i x' _;split at h1
         . rename_i q' ks' hcv;simp only [QF,QL] at h1;obtain ⟨rfl,rfl,rfl⟩:=h1;obtain ⟨v,hv,hr⟩:=A1n hT hs hraw (λz hz=>ho1 z (QG.2 (.inl hz)));exact ⟨v,hv,A7e (s:=s) hs' kk hr hcv (λz hz=>ho1 z (QG.2 (.inr hz))) hz1⟩
         . cases h1
     . cases h1
    obtain ⟨v,hv,hrv⟩:=one
    refine ⟨v::vs,?_,by simp [hrs.1],λj v' x' hv' hx'=>?_⟩
    . simp only [Qbv,Sem.run_bind,hv,Result.andThen_ok,hvs,Sem.run_pure]
    . cases j with
      | zero=>simp at hv' hx';subst hv';subst hx';exact hrv
      | succ j=>exact hrs.2 j v' x' (by simpa using hv') (by simpa using hx')
  . cases h
end Go.Ev

/- DERIVED. A body's evaluation gives the function's contract. -/
namespace Go.Ev
open Go
variable {P:Program} {T:Ty}
theorem A73 {fn:Func} {tmps:Array Value} {w:World} {vs:List Value}
  (h:(fn.results.toList.mapM λrv=>(match rv with | .tmp t=>pure (tmps.getD t undef) | .cell a t=>do loadVar t (<- asAddr (tmps.getD a undef)):Sem Value)).run P w = .ok vs w) :
  (results fn tmps).run P w = .ok (if h:vs.length=1 then vs[0] else .tuple vs.toArray) w:=by
 unfold results;rw [Array.mapM_eq_mapM_toList];rw [Sem.run_bind,map_eq_pure_bind,Sem.run_bind]
 refine Eq.trans (ZY (λr:Result (List Value)=>(r.andThen λa w'=>(pure a.toArray:Sem (Array Value)).run P w').andThen λvs w'=>(pure (if h:vs.size=1 then vs[0] else .tuple vs):Sem Value).run P w') h) ?_
 simp only [Result.andThen_ok,Sem.run_pure];by_cases e:vs.length=1
 . simp [e]
 . simp [e]
theorem Acj {w:World} {E:Env} {vs:List Value} {xs:List V} (h:P2 w E vs xs):Rs w E (if h:vs.length=1 then vs[0] else .tuple vs.toArray) (F1 xs):=by
 match xs,vs,h with
 | [],[],h=>exact .tup h
 | [x],[v],h=>exact .v (h.2 0 v x rfl rfl)
 | x::y::r,v::u::q,h =>
  have:¬ (v::u::q).length=1:=by simp
  rw [dif_neg this];exact .tup h
 | [],_::_,h=>have:=h.1;simp at this
 | [_],[],h=>have:=h.1;simp at this
 | [_],_::_::_,h=>have:=h.1;simp at this
 | _::_::_,[],h=>have:=h.1;simp at this
 | _::_::_,[_],h=>have:=h.1;simp at this
theorem Aim {xs:List V} (h:xs.all V.noH=true):(F1 xs).noH=true:=by
 match xs,h with
 | [],_=>rfl
 | [x],h=>simpa [F1,S.noH] using h
 | x::y::r,h=>simpa [F1,S.noH] using h
theorem Bhp (hT:B8 P T) {f:FuncId} {fn:Func} {c:Code} {K:Aj} {nt:Nat} {bs:List (Nat × Box)} {args:List V} {x:Exit} {s':St}
  (hf : P.funcs[f]? = some fn) (hname : (fn.name == "runtime.NumGoroutine") = false) (hb : fn.body = some c) (hN : fn.ntmps = K.N) (hmv : K.mv = []) (hargs : args.length <= K.N)
  (hx:x = .normal \/ x = .ret) (hd:Code.Den P K c { slots:=params 0 args,boxes:=bs,nt:=nt } x s')
  {ds:List (Option V)} {xs:List V} {obs:List Prop} {ks:List Nat} (hr:Fh T s' fn.results.toList ds=some (xs,obs,ks)) (ho:∀ p ∈ obs,p) (hc:J2 s'.boxes ks=true)
  (out:List Nat) (hres:xs.all V.noH=true) (hout:∀ h b,A1 h (V0 (Bk s'.boxes ks) out)=some b->b.fz=false/\b.hf=true) (hkeys:∀ h b,A1 h bs=some b->out.contains h=true) (hout2:∀ h,out.contains h=true->h<2000) :
  Me P f nt [] bs args (F1 xs) s'.nt (V0 (Bk s'.boxes ks) out):=by
 refine ⟨⟨fn,hf,hname,by rw [hb];rfl⟩,λw E vs hin hv=>?_⟩
 refine Aow hf hb hN rfl hx hd (Bge hin hv hargs) ?_;intro a w' E1 hs1
 change A6 { w0:=w,E0:=E,nt0:=nt,pass:=handed E bs,K:=K,hold:=λ_ _=>False } w' E1 s' a.tmps at hs1
 obtain ⟨E',hs',kk,hβ,hτ,hl⟩:=hs1.freezes ks hc
 obtain ⟨rs,hrun,hrs⟩:=Rl hT (s:=s') (s':={ s' with boxes:=Bk s'.boxes ks }) hs1 hs' kk fn.results.toList ds xs obs ks hr ho (λk hk b hb=>by
  obtain ⟨b',h1,h2,h3,_,_,h6,h7⟩:=hl k b hb
  exact ⟨b',h1,h2,h3,h6 hk,h7⟩)
 have hres':=A73 hrun;have hread:=Acj hrs
 let Ef:Env:={ A:=E'.A,τ:=E'.τ,β:=λh=>if out.contains h then E'.β h else none,ω:=E'.ω }
 have hβout:∀ h b,A1 h (V0 (Bk s'.boxes ks) out)=some b->Ef.β h=E'.β h:=λh b hb=>by
  show (if out.contains h then E'.β h else none)=_
  rw [QC (Gk hb).1]
 have hkeep:∀ h,1000<=h->h<2000->E'.β h=E.β h:=λh hh hh2=>hs'.stay h hh hh2 (by rw [hmv];rfl)
 have goal:∃ v Ef',(Ending.returned (if h:rs.length=1 then rs[0] else .tuple rs.toArray) = .returned v)/\Rs w' Ef' v (F1 xs)/\Bev w E nt bs [] w' Ef' s'.nt (V0 (Bk s'.boxes ks) out):=by
  refine ⟨_,Ef,rfl,Rs.noH (E:=E') (E':=Ef) rfl rfl (Aim hres) hread,⟨hs'.fr,⟨hs'.wf.alt,hs'.wf.tag,hs'.wf.inj,hs'.wf.om⟩,hs'.old,hs'.nt,hs'.tag,hs'.new,λh b hb=>?_,λh h' b b' g g' z z' hb hb' hz hz'=>?_,λh b g z hb hz=>?_,λh b hb _=>?_,hs'.tow⟩⟩
  . obtain ⟨hfz,hhf⟩:=hout h b hb;obtain ⟨g,cap,hβ',⟨arr,a1,a2,a3,a4,a5,a6,a7,a8,a9⟩,hω,hS⟩:=hs'.boxes h b (Gk hb).2;rw [Env.rd_τ] at a9
    refine ⟨⟨g,cap,(hβout h b hb).trans hβ',⟨arr,a1,a2,a3,a4,a5,λi r j c hi hj=>?_,a7,λe=>(Env.rd_A (E:=Ef) hω).2 ((Env.rd_A (E:=E') hω).1 (a8 e)),by rw [Env.rd_τ];exact a9⟩,hω,hS⟩,hfz⟩
    obtain ⟨v,hv',hrc⟩:=a6 i r j c hi hj;obtain ⟨y,rfl⟩:=a7 hhf i r j c hi hj
    cases hrc with | i hri=>exact ⟨v,hv',.i (Ri.sameAτ (E:=E'.rd h b.tr) (E':=Ef.rd h b.tr) (by cases b.tr <;> rfl) (by cases b.tr <;> rfl) hri)⟩
  . rw [hβout h b hb] at hz;rw [hβout h' b' hb'] at hz';exact hs'.inj h h' b b' g g' z z' (Gk hb).2 (Gk hb').2 hz hz'
  . rw [hβout h b hb] at hz;rcases hs'.own h b g z (Gk hb).2 hz with h' | h'
    . exact .inl h'
    . obtain ⟨z0,hE⟩:=h'.2.2.2 (hout2 h (Gk hb).1);obtain ⟨b0,hb0⟩:=QZ.1 (hin.dom h _ hE);exact .inr ⟨b0,z0,hb0,hE⟩
  . have h1:=(hin.boxes h b hb).2.2
    have h2:Ef.β h=E.β h:=by
     show (if out.contains h then E'.β h else none)=_
     rw [QC (hkeys h b hb),hkeep h h1 (hout2 h (hkeys h b hb))]
    refine ⟨h2,?_⟩;obtain ⟨g,cap,hβ',_⟩:=(hin.boxes h b hb).1;have:=hs'.dom h _ ((hkeep h h1 (hout2 h (hkeys h b hb))).trans hβ');obtain ⟨b',hb'⟩:=QZ.1 this;rw [Rr (hkeys h b hb) hb'];rfl
 obtain ⟨v,Ef',e,h1,h2⟩:=goal;exact ⟨_,hres',v,Ef',e,h1,h2⟩
theorem Anw (bs:List (Nat × Box)):V0 bs []=[]:=by
 induction bs with
 | nil=>rfl
 | cons p r ih=>simp [V0]
theorem B54 (hT:B8 P T) {f:FuncId} {fn:Func} {c:Code} {K:Aj} {nt:Nat} {args:List V} {x:Exit} {s':St}
  (hf : P.funcs[f]? = some fn) (hname : (fn.name == "runtime.NumGoroutine") = false) (hb : fn.body = some c) (hN : fn.ntmps = K.N) (hmv : K.mv = []) (hargs : args.length <= K.N)
  (hx:x = .normal \/ x = .ret) (hd:Code.Den P K c { slots:=params 0 args,boxes:=[],nt:=nt } x s')
  {ds:List (Option V)} {xs:List V} {obs:List Prop} {ks:List Nat} (hr:Fh T s' fn.results.toList ds=some (xs,obs,ks)) (ho:∀ p ∈ obs,p) (hc:J2 s'.boxes ks=true)
  (hres:xs.all V.noH=true):Me P f nt [] [] args (F1 xs) s'.nt []:=by
 have:=Bhp hT hf hname hb hN hmv hargs hx hd hr ho hc [] hres (λh b hb=>by rw [Anw] at hb;cases hb) (λh b hb=>by cases hb) (λh hh=>by cases hh)
 rw [Anw] at this;exact this
end Go.Ev

/- DERIVED. A body's evaluation gives the contract of a function that is handed boxes or hands out boxes. -/
namespace Go.Ev
open Go
variable {P:Program} {T:Ty}
theorem Bc1 (hT:B8 P T) {f:FuncId} {fn:Func} {c:Code} {K:Aj} {nt:Nat} {bs bs':List (Nat × Box)} {args:List V} {x:Exit} {s':St}
  (hf : P.funcs[f]? = some fn) (hname : (fn.name == "runtime.NumGoroutine") = false) (hb : fn.body = some c) (hN : fn.ntmps = K.N) (hargs : args.length <= K.N)
  (hx:x = .normal \/ x = .ret) (hd:Code.Den P K c { slots:=params 0 args,boxes:=bs,nt:=nt } x s')
  {ds:List (Option V)} {xs:List V} {obs:List Prop} {ks:List Nat} (hr:Fh T s' fn.results.toList ds=some (xs,obs,ks)) (ho:∀ p ∈ obs,p) (hc:J2 s'.boxes ks=true)
  (σ ρ:Nat->Nat)
  (hb':∀ k b,A1 k bs'=some b->(∃ b0,A1 (σ k) (Bk s'.boxes ks)=some b0/\b=b0.ren ρ/\b0.okH (λh=>(A1 (ρ h) bs').isSome&&Nat.beq (σ (ρ h)) h)=true)/\b.fz=false/\(σ k<1000 \/ (σ k=k/\k<2000)))
  (hσ:∀ k k',(A1 k bs').isSome=true->(A1 k' bs').isSome=true->σ k=σ k'->k=k')
  (hρ:(F1 xs).okH (λh=>(A1 (ρ h) bs').isSome&&Nat.beq (σ (ρ h)) h)=true)
  (hkeys:∀ k b,A1 k bs=some b->σ k=k/\(A1 k bs').isSome=true/\k<2000) :
  Me P f nt K.mv bs args ((F1 xs).ren ρ) s'.nt bs':=by
 refine ⟨⟨fn,hf,hname,by rw [hb];rfl⟩,λw E vs hin hv=>?_⟩
 refine Aow hf hb hN rfl hx hd (Bge hin hv hargs) ?_;intro a w' E1 hs1
 change A6 { w0:=w,E0:=E,nt0:=nt,pass:=handed E bs,K:=K,hold:=λ_ _=>False } w' E1 s' a.tmps at hs1
 obtain ⟨E',hs',kk,hβ,hτ,hl⟩:=hs1.freezes ks hc
 obtain ⟨rs,hrun,hrs⟩:=Rl hT (s:=s') (s':={ s' with boxes:=Bk s'.boxes ks }) hs1 hs' kk fn.results.toList ds xs obs ks hr ho (λk hk b hb=>by
  obtain ⟨b',h1,h2,h3,_,_,h6,h7⟩:=hl k b hb
  exact ⟨b',h1,h2,h3,h6 hk,h7⟩)
 have hres':=A73 hrun;have hread:=Acj hrs
 let P':Nat->Nat->Prop:=λg k=>(A1 k bs').isSome=true/\E'.ω g=some (σ k)
 let Ef:Env:={ A:=E'.A,τ:=E'.τ,β:=λk=>if (A1 k bs').isSome then E'.β (σ k) else none,ω:=λg=>@dite _ (∃ k,P' g k) (Classical.propDecidable _) (λh=>some h.choose) (λ_=>none) }
 have ωf:∀ g k,Ef.ω g=some k ↔ P' g k:=by
  intro g k;show (@dite _ (∃ k,P' g k) (Classical.propDecidable _) (λh=>some h.choose) (λ_=>none))=some k ↔ _;by_cases h:∃ k,P' g k
  . rw [dif_pos h];have hc:=h.choose_spec;constructor
    . intro e;rw [<- QA e];exact hc
    . intro hk;congr 1;exact hσ _ _ hc.1 hk.1 (QA (hc.2.symm.trans hk.2))
  . rw [dif_neg h];exact ⟨(λe=>nomatch e),λhk=>absurd ⟨k,hk⟩ h⟩
 have hβout:∀ k b,A1 k bs'=some b->Ef.β k=E'.β (σ k):=λk b hb=>by
  show (if (A1 k bs').isSome then E'.β (σ k) else none)=_
  rw [QC (by rw [hb];rfl)]
 have hkeep:∀ h,1000<=h->h<2000->K.mv.contains h=false->E'.β h=E.β h:=λh hh hh2 hm=>hs'.stay h hh hh2 hm
 have goal:∃ v Ef',(Ending.returned (if h:rs.length=1 then rs[0] else .tuple rs.toArray) = .returned v)/\Rs w' Ef' v ((F1 xs).ren ρ)/\Bev w E nt bs K.mv w' Ef' s'.nt bs':=by
  refine ⟨_,Ef,rfl,Rs.ren (E:=E') (E':=Ef) (Q:=λ_=>True) (λv y h _=>Ri.sameAτ (E:=E') (E':=Ef) rfl rfl h) (λh hh=>?_) hρ S.allI_true hread,⟨hs'.fr,⟨hs'.wf.alt,hs'.wf.tag,hs'.wf.inj,λg k hk=>hs'.wf.om g _ ((ωf g k).1 hk).2⟩,hs'.old,hs'.nt,hs'.tag,hs'.new,λk b hb=>?_,λk k' b b' g g' z z' hb hb2 hz hz' hne=>?_,λk b g z hb hz=>?_,λk b hb hm=>?_,λg k hk=>hs'.tow g _ ((ωf g k).1 hk).2⟩⟩
  . simp only [QH] at hh
    show (if (A1 (ρ h) bs').isSome then E'.β (σ (ρ h)) else none)=_
    rw [QC hh.1,QD hh.2]
  . obtain ⟨⟨b0,h1,rfl,hok⟩,hfz,_⟩:=hb' k b hb;obtain ⟨g,cap,hβ',hat,hω,hS⟩:=hs'.boxes _ b0 h1
    have a9:∀ t,E'.τ t ≠ some g:=by obtain ⟨_,_,_,_,_,_,_,_,_,a9⟩:=hat;rw [Env.rd_τ] at a9;exact a9
    have hks:(A1 k bs').isSome=true:=by rw [hb];rfl
    have hωf:Ef.ω g=none:=by
     cases e:Ef.ω g with
     | none=>rfl
     | some k0=>have:=((ωf g k0).1 e).2;rw [hω] at this;cases this
    refine ⟨⟨g,cap,(hβout k _ hb).trans hβ',C3.ren_ hat rfl (λi r j c v hi hj _ hrc=>?_) (λe=>(Env.rd_A (E:=Ef) hωf).2 ((Env.rd_A (E:=E') hω).1 e)) (by rw [Env.rd_τ];exact a9),hωf,λe=>by
     have hS':=P1.ren_ (σ:=ρ) (hS e)
     exact ⟨λi r j y len cap a h1 h2 h3 h4 h5=>(ωf _ _).2 ⟨hks,hS'.1 i r j y len cap a h1 h2 h3 h4 h5⟩,hS'.2⟩⟩,hfz⟩
    have hokc:=Box.okH_get hok hi hj
    have hβk:∀ h,((A1 (ρ h) bs').isSome&&Nat.beq (σ (ρ h)) h)=true->(Ef.rd k (b0.ren ρ).tr).β (ρ h)=(E'.rd (σ k) b0.tr).β h:=λh hh=>by
     rw [Env.rd_β,Env.rd_β];simp only [QH] at hh
     show (if (A1 (ρ h) bs').isSome then E'.β (σ (ρ h)) else none)=_
     rw [QC hh.1,QD hh.2]
    cases c with
    | hs k' off len=>cases hrc with | hs _ _ _ g sz cap ad hβ hle had=>exact .hs (ρ k') off len g sz cap ad ((hβk k' hokc).trans hβ) hle had
    | hp k' row col=>cases hrc with | hp _ _ _ g sz cap hβ=>exact .hp (ρ k') row col g sz cap ((hβk k' hokc).trans hβ)
    | i y =>
    cases hrc with | i hri =>
     refine .i ?_;show Ri w' (Ef.rd k b0.tr) v y
     cases htr:b0.tr with
     | false =>
      rw [htr] at hri;exact Ri.sameAτ (E:=E') (E':=Ef) rfl rfl hri
     | true =>
      rw [htr] at hri;refine hri.keepI (ZF _) (λtag g' _ hb'=>?_) (λ_ _ _ _ _ h=>h);unfold Env.blk at hb' ⊢;split
      . rename_i e;rw [QC e] at hb';exact λh3=>hb' ⟨h3.1,λh4=>h3.2 ((ωf g' k).2 ⟨hks,h4⟩)⟩
      . rename_i e;rw [QB e] at hb';exact hb'
  . rw [hβout k b hb] at hz;rw [hβout k' b' hb2] at hz';obtain ⟨⟨b1,q1,_⟩,_⟩:=hb' k b hb;obtain ⟨⟨b2,q2,_⟩,_⟩:=hb' k' b' hb2
    exact hs'.inj _ _ b1 b2 g g' z z' q1 q2 hz hz' λe=>hne (hσ k k' (by rw [hb];rfl) (by rw [hb2];rfl) e)
  . rw [hβout k b hb] at hz;obtain ⟨⟨b1,h1,_⟩,_,h4⟩:=hb' k b hb;rcases hs'.own _ b1 g z h1 hz with h' | h'
    . exact .inl h'
    . obtain ⟨hk,hk2⟩:σ k=k/\k<2000:=h4.resolve_left (by have:=h'.2.2.1;omega)
      rw [hk] at hz h';obtain ⟨z0,hE⟩:=h'.2.2.2 hk2;obtain ⟨b0,hb0⟩:=QZ.1 (hin.dom k _ hE);exact .inr ⟨b0,z0,hb0,hE⟩
  . have h1:=(hin.boxes k b hb).2.2;obtain ⟨h2,h3,h4⟩:=hkeys k b hb;refine ⟨?_,h3⟩
    show (if (A1 k bs').isSome then E'.β (σ k) else none)=_
    rw [QC h3,h2,hkeep k h1 h4 hm]
 obtain ⟨v,Ef',e,h1,h2⟩:=goal;exact ⟨_,hres',v,Ef',e,h1,h2⟩
end Go.Ev

/- DERIVED. The types' table off the program itself. -/
namespace Go.Ev
open Go
def Bao (P:Program):Ty:=λt=>match P.underlying t with
 | some d=>match P.info? t with
  | some inf=>match inf.zero with
   | some z=>bif Nat.beq z.cells.size inf.size&&z.cells.toList.all (λv=>v.oneCell') then some ⟨d,inf.size,inf.bytes,z,!P.stoodInHeld t && !P.eqGuardType P.depth t⟩ else none
   | none=>none
  | none=>none
 | none=>none
theorem Va (P:Program):B8 P (Bao P):=by
 intro t i h;unfold Bao at h;split at h
 . rename_i d hd;split at h
   . rename_i inf hinf;split at h
     . rename_i z hz
       cases hc:(Nat.beq z.cells.size inf.size&&z.cells.toList.all (λv=>v.oneCell')) with
       | false=>rw [hc] at h;cases h
       | true =>
        rw [hc] at h;obtain rfl:=QA h;simp only [QH] at hc
        exact ⟨hd,⟨inf,hinf,rfl,rfl,hz⟩,QD hc.1,hc.2,λh=>by simpa using h⟩
     . cases h
   . cases h
 . cases h
end Go.Ev

/- DERIVED. Operations that only put a value: what they come to hangs on what they A1 at alone. -/
namespace Go.Ev
open Go
variable {P:Program} {T:Ty}
def quiet (P:Program) (T:Ty) (o:Oper) (D:Hh) (s:St):Option (S × List Prop) :=
 match D.call with
 | some cd=>match o.op with
  | .call c=>match c.callee with
   | .value f=>match Nl (s.val f) with
    | some (fid,caps)=>match K5 s.box (c.args.toList.map s.val++caps.map λx=>.v (.one (.i x))) cd.args with
     | some (obs,bor)=>bif cd.r.noH&&bor.all s.lendable then
       some (D.val.getD cd.r,Me P fid s.nt [] [] cd.args cd.r s.nt []::(bor=[] \/ Nn cd.r)::(cd.r=D.val.getD cd.r)::obs) else none
     | none=>none
    | none=>none
   | _=>none
  | _=>none
 | none=>match J1 T D.cells o s with
  | some r=>match r.eff with
   | .none=>some (D.val.getD r.val,r.ob++(match D.val with | none=>[] | some x=>[r.val=x]))
   | _=>none
  | none=>none
theorem Xq {K:Aj} {o:Oper} {D:Hh} {s s':St} {x:S} {obs:List Prop} (h:quiet P T o D s=some (x,obs)) (hput:s.putD K o.dst x=some s') :
  ∃ D' obs',Fg P T K o D' s=some (s',obs')/\((∀ p ∈ obs,p)->∀ p ∈ obs',p):=by
 unfold quiet at h;split at h
 . rename_i cd hcd;split at h
   . rename_i c hop;split at h
     . rename_i f hf;split at h
       . rename_i fid caps hcal;split at h
         . rename_i obs' bor hargs
           cases hc:(cd.r.noH&&bor.all s.lendable) with
           | false=>rw [hc] at h;cases h
           | true =>
            rw [hc] at h;simp only [cond,QF,QL] at h;obtain ⟨rfl,rfl⟩:=h;refine ⟨{ D with own:=none,callB:=none,call:=some { cd with nt:=s.nt } },_,?_,λh=>h⟩;unfold Fg;simp only [hop,hf,hcal,hargs,hc,cond];rw [show ({ s with nt:=s.nt }:St)=s from rfl,hput];rfl
         . cases h
       . cases h
     . cases h
   . cases h
 . rename_i hcall;split at h
   . rename_i r hr;split at h
     . rename_i heff;simp only [QF,QL] at h;obtain ⟨rfl,rfl⟩:=h
       refine ⟨{ D with own:=none,callB:=none,rows:=none },r.ob++[]++(match D.val with | none=>[] | some x=>[r.val=x]),?_,λh=>by simpa using h⟩
       unfold Fg;simp only [hcall,hr,heff,St.eff];rw [hput];rfl
     . cases h
   . cases h
theorem B3v (hT:B8 P T) {K:Aj} {o:Oper} {D:Hh} {s s':St} {x:S} {obs:List Prop} (h:quiet P T o D s=some (x,obs)) (ho:∀ p ∈ obs,p) (hput:s.putD K o.dst x=some s'):Fs P K o s s':=by
 obtain ⟨D',obs',h1,h2⟩:=Xq h hput;exact Hj hT h1 (h2 ho)
theorem Al5 {hint:Option (List C)} {o:Oper} {s1 s2:St} (hb:s2.boxes=s1.boxes) (hv:∀ x ∈ o.op.operands,s2.val x=s1.val x):J1 T hint o s2=J1 T hint o s1:=by
 obtain ⟨dst,op,type,pos,after,guard⟩:=o
 have hbx:s2.box=s1.box:=by funext k;simp only [St.box,hb]
 have pairs:∀ ps:Array (Nat × Operand),(∀ x ∈ (ps.toList.map (·.2)).toArray,s2.val x=s1.val x)->Lh s2 ps=Lh s1 ps:=λps hp =>
  ZE λp hm=>by rw [hp p.2 (List.mem_toArray.2 (ZK.2 ⟨p,hm,rfl⟩))]
 cases op <;> simp only [Op.operands] at hv <;> simp only [J1,hbx]
 case build t ps=>rw [pairs ps hv]
 case buildSlice t n ps=>cases dst <;> simp only [pairs ps hv]
 case makeFunc fn first captured =>
  have e:captured.toList.map s2.val=captured.toList.map s1.val:=ZE λx hx=>hv x (Array.mem_append.2 (.inr (Array.mem_toList_iff.1 hx)))
  cases fn <;> simp only [e]
 case slice t x lo hi mx =>
  have e1:s2.val x=s1.val x:=hv x (by simp)
  have e2:lo.map s2.val=lo.map s1.val:=by cases lo with | none=>rfl | some y=>simp [hv y (by simp)]
  have e3:hi.map s2.val=hi.map s1.val:=by cases hi with | none=>rfl | some y=>simp [hv y (by simp)]
  cases mx <;> simp only [e1,e2,e3]
 case makeSlice t l c =>
  cases l <;> cases c <;> cases dst <;> simp only [hv _ (List.mem_toArray.2 (YA ..))]
 case call c =>
  have hargs:∀ x ∈ c.args.toList,s2.val x=s1.val x:=λx hx=>hv x (by simp [Call.operands];exact .inr (by simpa using hx))
  cases hc:c.callee with
  | value f=>rfl
  | invoke r m=>rfl
  | builtin b =>
   generalize c.args.toList=l at hargs;rcases l with _ | ⟨x,_ | ⟨y,_ | ⟨z,r⟩⟩⟩
   . cases b <;> rfl
   . have h:=hargs x (by simp)
     generalize c.argTypes.toList=m
     cases b <;> first | rfl | (rcases m with _ | ⟨t,_ | ⟨t',r⟩⟩ <;> first | rfl | exact ZY (O4 T t) h)
   . have h:=hargs x (by simp)
     have h':=hargs y (by simp)
     generalize c.argTypes.toList=m
     cases b
     case append=>rcases m with _ | ⟨t,_ | ⟨t',_ | ⟨t'',r⟩⟩⟩ <;> cases dst <;> first | rfl | (simp only [h,h'];done)
     case max=>simp only [h,h']
     case min=>simp only [h,h']
     all_goals rfl
   . cases b <;> rfl
 all_goals (first | rfl | (simp_all;done))
theorem Atn {o:Oper} {D:Hh} {s1 s2:St} (hb:s2.boxes=s1.boxes) (hn:s2.nt=s1.nt) (hv:∀ x ∈ o.op.operands,s2.val x=s1.val x):quiet P T o D s2=quiet P T o D s1:=by
 unfold quiet;rw [Al5 hb hv]
 cases hD:D.call with
 | none=>rfl
 | some cd =>
  cases hop:o.op with
  | call c =>
   have hbx:s2.box=s1.box:=by funext k;simp only [St.box,hb]
   have hl:s2.lendable=s1.lendable:=by funext k;simp only [St.lendable,hbx]
   cases hc:c.callee with
   | value f =>
    have hf:s2.val f=s1.val f:=hv f (by simp [hop,Op.operands,Call.operands,hc])
    have hargs:c.args.toList.map s2.val=c.args.toList.map s1.val:=ZE λx hx=>hv x (by simp [hop,Op.operands,Call.operands,hc];exact .inr (by simpa using hx))
    simp only [hc,hf,hargs,hbx,hl,hn]
   | _=>simp only [hc]
  | _=>rfl
end Go.Ev

/- DERIVED. Regions that draw their order. -/
namespace Go.Ev
open Go
variable {P:Program} {T:Ty}
def Nv (ops:List Oper):Nat->Nat->Nat->Bool
 | 0,_,_=>false
 | n+1,j,i=>match ops[i]? with
  | some o=>o.after.toList.any λe=>Region.binds .any e&&(Nat.beq e.on j || Nv ops n j e.on)
  | none=>false
def Jz (ops:Array Oper) (L:Nat->Bool):Prop:=∀ (j:Nat) (o:Oper),L j=true->ops[j]? = some o->∀ e ∈ o.after,Region.binds .any e=true->L e.on=true
theorem Rw {ops:Array Oper} {L:Nat->Bool} (hc:Jz ops L):∀ (n:Nat) {j i:Nat} {o:Oper},ops[i]? = some o->(∀ e ∈ o.after,Region.binds .any e=true->L e.on=true)->Nv ops.toList n j i=true->L j=true
 | 0,_,_,_,_,_,h=>by cases h
 | n+1,j,i,o,hi,hd,h=>by
  have hi':ops.toList[i]? = some o:=by simpa using hi
  simp only [Nv,hi'] at h;obtain ⟨e,he,hb⟩:=ZL.1 h;simp only [QH,XA] at hb
  have hL:=hd e (by simpa using he) hb.1
  rcases hb.2 with h1 | h1
  . rw [<- QD h1];exact hL
  . cases hoe:ops[e.on]? with
    | none =>
     cases n with
     | zero=>cases h1
     | succ n =>
      have:ops.toList[e.on]? = none:=by simpa using hoe
      simp [Nv,this] at h1
    | some oe=>exact Rw hc n hoe (hc e.on oe hL hoe) h1
def Zu (ops:Array Oper) (oi oj:Oper):Bool :=
 match oj.dst with
 | some d=>(oi.looksAt ops).any (Nat.beq d) || (match oi.dst with | some d'=>Nat.beq d d' | none=>false)
 | none=>false
def B42 (ops:Array Oper) (i j:Nat):Bool :=
 match ops.toList[i]?,ops.toList[j]? with
 | some oi,some oj=>Nat.beq i j || !Zu ops oi oj || (bif Nat.blt j i then Nv ops.toList ops.size j i else Nv ops.toList ops.size i j)
 | _,_=>false
def Fm (ops:Array Oper) (m:Nat):Bool :=
 Nat.ble m ops.size&&((List.range m).all λi=>(List.range m).all λj=>B42 ops i j) &&
 ((List.range ops.size).all λi=>Nat.blt i m || (List.range i).all λj=>Nv ops.toList ops.size j i) &&
 ((List.range ops.size).all λi=>match ops.toList[i]? with
  | some o=>o.after.toList.all λe=>!Region.binds .any e || Nat.blt e.on i
  | none=>true)
def Mg (L:Nat->Bool):List (Nat × Nat × S)->List (Nat × S)->List (Nat × S)
 | [],sl=>sl
 | (i,t,x)::r,sl=>if L i then B2 t x (Mg L r sl) else Mg L r sl
def St.over (s:St) (L:Nat->Bool) (xs:List (Nat × Nat × S)):St:={ s with slots:=Mg L xs s.slots }
def Xr (P:Program) (T:Ty) (ops:List Oper) (o:Oper) (D:Hh) (s:St):Option (S × List Prop) :=
 match Jp s ops o with
 | some true=>quiet P T o D s
 | some false=>some (.tup [],[])
 | none=>none
def I5 (P:Program) (T:Ty) (K:Aj) (ops:List Oper) (Ds:List (Nat × Hh)):List (Nat × Oper)->List (Nat × Nat × S)->St->Option (List (Nat × Nat × S) × St × List Prop)
 | [],xs,s=>some (xs,s,[])
 | (i,o)::r,xs,s=>match o.dst with
  | some t=>match Xr P T ops o ((A1 i Ds).getD {}) s with
   | some (x,p)=>bif Nat.blt t K.N then (match I5 P T K ops Ds r ((i,t,x)::xs) { s with slots:=B2 t x s.slots } with
    | some (ys,s',q)=>some (ys,s',p++q)
    | none=>none) else none
   | none=>none
  | none=>none
def Np (P:Program) (T:Ty) (K:Aj) (ops:Array Oper) (s:St):List (Nat × Nat × S)->Prop
 | []=>True
 | (i,t,x)::r=>i=r.length/\(∃ (o:Oper) (D:Hh) (p:List Prop),ops[i]? = some o/\o.dst=some t/\t<K.N/\Xr P T ops.toList o D (s.over (λ_=>true) r)=some (x,p) /\ ∀ q ∈ p,q)/\Np P T K ops s r
theorem A71 {K:Aj} {ops:Array Oper} {Ds:List (Nat × Hh)} {s0:St}:∀ (l:List (Nat × Oper)) (xs ys:List (Nat × Nat × S)) (s':St) (obs:List Prop),Np P T K ops s0 xs->(∀ (k:Nat) (p:Nat × Oper),l[k]? = some p->p.1=xs.length+k/\ops[p.1]? = some p.2) ->
  I5 P T K ops.toList Ds l xs (s0.over (λ_=>true) xs)=some (ys,s',obs)->(∀ p ∈ obs,p)->Np P T K ops s0 ys/\ys.length=xs.length+l.length/\s'=s0.over (λ_=>true) ys
 | [],xs,ys,s',obs,hg,_,h,_=>by
  simp only [I5,QF,QL] at h;obtain ⟨rfl,rfl,_⟩:=h
  exact ⟨hg,by simp,rfl⟩
 | (i,o)::r,xs,ys,s',obs,hg,hl,h,ho=>by
  simp only [I5] at h;split at h
  . rename_i t hdst;split at h
    . rename_i x p hq
      cases hN:Nat.blt t K.N with
      | false=>rw [hN] at h;cases h
      | true =>
       rw [hN] at h;simp only [cond] at h;split at h
       . rename_i zs s2 q hrest;simp only [QF,QL] at h;obtain ⟨rfl,rfl,rfl⟩:=h;have h0:=hl 0 (i,o) rfl;simp only [KE] at h0
         have hg':Np P T K ops s0 ((i,t,x)::xs):=⟨h0.1,⟨o,_,p,h0.2,hdst,by simpa [XD] using hN,hq,λy hy=>ho y (QG.2 (.inl hy))⟩,hg⟩
         obtain ⟨g1,g2,g3⟩:=A71 r ((i,t,x)::xs) zs s2 q hg' (λk p hk=>by
          have:=hl (k+1) p (by simpa using hk)
          exact ⟨by simp;omega,this.2⟩) (by
           have e:s0.over (λ_=>true) ((i,t,x)::xs)={ s0.over (λ_=>true) xs with slots:=B2 t x (s0.over (λ_=>true) xs).slots }:=rfl
           rw [e];exact hrest) (λy hy=>ho y (QG.2 (.inr hy)))
         exact ⟨g1,by simp at g2 ⊢;omega,g3⟩
       . cases h
    . cases h
  . cases h
theorem Np.idx {K:Aj} {ops:Array Oper} {s:St}:∀ {xs:List (Nat × Nat × S)},Np P T K ops s xs->∀ {e:Nat × Nat × S},e ∈ xs->e.1<xs.length /\ ∃ o,ops[e.1]? = some o/\o.dst=some e.2.1
 | [],_,_,h=>by cases h
 | (i,t,x)::r,⟨h1,⟨o,_,_,h2,h3,_⟩,h4⟩,e,h=>by
  rcases QX.1 h with rfl | h
  . exact ⟨by simp [h1],o,h2,h3⟩
  . obtain ⟨h5,h6⟩:=Np.idx h4 h
    exact ⟨by simp;omega,h6⟩
theorem Np.at {K:Aj} {ops:Array Oper} {s:St} {i:Nat}:∀ {xs:List (Nat × Nat × S)},Np P T K ops s xs->i<xs.length->∃ pre t x r,xs=pre++(i,t,x)::r/\r.length=i/\Np P T K ops s ((i,t,x)::r) /\ ∀ e ∈ pre,i<e.1
 | [],_,h=>by simp at h
 | (j,t,x)::r,hg,h=>by
  by_cases e:i=r.length
  . subst e;have:=hg.1;subst this
    exact ⟨[],t,x,r,rfl,rfl,hg,λe he=>by cases he⟩
  . obtain ⟨pre,t',x',r',h1,h2,h3,h4⟩:=Np.at (i:=i) (xs:=r) hg.2.2 (by simp at h;omega)
    refine ⟨(j,t,x)::pre,t',x',r',by rw [h1];rfl,h2,h3,λe he=>?_⟩
    rcases QX.1 he with rfl | he
    . have:=hg.1;simp at h ⊢;omega
    . exact h4 e he
theorem Li {L:Nat->Bool} {u:Nat} {sl:List (Nat × S)} {ys:List (Nat × Nat × S)}:∀ {pre:List (Nat × Nat × S)},(∀ e ∈ pre,L e.1=true->e.2.1 ≠ u)->A1 u (Mg L (pre++ys) sl)=A1 u (Mg L ys sl)
 | [],_=>rfl
 | (i,t,x)::r,h=>by
  simp only [YD,Mg];split
  . rename_i hL
    rw [As _ _ (λe=>h (i,t,x) (by simp) hL e.symm)]
    exact Li λe he=>h e (by simp [he])
  . exact Li λe he=>h e (by simp [he])
theorem Hc {L L':Nat->Bool} {u:Nat} {sl:List (Nat × S)}:∀ {r:List (Nat × Nat × S)},(∀ e ∈ r,e.2.1=u->L e.1=L' e.1)->A1 u (Mg L r sl)=A1 u (Mg L' r sl)
 | [],_=>rfl
 | (i,t,x)::r,h=>by
  have ih:A1 u (Mg L r sl)=A1 u (Mg L' r sl):=Hc λe he=>h e (by simp [he])
  simp only [Mg];by_cases e:t=u
  . have:=h (i,t,x) (by simp) e
    simp only at this;rw [this];split
    . subst e;rw [At,At]
    . exact ih
  . split
    . rw [As _ _ (Ne.symm e)];split
      . rw [As _ _ (Ne.symm e)];exact ih
      . exact ih
    . split
      . rw [As _ _ (Ne.symm e)];exact ih
      . exact ih
end Go.Ev

/- DERIVED. Regions that draw their order: any order comes to the same. -/
namespace Go.Ev
open Go
variable {P:Program} {T:Ty}
theorem Akq {ops:Array Oper} {m:Nat} (hok:Fm ops m=true) {i j:Nat} {oi oj:Oper} (hi:i<m) (hj:j<m) (hoi:ops[i]? = some oi) (hoj:ops[j]? = some oj) (hne:i ≠ j) (hc:Zu ops oi oj=true) :
  if j<i then Nv ops.toList ops.size j i=true else Nv ops.toList ops.size i j=true:=by
 simp only [Fm,QH] at hok;have h1:=QK.1 hok.1.1.2 i (XP.2 hi);have h2:=QK.1 h1 j (XP.2 hj)
 have hoi':ops.toList[i]? = some oi:=by simpa using hoi
 have hoj':ops.toList[j]? = some oj:=by simpa using hoj
 have hb:Nat.beq i j=false:=by cases e:Nat.beq i j with | false=>rfl | true=>exact absurd (QD e) hne
 simp only [B42,hoi',hoj',hb,hc,YJ,ZJ] at h2;by_cases e:j<i
 . have:Nat.blt j i=true:=by simpa [XD] using e
   rw [this] at h2;rw [QC e];exact h2
 . have : Nat.blt j i = false := by
    cases e':Nat.blt j i with | false=>rfl | true=>exact absurd (by simpa [XD] using e') e
   rw [this] at h2;rw [QB e];exact h2
theorem Aen {ops:Array Oper} {oi oj:Oper} {u:Nat} (hd:oj.dst=some u) (hu:u ∈ oi.looksAt ops):Zu ops oi oj=true:=by
 simp only [Zu,hd,XA];exact .inl (ZL.2 ⟨u,hu,YC u⟩)
theorem B9t {ops:Array Oper} {oi oj:Oper} {u:Nat} (hd:oj.dst=some u) (hi:oi.dst=some u):Zu ops oi oj=true:=by
 simp only [Zu,hd,hi,XA];exact .inr (YC u)
theorem St.val_look {s1 s2:St} {x:Operand} (h:∀ u,x = .tmp u->A1 u s2.slots=A1 u s1.slots):s2.val x=s1.val x:=by
 cases x with
 | tmp u=>simp only [St.val,h u rfl]
 | const v=>cases v <;> rfl
 | global=>rfl
 | func=>rfl
theorem Az5 {ops:Array Oper} {o:Oper} {D:Hh} {s1 s2:St} (hb:s2.boxes=s1.boxes) (hn:s2.nt=s1.nt) (hu:∀ u ∈ o.looksAt ops,A1 u s2.slots=A1 u s1.slots):Xr P T ops.toList o D s2=Xr P T ops.toList o D s1:=by
 have hv:∀ x ∈ o.op.operands,s2.val x=s1.val x:=λx hx=>St.val_look λu e=>hu u (by
  subst e
  exact List.mem_append_left _ (List.mem_filterMap.2 ⟨.tmp u,by simpa using hx,rfl⟩))
 have hg:Jp s2 ops.toList o=Jp s1 ops.toList o:=by
  unfold Jp
  cases hgd:o.guard with
  | none=>rfl
  | some p =>
   obtain ⟨j,want⟩:=p;simp only
   cases hj:ops.toList[j]? with
   | none=>rfl
   | some q =>
    simp only
    cases hd:q.dst with
    | none=>rfl
    | some t =>
     simp only
     have:A1 t s2.slots=A1 t s1.slots:=hu t (by
      unfold Oper.looksAt;refine List.mem_append_right _ ?_
      have hj':ops[j]? = some q:=by simpa using hj
      simp [hgd,hj',hd])
     rw [this]
 unfold Xr;rw [hg,Atn hb hn hv]
theorem Bb2 (hT:B8 P T) {K:Aj} {ops:Array Oper} {m:Nat} (hok:Fm ops m=true) {s:St} {xs:List (Nat × Nat × S)} (hg:Np P T K ops s xs) (hm:xs.length=m) {L:Nat->Bool} (hcl:Jz ops L) {i:Nat} {o:Oper} (him:i<m) (hoi:ops[i]? = some o)
  (hLi:L i=false) (hdep:∀ e ∈ o.after,Region.binds .any e=true->L e.on=true)
  {Γ:Ctx} {w:World} {E:Env} {a:Act} {ro:Option Nat} {n:Nat} {X:Act->Prop} (hK:Γ.K=K) (hX:∀ (i:Nat) (o:Oper),ops[i]? = some o->∀ b v,X b->X (b.put o.dst v)) (hd:X a) (hs:A6 Γ w E (s.over L xs) a.tmps) {Q:Exit->Act->World->Prop} {next:Act->World->Prop}
  (hn:∀ a' w',X a'->(∃ E',A6 Γ w' E' (s.over (λj=>Nat.beq j i || L j) xs) a'.tmps)->next a' w'):wpOpIn (FR ro) n P ops Q i next a w:=by
 obtain ⟨pre,t,x,r,rfl,hrl,hgi,hpre⟩:=hg.at (i:=i) (by omega)
 obtain ⟨_,⟨o',D,p,ho',hdst,htN,hq,hp⟩,hgr⟩:=hgi;rw [hoi] at ho';obtain rfl:=QA ho'
 have later:∀ e ∈ pre,∀ u,e.2.1=u->(u ∈ o.looksAt ops \/ o.dst=some u)->L e.1=true->False:=by
  intro e he u hu hor hL
  obtain ⟨h1,oe,h2,h3⟩:=hg.idx (e:=e) (by simp [he])
  have hlt:=hpre e he;rw [hu] at h3
  have hc:Zu ops o oe=true:=by
   rcases hor with hor | hor
   . exact Aen h3 hor
   . exact B9t h3 hor
  have:=Akq hok him (by omega) hoi h2 (by omega) hc
  rw [QB (by omega)] at this
  have hLi':=Rw hcl _ h2 (hcl _ _ hL h2) this;rw [hLi] at hLi'
  cases hLi'
 have earlier:∀ e ∈ r,∀ u,e.2.1=u->u ∈ o.looksAt ops->L e.1=true:=by
  intro e he u hu hor
  obtain ⟨h1,oe,h2,h3⟩:=hg.idx (e:=e) (by simp [he])
  obtain ⟨h4,_⟩:=hgr.idx he;rw [hu] at h3
  have:=Akq hok him (by omega) hoi h2 (by omega) (Aen h3 hor)
  rw [QC (by omega)] at this
  exact Rw hcl _ hoi hdep this
 have hlook:∀ u ∈ o.looksAt ops,A1 u (s.over L (pre++(i,t,x)::r)).slots=A1 u (s.over (λ_=>true) r).slots:=by
  intro u hu;show A1 u (Mg L (pre++(i,t,x)::r) s.slots)=A1 u (Mg _ r s.slots);rw [Li λe he hL hne=>later e he u hne (.inl hu) hL];simp only [Mg,hLi,XG,if_false];exact Hc λe he hne=>earlier e he u hne hu
 have hq':Xr P T ops.toList o D (s.over L (pre++(i,t,x)::r))=some (x,p):=(Az5 (s1:=s.over (λ_=>true) r) (s2:=s.over L (pre++(i,t,x)::r)) rfl rfl hlook).trans hq
 have fin:∀ a' w',X a'->(∃ E',A6 Γ w' E' { s.over L (pre++(i,t,x)::r) with slots:=B2 t x (s.over L (pre++(i,t,x)::r)).slots } a'.tmps)->next a' w':=by
  rintro a' w' hd' ⟨E',hs'⟩
  refine hn a' w' hd' ⟨E',hs'.less λu y hy=>?_⟩
  have hy':A1 u (Mg (λj=>Nat.beq j i || L j) (pre++(i,t,x)::r) s.slots)=some y:=hy
  by_cases e:u=t
  . subst e
    rw [Li λe he hL hne=>by
     simp only [XA] at hL;rcases hL with hL | hL
     . have:=QD hL;have:=hpre e he;omega
     . exact later e he u hne (.inr hdst) hL] at hy'
    simp only [Mg,YC,Qac,if_true,At] at hy';rw [<- hy'];exact At _ _ _
  . rw [<- hy'];rw [As _ _ e];refine Hc λe' he' hne=>?_
    have:e'.1 ≠ i:=by
     intro heq;rcases QG.1 he' with h | h
     . have:=hpre e' h;omega
     . rcases QX.1 h with rfl | h
       . exact e hne.symm
       . obtain ⟨h4,_⟩:=hgr.idx h;omega
    have hb:Nat.beq e'.1 i=false:=by cases h:Nat.beq e'.1 i with | false=>rfl | true=>exact absurd (QD h) this
    show L e'.1=(Nat.beq e'.1 i || L e'.1);rw [hb];rfl
 have hput:(s.over L (pre++(i,t,x)::r)).putD K o.dst x=some { s.over L (pre++(i,t,x)::r) with slots:=B2 t x (s.over L (pre++(i,t,x)::r)).slots }:=by
  have:Nat.blt t K.N=true:=by simpa [XD] using htN
  simp only [St.putD,hdst,this,cond]
 unfold Go.wpOpIn;rw [hoi];simp only;unfold Xr at hq';split at hq'
 . rename_i hgd;rw [Hl hs hgd];exact B3v hT hq' hp hput Γ w E a ro n X hK (hX i o hoi) hd hs _ Q fin
 . rename_i hgd;rw [Hl hs hgd];simp only [QF,QL] at hq';obtain ⟨rfl,_⟩:=hq';obtain ⟨hs3,_⟩:=Io hK hs (v:=Go.undef) Rs.undef hput;simp only [XG,if_false];exact ⟨λ_ _=>trivial,fin _ _ (hX i o hoi _ _ hd) ⟨E,hs3⟩⟩
 . cases hq'
end Go.Ev

/- DERIVED. Regions that draw their order: the whole region. -/
namespace Go.Ev
open Go
variable {P:Program} {T:Ty}
theorem Us {j i:Nat} (h:¬ j<i):Nat.blt j i=false:=by
 cases e:Nat.blt j i with
 | false=>rfl
 | true=>exact absurd (by simpa [XD] using e) h
def Cf (listed:Array Bool) (j:Nat):Bool:=listed.getD j false
theorem A4v {listed:Array Bool} {i:Nat} (hi:i<listed.size) (j:Nat):Cf (listed.setIfInBounds i true) j=(Nat.beq j i || Cf listed j):=by
 unfold Cf;by_cases e:j=i
 . subst e;simp [hi]
 . have hb:Nat.beq j i=false:=by cases h:Nat.beq j i with | false=>rfl | true=>exact absurd (QD h) e
   rw [hb,YJ];exact getD_set_ne false (Ne.symm e)
theorem Azb {listed:Array Bool} {j:Nat} (h:listed.getD j true=false):j<listed.size/\Cf listed j=false:=by
 rcases ZT j listed.size with h' | h'
 . refine ⟨h',?_⟩;unfold Cf;simp [h'] at h ⊢;exact h
 . simp [Array.getElem?_eq_none h'] at h
theorem P6 {listed:Array Bool} {j:Nat} (h':j<listed.size) (h:Cf listed j=false):listed.getD j true=false:=by
 unfold Cf at h;simp [h'] at h ⊢;exact h
theorem Jj {ops:Array Oper} {listed:Array Bool} {i:Nat} (h:i ∈ Region.ready .any ops listed):i<listed.size/\Cf listed i=false /\ ∃ o,ops[i]? = some o /\ ∀ e ∈ o.after,Region.binds .any e=true->Cf listed e.on=true:=by
 obtain ⟨h0,o,ho,hall⟩:=mem_ready.1 h;obtain ⟨h1,h2⟩:=Azb h0;exact ⟨h1,h2,o,ho,hall⟩
theorem Zt {ops:Array Oper} {L L':Nat->Bool} {i:Nat} {o:Oper} (hL:∀ j,L' j=(Nat.beq j i || L j)) (hc:Jz ops L) (hi:ops[i]? = some o) (hd:∀ e ∈ o.after,Region.binds .any e=true->L e.on=true):Jz ops L':=by
 intro j o' hj hoj e he hb;rw [hL,XA] at hj ⊢;rcases hj with hj | hj
 . have:=QD hj;subst this;rw [hi] at hoj;obtain rfl:=QA hoj;exact .inr (hd e he hb)
 . exact .inr (hc j o' hj hoj e he hb)
theorem B43 (hT:B8 P T) {K:Aj} {ops:Array Oper} {D:Hh} {i:Nat} {o:Oper} {s s0 s1:St} {u p:List Prop} (hi:ops[i]? = some o) (hfz:Gb D.fz s=some (s0,u)) (hstep:A4o P T K ops.toList o D s0=some (s1,p)) (hu:∀ x ∈ u,x) (hp:∀ x ∈ p,x)
  {Γ:Ctx} {w:World} {E:Env} {a:Act} {ro:Option Nat} {n:Nat} {X:Act->Prop} (hK:Γ.K=K) (hX:∀ (i:Nat) (o:Oper),ops[i]? = some o->∀ b v,X b->X (b.put o.dst v)) (hd:X a) (hs:A6 Γ w E s a.tmps) {Q:Exit->Act->World->Prop} {next:Act->World->Prop}
  (hn:∀ a' w',X a'->(∃ E',A6 Γ w' E' s1 a'.tmps)->next a' w'):wpOpIn (FR ro) n P ops Q i next a w:=by
 obtain ⟨E0,hs⟩:=Fd _ hs hfz hu;unfold Go.wpOpIn;rw [hi];simp only;unfold A4o at hstep;split at hstep
 . rename_i hg;rw [Hl hs hg];exact Hj hT hstep hp Γ w E0 a ro n X hK (hX i o hi) hd hs _ Q hn
 . rename_i hg;rw [Hl hs hg];simp only [QI,QL] at hstep;obtain ⟨s3,hput,rfl,rfl⟩:=hstep;obtain ⟨hs3,_⟩:=Io hK hs (v:=Go.undef) Rs.undef hput;simp only [XG,if_false];exact ⟨λ_ _=>trivial,hn _ _ (hX i o hi _ _ hd) ⟨E0,hs3⟩⟩
 . cases hstep
theorem Akn {ops:Array Oper} {m:Nat} (hok:Fm ops m=true) {i:Nat} {o:Oper} (hi:ops[i]? = some o):∀ e ∈ o.after,Region.binds .any e=true->e.on<i:=by
 intro e he hb;simp only [Fm,QH] at hok;have hlt:=(ZU.1 hi).1;have h1:=QK.1 hok.2 i (XP.2 hlt)
 have hi':ops.toList[i]? = some o:=by simpa using hi
 simp only [hi'] at h1
 have h2:=QK.1 h1 e (by simpa using he)
 rw [hb] at h2;simpa [XD] using h2
theorem An4 {ops:Array Oper} {m:Nat} (hok:Fm ops m=true) {i j:Nat} (hi:i<ops.size) (hm:m<=i) (hj:j<i):Nv ops.toList ops.size j i=true:=by
 simp only [Fm,QH] at hok;have h1:=QK.1 hok.1.2 i (XP.2 hi)
 have:Nat.blt i m=false:=by cases e:Nat.blt i m with | false=>rfl | true=>exact absurd (by simpa [XD] using e) (Nat.not_lt.2 hm)
 rw [this,YJ] at h1;exact QK.1 h1 j (XP.2 hj)
theorem Xg (hT:B8 P T) {K:Aj} {ops:Array Oper} {m:Nat} (hok:Fm ops m=true) {Ds:List (Nat × Hh)} {Γ:Ctx} {Q:Exit->Act->World->Prop} {s2:St} {ro:Option Nat} {n:Nat} {X:Act->Prop} (hK:Γ.K=K)
  (hX:∀ (i:Nat) (o:Oper),ops[i]? = some o->∀ b v,X b->X (b.put o.dst v)) (hQ:∀ a' w',X a'->(∃ E',A6 Γ w' E' s2 a'.tmps)->Q .normal a' w'):∀ (l:List (Nat × Oper)) (k:Nat) (listed:Array Bool) (s:St) (obs:List Prop) (a:Act) (w:World) (E:Env),m<=k->k+l.length=ops.size->listed.size=ops.size ->
  (∀ (i:Nat) (p:Nat × Oper),l[i]? = some p->p.1=k+i/\ops[p.1]? = some p.2)->(∀ j,j<ops.size->Cf listed j=Nat.blt j k)->Jz ops (Cf listed)->Ei P T K ops.toList Ds l s=some (s2,obs)->(∀ p ∈ obs,p) ->
  X a->A6 Γ w E s a.tmps->wpAnyIn (FR ro) n P .any ops Q l.length listed a w
 | [],k,listed,s,obs,a,w,E,hmk,hkl,hsz,hl,hL,hcl,h,_,hd,hs=>by
  simp only [Ei,QF,QL] at h;obtain ⟨rfl,_⟩:=h;refine ⟨?_,hQ a w hd ⟨E,hs⟩⟩;refine List.eq_nil_iff_forall_not_mem.2 λi hi=>?_;obtain ⟨h1,h2,_⟩:=Jj hi
  rw [hL i (by omega)] at h2
  simp at hkl
  have:Nat.blt i k=true:=by simp [XD];omega
  rw [this] at h2;cases h2
 | (i0,o)::r,k,listed,s,obs,a,w,E,hmk,hkl,hsz,hl,hL,hcl,h,ho,hd,hs=>by
  simp only [QY] at hkl;obtain ⟨hi0,hoi⟩:=hl 0 (i0,o) rfl;simp only [KE] at hi0 hoi;subst hi0
  have hLk:Cf listed i0=false:=by rw [hL i0 (by omega)];exact Us (Nat.lt_irrefl _)
  have hin:i0 ∈ Region.ready .any ops listed:=mem_ready.2 ⟨P6 (by omega) hLk,o,hoi,λe he hb=>by
   have:=Akn hok hoi e he hb
   have h':=hL e.on (by omega)
   unfold Cf at h'
   rw [h'];simpa [XD] using this⟩
  simp only [Ei] at h;split at h
  . rename_i s0 u hfz;split at h
    . rename_i s1 p hstep;split at h
      . rename_i s3 q hrest;simp only [QF,QL] at h;obtain ⟨rfl,rfl⟩:=h
        refine ⟨λe=>(by rw [e] at hin;cases hin),λi hi=>?_⟩
        obtain ⟨h1,h2,oi,hoi',hdep⟩:=Jj hi
        have hik:i=i0:=by
         rcases JZ i i0 with h' | h' | h'
         . rw [hL i (by omega)] at h2
           have:Nat.blt i i0=true:=by simp [XD];omega
           rw [this] at h2;cases h2
         . exact h'
         . have:=Rw hcl _ hoi' hdep (An4 hok (by omega) (by omega) h')
           rw [hLk] at this;cases this
        subst hik;refine B43 hT hoi hfz hstep (λx hx=>ho x (QG.2 (.inl hx))) (λx hx=>ho x (QG.2 (.inr (QG.2 (.inl hx))))) hK hX hd hs ?_
        rintro a' w' hd' ⟨E',hs'⟩
        refine Xg hT hok hK hX hQ r (i+1) _ s1 q a' w' E' (by omega) (by omega) (by simpa using hsz) (λj p hj=>?_) (λj hj=>?_) (Zt (A4v (by omega)) hcl hoi' hdep) hrest (λx hx=>ho x (QG.2 (.inr (QG.2 (.inr hx))))) hd' hs'
        . have:=hl (j+1) p (by simpa using hj)
          exact ⟨by omega,this.2⟩
        . rw [A4v (by omega),hL j hj]
          cases hb:Nat.beq j i with
          | true=>have:=QD hb;subst this;simp [XD]
          | false =>
           have hne:j ≠ i:=λe=>by subst e;simp at hb
           rw [YJ];by_cases e:j<i
           . have a1:Nat.blt j i=true:=by simpa [XD] using e
             have a2:Nat.blt j (i+1)=true:=by simp [XD];omega
             rw [a1,a2]
           . have a1:Nat.blt j i=false:=Us e
             have a2:Nat.blt j (i+1)=false:=Us (by omega)
             rw [a1,a2]
      . cases h
    . cases h
  . cases h
end Go.Ev

/- DERIVED. Regions that draw their order: the beginning, and the whole. -/
namespace Go.Ev
open Go
variable {P:Program} {T:Ty}
def L8 (L:Nat->Bool) (l:List Nat):Nat:=(l.filter λj=>!L j).length
theorem Amx {L L':Nat->Bool}:∀ {l:List Nat},(∀ j ∈ l,L j=L' j)->L8 L l=L8 L' l
 | [],_=>rfl
 | j::r,h=>by
  have h1:=h j (by simp)
  have h2:=Amx (l:=r) λk hk=>h k (by simp [hk])
  unfold L8 at h2 ⊢;simp only [YT,h1];split
  . simp [h2]
  . exact h2
theorem Afa {L L':Nat->Bool} {i:Nat} (hL:∀ j,L' j=(Nat.beq j i || L j)) (hi:L i=false):∀ {l:List Nat},l.Nodup->i ∈ l->L8 L' l+1=L8 L l
 | [],_,h=>by cases h
 | j::r,hn,h=>by
  have hn':=JB.1 hn;by_cases e:j=i
  . subst e
    have h1:L' j=true:=by rw [hL,YC];rfl
    have h2:L8 L' r=L8 L r:=Amx λk hk=>by
     rw [hL]
     have:Nat.beq k j=false:=by cases e:Nat.beq k j with | false=>rfl | true=>have:=QD e;subst this;exact absurd hk hn'.1
     rw [this,YJ]
    unfold L8 at h2 ⊢;simp [h1,hi,h2]
  . have hm:i ∈ r:=by rcases QX.1 h with e' | h;exact absurd e'.symm e;exact h
    have ih:=Afa hL hi (l:=r) hn'.2 hm
    have h1:L' j=L j:=by
     rw [hL]
     have:Nat.beq j i=false:=by cases e':Nat.beq j i with | false=>rfl | true=>exact absurd (QD e') e
     rw [this,YJ]
    unfold L8 at ih ⊢;simp only [YT,h1];split
    . simp;omega
    . exact ih
theorem Aus {L:Nat->Bool} {i:Nat} (hi:L i=false) {l:List Nat} (h:i ∈ l):0<L8 L l:=by
 unfold L8
 exact List.length_pos_of_mem (Qan.2 ⟨h,by simp [hi]⟩)
theorem A3u {L:Nat->Bool} {n:Nat} (h:∃ i,i<n/\L i=false):∃ i,i<n/\L i=false /\ ∀ j,j<i->L j=true:=by
 induction n with
 | zero=>obtain ⟨i,hi,_⟩:=h;omega
 | succ n ih =>
  by_cases h':∃ i,i<n/\L i=false
  . obtain ⟨i,h1,h2,h3⟩:=ih h'
    exact ⟨i,by omega,h2,h3⟩
  . obtain ⟨i,h1,h2⟩:=h
    have all:∀ j,j<n->L j=true:=λj hj=>by
     cases e:L j with | true=>rfl | false=>exact absurd ⟨j,hj,e⟩ h'
    have:i=n:=by
     rcases ZT i n with h3 | h3
     . rw [all i h3] at h2;cases h2
     . omega
    subst this;exact ⟨i,h1,h2,all⟩
theorem Ba7 (hT:B8 P T) {K:Aj} {ops:Array Oper} {m:Nat} (hok:Fm ops m=true) (hmn:m<=ops.size) {Ds:List (Nat × Hh)} {Γ:Ctx} {Q:Exit->Act->World->Prop} {s s2:St} {xs:List (Nat × Nat × S)} {l:List (Nat × Oper)} {obs:List Prop} {ro:Option Nat} {n:Nat} {X:Act->Prop} (hK:Γ.K=K)
  (hX:∀ (i:Nat) (o:Oper),ops[i]? = some o->∀ b v,X b->X (b.put o.dst v)) (hQ:∀ a' w',X a'->(∃ E',A6 Γ w' E' s2 a'.tmps)->Q .normal a' w') (hg:Np P T K ops s xs) (hxm:xs.length=m) (hlm:m+l.length=ops.size) (hl:∀ (i:Nat) (p:Nat × Oper),l[i]? = some p->p.1=m+i/\ops[p.1]? = some p.2)
  (hrun:Ei P T K ops.toList Ds l (s.over (λ_=>true) xs)=some (s2,obs)) (ho:∀ p ∈ obs,p):∀ (fuel:Nat) (listed:Array Bool) (a:Act) (w:World) (E:Env),listed.size=ops.size->L8 (Cf listed) (List.range ops.size)=fuel ->
  Jz ops (Cf listed)->(∀ i,m<=i->i<ops.size->Cf listed i=false)->X a->A6 Γ w E (s.over (Cf listed) xs) a.tmps->wpAnyIn (FR ro) n P .any ops Q fuel listed a w:=by
 intro fuel
 induction fuel with
 | zero =>
  intro listed a w E hsz hf hcl hun hd hs
  have all:∀ j,j<ops.size->Cf listed j=true:=λj hj=>by
   cases e:Cf listed j with
   | true=>rfl
   | false=>have:=Aus e (XP.2 hj);omega
  have hm:m=ops.size:=by
   rcases ZT m ops.size with h | h
   . have h1:=hun m (ZF _) h;rw [all m h] at h1;cases h1
   . omega
  have hl0:l=[]:=YV (by omega)
  subst hl0
  have hs':A6 Γ w E (s.over (λ_=>true) xs) a.tmps:=hs.less λu x hx=>by
   rw [<- hx]
   exact Hc λe he _=>(all e.1 (by have:=(hg.idx he).1;omega))
  exact Xg hT hok hK hX hQ [] m listed _ obs a w E (ZF _) (by simpa using hlm) hsz hl (λj hj=>by rw [all j hj];symm;simp [XD];omega) hcl hrun ho hd hs'
 | succ fuel ih =>
  intro listed a w E hsz hf hcl hun hd hs;by_cases hall:∀ j,j<m->Cf listed j=true
  . have hs' : A6 Γ w E (s.over (fun _ => true) xs) a.tmps := hs.less fun u x hx => by
     rw [<- hx]
     exact Hc λe he _=>(hall e.1 (by have:=(hg.idx he).1;omega))
    have hlen:l.length=fuel+1:=by
     rw [<- hf]
     have e1:L8 (Cf listed) (List.range ops.size)=((List.range' m (ops.size-m)).length):=by
      have:List.range ops.size=List.range m++List.range' m (ops.size-m):=by
       obtain ⟨k,hk⟩:=Nat.exists_eq_add_of_le hmn;rw [hk,KV,List.range_eq_range',List.range_eq_range'];simpa using (List.range'_append (s:=0) (m:=m) (n:=k) (step:=1)).symm
      unfold L8;rw [this,List.filter_append]
      have f1:(List.range m).filter (λj=>!Cf listed j)=[]:=List.filter_eq_nil_iff.2 λj hj=>by simp [hall j (XP.1 hj)]
      have f2:(List.range' m (ops.size-m)).filter (λj=>!Cf listed j)=List.range' m (ops.size-m):=Qak.2 λj hj=>by
       have:=List.mem_range'_1.1 hj
       simp [hun j (by omega) (by omega)]
      rw [f1,f2];rfl
     rw [e1,List.length_range'];omega
    rw [<- hlen];refine Xg hT hok hK hX hQ l m listed _ obs a w E (ZF _) hlm hsz hl (λj hj=>?_) hcl hrun ho hd hs';by_cases e:j<m
    . rw [hall j e];symm;simpa [XD] using e
    . rw [hun j (by omega) hj];exact (Us e).symm
  . have hex : ∃ i, i < m /\ Cf listed i = false := by
     rcases Classical.em (∃ i,i<m/\Cf listed i=false) with h | h
     . exact h
     . exact absurd (λj hj=>by cases e:Cf listed j with | true=>rfl | false=>exact absurd ⟨j,hj,e⟩ h) hall
    obtain ⟨k,hkm,hLk,hless⟩:=A3u hex
    have hkn:k<ops.size:=by omega
    have hok':ops[k]? = some ops[k]:=Qao hkn
    have hin:k ∈ Region.ready .any ops listed:=mem_ready.2 ⟨P6 (by omega) hLk,_,hok',λe he hb=>hless e.on (Akn hok hok' e he hb)⟩
    refine ⟨λe=>(by rw [e] at hin;cases hin),λi hi=>?_⟩
    obtain ⟨h1,h2,o,hoi,hdep⟩:=Jj hi
    have him:i<m:=by
     rcases ZT i m with h | h
     . exact h
     . have:=Rw hcl _ hoi hdep (An4 hok (j:=k) (by omega) h (by omega))
       rw [hLk] at this;cases this
    refine Bb2 hT hok hg hxm hcl him hoi h2 hdep hK hX hd hs ?_
    rintro a' w' hd' ⟨E',hs'⟩
    have hset:∀ j,Cf (listed.setIfInBounds i true) j=(Nat.beq j i || Cf listed j):=A4v h1
    have hfun:Cf (listed.setIfInBounds i true)=λj=>Nat.beq j i || Cf listed j:=funext hset
    refine ih _ a' w' E' (by simpa using hsz) ?_ (Zt hset hcl hoi hdep) (λj hj hjn=>?_) hd' (by rw [hfun];exact hs')
    . have:=Afa hset h2 Qbf (XP.2 (show i<ops.size by omega))
      omega
    . rw [hset,hun j hj hjn]
      have:Nat.beq j i=false:=by cases e:Nat.beq j i with | false=>rfl | true=>have:=QD e;omega
      rw [this];rfl
def A1m (P:Program) (T:Ty) (K:Aj) (ops:Array Oper) (m:Nat) (Ds:List (Nat × Hh)) (fz:List (Nat × V)) (s:St):Option (St × List Prop) :=
 bif Fm ops m then (match Gb fz s with
  | some (s0,u)=>match I5 P T K ops.toList Ds ((Ad ops.toList).take m) [] s0 with
   | some (_,s1,p)=>match Ei P T K ops.toList Ds ((Ad ops.toList).drop m) s1 with
    | some (s2,q)=>some (s2,(P.follows .mixedOrders=true)::(u++(p++q)))
    | none=>none
   | none=>none
  | none=>none) else none
theorem Dp {l:List Oper} {i:Nat} {p:Nat × Oper} (h:(Ad l)[i]? = some p):p.1=i/\l[i]? = some p.2:=by
 simp only [Ad,QQ,YY] at h
 cases e:l[i]? with
 | none=>rw [e] at h;cases h
 | some o =>
  rw [e] at h;simp at h;subst h;exact ⟨rfl,rfl⟩
theorem Ani (hT:B8 P T) {K:Aj} {id m:Nat} {ops:Array Oper} {Ds:List (Nat × Hh)} {fz:List (Nat × V)} {s s':St} {obs:List Prop} (h:A1m P T K ops m Ds fz s=some (s',obs)) (ho:∀ p ∈ obs,p):Code.Den P K (.region id ops true) s .normal s':=by
 unfold A1m at h
 cases hok:Fm ops m with
 | false=>rw [hok] at h;cases h
 | true =>
  rw [hok] at h;simp only [cond] at h;split at h
  . rename_i s0 u hfz;split at h
    . rename_i xs s1 p hpre;split at h
      . rename_i s2 q hrun;simp only [QF,QL] at h;obtain ⟨rfl,rfl⟩:=h
        have hmn:m<=ops.size:=by
         simp only [Fm,QH] at hok;exact XO hok.1.1.1
        have hlen:(Ad ops.toList).length=ops.size:=by simp [Ad]
        obtain ⟨hg,hxl,rfl⟩:=A71 (s0:=s0) ((Ad ops.toList).take m) [] xs s1 p trivial (λk y hk=>by
         rw [XM] at hk;split at hk
         . obtain ⟨h1,h2⟩:=Dp hk;rw [h1]
           exact ⟨by simp,by simpa using h2⟩
         . cases hk) hpre (λx hx=>ho x (ZI _ (QG.2 (.inr (QG.2 (.inl hx))))))
        intro Γ w E a ro n hK _ hs;obtain ⟨E0,hs0⟩:=Fd _ hs hfz (λx hx=>ho x (ZI _ (QG.2 (.inl hx))))
        refine wpIn_region_any (ho _ (by simp)) ?_
        have hs1:A6 Γ { w with drawn:=w.drawn+1 } E0 s0 a.tmps:=hs0.still ⟨rfl,rfl,rfl,ZF _,λ_ _ _=>rfl⟩
        have hrep:Cf (Array.replicate ops.size false)=λ_=>false:=by
         funext j;unfold Cf;by_cases e:j<ops.size <;> simp [Array.getD,e]
        have hs2:A6 Γ { w with drawn:=w.drawn+1 } E0 (s0.over (Cf (Array.replicate ops.size false)) xs) a.tmps:=hs1.less λt x hx=>by
         rw [hrep] at hx
         have:∀ ys:List (Nat × Nat × S),Mg (λ_=>false) ys s0.slots=s0.slots:=by
          intro ys
          induction ys with
          | nil=>rfl
          | cons y r ih=>simpa [Mg] using ih
         rw [this] at hx;exact hx
        refine Ba7 hT hok hmn (X:=λb=>b.defers=a.defers /\ ∀ t,(Code.region id ops true).wr t=false->b.tmps.getD t undef=a.tmps.getD t undef) hK (λi o hi b v hb=>Amr hi hb) (λa' w' hd' he=>⟨rfl,.id hd'.1 hd'.2 he⟩) hg (by simp [hlen] at hxl;omega) (by simp [hlen];omega) (l:=(Ad ops.toList).drop m) (λi y hi=>?_) hrun (λx hx=>ho x (ZI _ (QG.2 (.inr (QG.2 (.inr hx)))))) ops.size _ a _ E0 (by simp) ?_ (λj o hj=>?_) (λi _ _=>by rw [hrep]) ⟨rfl,λ_ _=>rfl⟩ hs2
        . rw [YH] at hi;obtain ⟨h1,h2⟩:=Dp hi;rw [h1]
          exact ⟨rfl,by simpa using h2⟩
        . unfold L8;rw [hrep];exact (ZY List.length (Qak.2 λ_ _=>rfl)).trans JI
        . rw [hrep] at hj;cases hj
      . cases h
    . cases h
  . cases h
end Go.Ev

/- DERIVED. Forgetting of boxes; the evaluation of code along one path. -/
namespace Go.Ev
open Go
variable {P:Program} {T:Ty}
def M2 {α:Type} (h:Nat):List (Nat × α)->List (Nat × α)
 | []=>[]
 | (j,x)::r=>bif Nat.beq j h then M2 h r else (j,x)::M2 h r
theorem P8 {α:Type} (h:Nat):∀ l:List (Nat × α),A1 h (M2 h l)=none
 | []=>rfl
 | (j,x)::r=>by
  simp only [M2]
  cases e:Nat.beq j h with
  | true=>exact P8 h r
  | false=>simp only [cond,A1,e];exact P8 h r
theorem Jm {α:Type} {h k:Nat} (hk:k ≠ h):∀ l:List (Nat × α),A1 k (M2 h l)=A1 k l
 | []=>rfl
 | (j,x)::r=>by
  simp only [M2,A1]
  cases e:Nat.beq j h with
  | true =>
   have:=QD e;subst this
   have hb:Nat.beq j k=false:=by cases e':Nat.beq j k with | false=>rfl | true=>exact absurd (QD e').symm hk
   simp only [cond,hb];exact Jm hk r
  | false=>simp only [cond,A1,Jm hk r]
def St.delBox (s:St) (h:Nat):Option St :=
 bif Nat.blt h 1000&&s.slots.all (λp=>!p.2.men h)&&Tk h s.boxes then some { s with boxes:=M2 h s.boxes } else none
theorem A6.delBox {Γ:Ctx} {w:World} {E:Env} {s s':St} {tmps:Array Value} (hs:A6 Γ w E s tmps) {h:Nat} (hd:s.delBox h=some s'):∃ E',A6 Γ w E' s' tmps:=by
 unfold St.delBox at hd
 cases hc:(Nat.blt h 1000&&s.slots.all (λp=>!p.2.men h)&&Tk h s.boxes) with
 | false=>rw [hc] at hd;cases hd
 | true =>
  rw [hc] at hd;obtain rfl:=QA hd;simp only [QH] at hc;obtain ⟨⟨c1,c2⟩,c3⟩:=hc
  have c1:h<1000:=by simpa [XD] using c1
  let E':Env:={ E with β:=λk=>if k=h then Option.none else E.β k }
  have kb:Ez h w w E E':=⟨ZF _,λ_ _ _ h=>h,λk x hk hx=>by show (if k=h then Option.none else E.β k)=some x;rw [QB hk];exact hx,λ_ _ _ _ _ h=>h⟩
  have back:∀ k x,E'.β k=some x->k ≠ h/\E.β k=some x:=by
   intro k x hx
   have hx':(if k=h then Option.none else E.β k)=some x:=hx
   by_cases e:k=h
   . rw [QC e] at hx';cases hx'
   . rw [QB e] at hx';exact ⟨e,hx'⟩
  have lk:∀ k b,A1 k (M2 h s.boxes)=some b->k ≠ h/\A1 k s.boxes=some b:=by
   intro k b hb;by_cases e:k=h
   . subst e;rw [P8] at hb;cases hb
   . rw [Jm e] at hb;exact ⟨e,hb⟩
  refine ⟨E',hs.fr,⟨hs.wf.alt,hs.wf.tag,hs.wf.inj,hs.wf.om⟩,hs.old,hs.nt,hs.tag,hs.new,λk b hb=>?_,λk k' b b' g g' z z' hb hb' hz hz'=>?_,λk b g z hb hz=>?_,λt x hx=>?_,hs.tsize,λk x hx=>?_,λk hk hk2 hm=>?_,λk b g z hb hz=>?_,hs.held,hs.tow⟩
  . obtain ⟨hne,hb0⟩:=lk k b hb;obtain ⟨g,cap,hβ,⟨arr,a1,a2,a3,a4,a5,a6,a7,a8,a9⟩,hω,hS⟩:=hs.boxes k b hb0;have kb:=kb.rd k b.tr λ_ _ h=>⟨h,rfl⟩
    refine ⟨g,cap,by have:=kb.β _ _ hne (by rw [Env.rd_β];exact hβ);rwa [Env.rd_β] at this,⟨arr,a1,a2,a3,a4,a5,λi r j c hi hj=>?_,a7,λe=>(Env.rd_A (E:=E') hω).2 ((Env.rd_A (E:=E) hω).1 (a8 e)),by rw [Env.rd_τ] at a9 ⊢;exact a9⟩,hω,hS⟩
    obtain ⟨v,hv,hr⟩:=a6 i r j c hi hj;refine ⟨v,hv,hr.keepBut kb ?_⟩;have hcl:=Aul c3 hne hb0;unfold Box.men at hcl
    cases hf:b.hf with
    | true=>obtain ⟨x,rfl⟩:=a7 hf i r j c hi hj;rfl
    | false =>
     rw [hf] at hcl;simp only [ZW,ZZ] at hcl;exact L6 (L6 hcl hi) hj
  . obtain ⟨_,h1⟩:=lk k b hb;obtain ⟨_,h2⟩:=lk k' b' hb';exact hs.inj k k' b b' g g' z z' h1 h2 (back _ _ hz).2 (back _ _ hz').2
  . exact hs.own k b g z (lk k b hb).2 (back _ _ hz).2
  . have:=QK.1 c2 (t,x) (A85 hx)
    exact (hs.slots t x hx).keepBut kb (by simpa using this)
  . obtain ⟨hne,hx0⟩:=back _ _ hx;rw [Jm hne];exact hs.dom k x hx0
  . show (if k=h then Option.none else E.β k)=_
    rw [QB (by omega)]
    exact hs.stay k hk hk2 hm
  . exact hs.fzn k b g z (lk k b hb).2 (back _ _ hz).2
def Nk:List Nat->St->Option St
 | [],s=>some s
 | h::r,s=>match s.delBox h with
  | some s1=>Nk r s1
  | none=>none
theorem Wo {Γ:Ctx} {w:World} {tmps:Array Value}:∀ (l:List Nat) {E:Env} {s s':St},A6 Γ w E s tmps->Nk l s=some s'->∃ E',A6 Γ w E' s' tmps
 | [],E,s,s',hs,h=>by obtain rfl:=QA h;exact ⟨E,hs⟩
 | k::r,E,s,s',hs,h=>by
  simp only [Nk] at h;split at h
  . rename_i s1 h1;obtain ⟨E1,hs1⟩:=hs.delBox h1;exact Wo r hs1 h
  . cases h
structure RG where
 ds:List (Nat × Hh):=[]
 m:Nat:=0
 fz:List (Nat × V):=[]
 drop:List Nat:=[]
 dropB:List Nat:=[]
 only:Option (List Nat):=none
def St.onlyS (s:St):Option (List Nat)->St
 | none=>s
 | some l=>{ s with slots:=s.slots.filter λp=>l.contains p.1 }
def Bsc (P:Program) (T:Ty) (K:Aj) (ops:Array Oper) (draw:Bool) (R:RG) (s:St):Option (St × List Prop) :=
 match (match draw with | true=>A1m P T K ops R.m R.ds R.fz s | false=>O9 P T K ops { ds:=R.ds,drop:=[] } s) with
 | some (s1,p)=>match Nk R.dropB ((s1.forget R.drop).onlyS R.only) with
  | some s2=>some (s2,p)
  | none=>none
 | none=>none
theorem Den.weak {K:Aj} {c:Code} {s s1 s2:St} {x:Exit} (h:Code.Den P K c s x s1) (hw:∀ Γ w E tmps,A6 Γ w E s1 tmps->∃ E',A6 Γ w E' s2 tmps):Code.Den P K c s x s2:=by
 intro Γ w E a ro n hK hr hs;refine wpIn_mono (h Γ w E a ro n hK hr hs) ?_
 rintro e a1 w1 ⟨rfl,⟨h',q1,q2,E1,hs1⟩,q3⟩
 obtain ⟨E2,hs2⟩:=hw _ _ _ _ hs1;exact ⟨rfl,⟨h',q1,q2,E2,hs2⟩,q3⟩
def Bbs:Exit->Bool
 | .normal=>true
 | _=>false
def path (P:Program) (T:Ty) (K:Aj) (D:List (Nat × RG)):Code->St->List (Exit × St)->Option (Exit × St × List (Exit × St) × List Prop)
 | .skip,s,ls=>some (.normal,s,ls,[])
 | .region id ops draw,s,ls=>match Bsc P T K ops draw ((A1 id D).getD {}) s with
  | some (s',p)=>some (.normal,s',ls,p)
  | none=>none
 | .seq c d,s,ls=>match path P T K D c s ls with
  | some (x,s1,ls1,p)=>bif Bbs x then (match path P T K D d s1 ls1 with
   | some (y,s2,ls2,q)=>some (y,s2,ls2,p++q)
   | none=>none) else some (x,s1,ls1,p)
  | none=>none
 | .cond (.tmp t) c d,s,ls=>match A1 t s.slots with
  | some (.v (.one (.i (.lit (.bool true)))))=>path P T K D c s ls
  | some (.v (.one (.i (.lit (.bool false)))))=>path P T K D d s ls
  | _=>none
 | .block id c,s,ls=>match path P T K D c s ls with
  | some (.exit j,s1,ls1,p)=>some (bif Nat.beq j id then .normal else .exit j,s1,ls1,p)
  | r=>r
 | .loop c,s,ls=>match ls with
  | (x,s')::ls'=>some (x,s',ls',[Hr P K c s x s'])
  | []=>none
 | .rangeFunc f ps a b,s,ls=>match ls with
  | (x,s')::ls'=>some (x,s',ls',[Code.Den P K (.rangeFunc f ps a b) s x s'])
  | []=>none
 | .exit id,s,ls=>some (.exit id,s,ls,[])
 | .ret,s,ls=>some (.ret,s,ls,[])
 | _,_,_=>none
def B30:List Prop->Prop
 | []=>True
 | p::r=>p/\B30 r
theorem B30.of:∀ {l:List Prop},B30 l->∀ p ∈ l,p
 | _::_,h,_,hp=>by
  rcases QX.1 hp with rfl | hp
  . exact h.1
  . exact B30.of h.2 _ hp
end Go.Ev

/- DERIVED. Words for the printed texts: short names, and what is owed, discharged. -/
namespace Go.Ev
open Go
abbrev iN (n:Int):I:=.lit (.int .i64 n)
abbrev sI (x:I):S:=.v (.one (.i x))
def Af (f:Func):Code:=f.body.getD .skip
def _root_.Go.Code.at (c:Code):List Nat->Code
 | []=>c
 | k::r=>match c,k with
  | .seq a _,0=>a.at r
  | .seq _ b,1=>b.at r
  | .cond _ a _,0=>a.at r
  | .cond _ _ b,1=>b.at r
  | .block _ a,0=>a.at r
  | .loop a,0=>a.at r
  | .rangeFunc _ _ a _,0=>a.at r
  | .rangeFunc _ _ _ b,1=>b.at r
  | _,_=>.skip
abbrev obN (x y:Int):Prop:=S.lit (.int .i64 x)=sI (iN y)
theorem B31 {x:Int} (h:-9223372036854775808<=x) (h':x<9223372036854775808):IntKind.i64.wrap x=x:=by
 simp only [IntKind.wrap,IntKind.signed,IntKind.bits];simp;omega
theorem Blw (a b:Int):obN (if (if true=true then b>a else b<a) then b else a) (max a b):=by
 have h:(if (if true=true then b>a else b<a) then b else a)=max a b:=by
  simp only [if_true];by_cases h:b>a
  . rw [QC h];omega
  . rw [QB h];omega
 unfold obN;rw [h]
theorem Blv (a b:Int):obN (if (if false=true then b>a else b<a) then b else a) (min a b):=by
 have h:(if (if false=true then b>a else b<a) then b else a)=min a b:=by
  simp only [XG,if_false];by_cases h:b<a
  . rw [QC h];omega
  . rw [QB h];omega
 unfold obN;rw [h]
end Go.Ev
