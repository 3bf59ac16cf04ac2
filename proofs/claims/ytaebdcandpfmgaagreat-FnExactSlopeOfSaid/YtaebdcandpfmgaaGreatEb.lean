/- DERIVED. An evaluator of code over abstract states: whole paths, calls, loops. -/
import Derived.OrdersHeld
import Derived.Test.YtaebdcandpfmgaaGreatEa

set_option linter.all false
set_option linter.unusedVariables false
set_option linter.unusedSimpArgs false

/- DERIVED. A function's contract, and a call. -/
namespace Go.Ev
open Go
variable {P:Program} {T:Ty}
structure FIn (w:World) (E:Env) (nt:Nat) (bs:List (Nat × Box)):Prop where
 wf:WfE w E nt
 boxes:∀ h b,A0 h bs = some b->Es w E h b /\ b.fz = false /\ 1000 <= h
 inj:∀ h h' b b' g g' z z',A0 h bs = some b->A0 h' bs = some b'->E.β h = some (g,z)->E.β h' = some (g',z')->h ≠ h'->g ≠ g'
 dom:∀ h x,E.β h = some x->(A0 h bs).isSome = true
 odom:∀ g h,E.ω g = some h->(A0 h bs).isSome = true
def handed (E:Env) (bs:List (Nat × Box)) (g:Nat):Prop:=∃ h b,A0 h bs = some b /\ ((∃ z,E.β h = some (g,z)) \/ E.ω g = some h)
structure B01 (w:World) (E:Env) (nt:Nat) (bs:List (Nat × Box)) (mv:List Nat) (w':World) (E':Env) (nt':Nat) (bs':List (Nat × Box)):Prop where
 fr:Fr w (handed E bs) w'
 wf:WfE w' E' nt'
 old:∀ b,b < w.heap.size->(E'.A b ↔ E.A b)
 ntle:nt <= nt'
 tag:∀ t,t < nt->E'.τ t = E.τ t
 new:∀ t g,nt <= t->E'.τ t = some g->w.heap.size <= g
 boxes:∀ h b,A0 h bs' = some b->Es w' E' h b /\ b.fz = false
 inj:∀ h h' b b' g g' z z',A0 h bs' = some b->A0 h' bs' = some b'->E'.β h = some (g,z)->E'.β h' = some (g',z')->h ≠ h'->g ≠ g'
 own:∀ h b g z,A0 h bs' = some b->E'.β h = some (g,z)->w.heap.size <= g \/ ∃ b0,A0 h bs = some b0 /\ E.β h = some (g,z)
 stay:∀ h b,A0 h bs = some b->mv.contains h = false->E'.β h = E.β h /\ (A0 h bs').isSome = true
 tow:∀ g h,E'.ω g = some h->w.heap.size <= g \/ handed E bs g
def Bbh (P : Program) (f : FuncId) : Prop := ∃ fn, P.funcs[f]? = some fn /\ (fn.name == "runtime.NumGoroutine") = false /\ fn.body.isNone = false
def Ix (P:Program) (f:FuncId) (nt:Nat) (mv:List Nat) (bs:List (Nat × Box)) (args:List V) (r:S) (nt':Nat) (bs':List (Nat × Box)):Prop :=
 Bbh P f /\ ∀ (w:World) (E:Env) (vs:List Value),FIn w E nt bs->Kx w E vs args ->
  Calls P f vs.toArray w (fun e w'=>∃ v E',e = .returned v /\ Rs w' E' v r /\ B01 w E nt bs mv w' E' nt' bs')
def V.noH:V->Bool
 | .one c=>By c
 | .agg cs=>cs.all By
def S.noH:S->Bool
 | .v x=>x.noH
 | .tup xs=>xs.all V.noH
 | .dead=>true
theorem Rc.noH {w:World} {E E':Env} (hA:E'.A = E.A) (hτ:E'.τ = E.τ) {v:Value} {c:C} (hc:By c = true) (h:Rc w E v c):Rc w E' v c:=by
 cases h with
 | i h =>
  refine .i (h.keepI (QY _) (fun tag g _ hb=>?_) (fun _ _ _ _ _ h=>h));unfold Env.blk at hb ⊢;rw [hA,hτ];exact hb
 | hs=>cases hc
 | hp=>cases hc
theorem Ep {α:Type} {p:α->Bool} {l:List α} (h:l.all p = true) {j:Nat} {c:α} (hj:l[j]? = some c):p c = true :=
 QM.1 h c (QV hj)
theorem Rv.noH {w:World} {E E':Env} (hA:E'.A = E.A) (hτ:E'.τ = E.τ) {v:Value} {x:V} (hx:x.noH = true) (h:Rv w E v x):Rv w E' v x:=by
 cases h with
 | one h=>exact .one (h.noH hA hτ hx)
 | agg h=>exact .agg ⟨h.1,fun j v c hv hc=>(h.2 j v c hv hc).noH hA hτ (Ep hx hc)⟩
theorem Rs.noH {w:World} {E E':Env} (hA:E'.A = E.A) (hτ:E'.τ = E.τ) {v:Value} {x:S} (hx:x.noH = true) (h:Rs w E v x):Rs w E' v x:=by
 cases h with
 | v h=>exact .v (h.noH hA hτ hx)
 | tup h=>exact .tup ⟨h.1,fun j v c hv hc=>(h.2 j v c hv hc).noH hA hτ (Ep hx hc)⟩
 | dead=>exact .dead
inductive IClosed:I->Prop
 | lit (v:Value):IClosed (.lit v)
 | nil (tag:Nat) (nl:Bool) (sz:Nat):IClosed (.sl tag nl sz [])
 | sl (tag:Nat) (nl:Bool) (sz:Nat) (rows:List (List I)) (ht:tag ≠ 0) (h:∀ (i:Nat) (r:List I) (j:Nat) (c:I),rows[i]? = some r->r[j]? = some c->IClosed c):IClosed (.sl tag nl sz rows)
theorem Ri.closed {w:World} {E E':Env} (hτ:E'.τ = E.τ) {v:Value} {x:I} (h:Ri w E v x) (hc:IClosed x):Ri w E' v x:=by
 induction h with
 | lit v h=>exact .lit v h
 | nil tag sz cap a nl hn hcap=>exact .nil tag sz cap a nl hn hcap
 | sl tag sz g o cap rows vs hne hcap hg hb hlen hcell _ ih =>
  cases hc with
  | nil=>exact absurd rfl hne
  | sl _ _ _ _ ht hcl =>
   refine .sl tag sz g o cap rows vs hne hcap hg ?_ hlen hcell (fun i r j c hi hj=>ih i r j c hi hj (hcl i r j c hi hj));unfold Env.blk at hb ⊢;rw [QH ht] at hb ⊢;rw [hτ];exact hb
 | ref=>cases hc
 | fn=>cases hc
 | any=>cases hc
def A8u:C->Prop
 | .i x=>IClosed x
 | _=>False
def Qj:V->Prop
 | .one c=>A8u c
 | .agg cs=>∀ (j:Nat) (c:C),cs[j]? = some c->A8u c
def Jw:S->Prop
 | .v x=>Qj x
 | .tup xs=>∀ (j:Nat) (x:V),xs[j]? = some x->Qj x
 | .dead=>True
theorem Rc.closed {w:World} {E E':Env} (hτ:E'.τ = E.τ) {v:Value} {c:C} (h:Rc w E v c) (hc:A8u c):Rc w E' v c:=by
 cases h with
 | i h=>exact .i (h.closed hτ hc)
 | hs=>exact hc.elim
 | hp=>exact hc.elim
theorem Rv.closed {w:World} {E E':Env} (hτ:E'.τ = E.τ) {v:Value} {x:V} (h:Rv w E v x) (hc:Qj x):Rv w E' v x:=by
 cases h with
 | one h=>exact .one (h.closed hτ hc)
 | agg h=>exact .agg ⟨h.1,fun j v c hv hj=>(h.2 j v c hv hj).closed hτ (hc j c hj)⟩
theorem Rs.closed {w:World} {E E':Env} (hτ:E'.τ = E.τ) {v:Value} {x:S} (h:Rs w E v x) (hc:Jw x):Rs w E' v x:=by
 cases h with
 | v h=>exact .v (h.closed hτ hc)
 | tup h=>exact .tup ⟨h.1,fun j v c hv hj=>(h.2 j v c hv hj).closed hτ (hc j c hj)⟩
 | dead=>exact .dead
def Qm (c c':C):Option (List Prop) :=
 match c,c' with
 | .i (.lit (.slice none 0 0)),.i (.sl _ _ _ [])=>some []
 | c,c'=>some [c = c']
def Eb:List C->List C->Option (List Prop)
 | [],[]=>some []
 | c :: r,c' :: r'=>match Qm c c',Eb r r' with
  | some p,some q=>some (p ++ q)
  | _,_=>none
 | _,_=>none
def A03:V->V->Option (List Prop)
 | .one c,.one c'=>Qm c c'
 | .agg cs,.agg cs'=>Eb cs cs'
 | _,_=>none
theorem L8 {w:World} {E:Env} {v:Value} {c c':C} {obs:List Prop} (hv:Rc w E v c) (h:Qm c c' = some obs) (ho:∀ p ∈ obs,p):Rc w E v c':=by
 unfold Qm at h;split at h
 . cases hv with | i hv=>cases hv with | lit=>exact .i (.nil _ _ _ _ _ (fun _=>rfl) (fun _=>rfl))
 . obtain rfl:=QA h
   have:c = c':=ho _ (by simp)
   subst this;exact hv
theorem Zc {w:World} {E:Env}:∀ (cs cs':List C) (vs:List Value) (obs:List Prop),Dz w E vs cs->Eb cs cs' = some obs->(∀ p ∈ obs,p)->Dz w E vs cs'
 | [],[],vs,_,hv,_,_=>hv
 | [],_ :: _,_,_,_,h,_=>by simp [Eb] at h
 | _ :: _,[],_,_,_,h,_=>by simp [Eb] at h
 | c :: r,c' :: r',[],_,hv,_,_=>by have:=hv.1;simp at this
 | c :: r,c' :: r',v :: vs,obs,hv,h,ho=>by
  simp only [Eb] at h;split at h
  . rename_i p q h1 h2;obtain rfl:=QA h;have r1:=L8 (hv.2 0 v c rfl rfl) h1 (fun x hx=>ho x (QF.2 (.inl hx)))
    have r2:=Zc r r' vs q ⟨by simpa using hv.1,fun j v c hv' hc'=>hv.2 (j + 1) v c (by simpa using hv') (by simpa using hc')⟩ h2 (fun x hx=>ho x (QF.2 (.inr hx)))
    refine ⟨by simp [r2.1],fun j v' x' hv' hx'=>?_⟩
    cases j with
    | zero=>simp at hv' hx';subst hv';subst hx';exact r1
    | succ j=>exact r2.2 j v' x' (by simpa using hv') (by simpa using hx')
  . cases h
theorem Alr {w:World} {E:Env} {v:Value} {y a:V} {obs:List Prop} (hv:Rv w E v y) (h:A03 y a = some obs) (ho:∀ p ∈ obs,p):Rv w E v a:=by
 cases hv with
 | one hv=>cases a with
  | one c'=>exact .one (L8 hv h ho)
  | agg=>simp [A03] at h
 | agg hv=>cases a with
  | one c'=>simp [A03] at h
  | agg cs'=>exact .agg (Zc _ _ _ _ hv h ho)
def Gm (bx:Nat->Option Box) (x:S) (a:V):Option (List Prop × List Nat) :=
 match x with
 | .v (.one (.hs h off len))=>match bx h,a with
  | some b,.one (.i (.sl 0 false sz rows))=>bif Nat.beq b.sz sz && b.hf && !b.fz then some ([off + len <= b.rows.length,(b.rows.drop off).take len = rows.map (·.map .i)],[h]) else none
  | _,_=>none
 | .v y=>bif y.noH && a.noH then (A03 y a).map fun p=>(p,[]) else none
 | _=>none
def Cr (bx:Nat->Option Box):List C->List C->Option (List Prop × List Nat)
 | [],[]=>some ([],[])
 | c :: cs,a :: as=>match Gm bx (.v (.one c)) (.one a),Cr bx cs as with
  | some (p,h),some (ps,hs)=>some (p ++ ps,h ++ hs)
  | _,_=>none
 | _,_=>none
def Tn (bx:Nat->Option Box) (x:S) (a:V):Option (List Prop × List Nat) :=
 match Gm bx x a with
 | some q=>some q
 | none=>match x,a with
  | .v (.agg cs),.agg as=>Cr bx cs as
  | _,_=>none
def Hd (bx:Nat->Option Box):List S->List V->Option (List Prop × List Nat)
 | [],[]=>some ([],[])
 | x :: xs,a :: as=>match Tn bx x a,Hd bx xs as with
  | some (p,h),some (ps,hs)=>some (p ++ ps,h ++ hs)
  | _,_=>none
 | _,_=>none
theorem Calls.mono' {f:FuncId} {args:Array Value} {w:World} {R R':Ending->World->Prop} (h:Calls P f args w R) (hr:∀ e w,R e w->R' e w):Calls P f args w R':=by
 intro cs;obtain ⟨e,w',fr,hR,hc⟩:=h cs;exact ⟨e,w',fr,hr _ _ hR,hc⟩
def Ou (E:Env) (bor:List Nat) (g:Nat):Prop:=∃ h,h ∈ bor /\ ((∃ z,E.β h = some (g,z)) \/ E.ω g = some h)
def Env.lend (E:Env) (bor:List Nat):Env:={ A:=fun b=>E.A b /\ ¬ Ou E bor b,τ:=E.τ,β:=fun _=>none,ω:=fun _=>none }
theorem A3c {Γ:Ctx} {w:World} {E:Env} {s:St} {tmps:Array Value} (hs:A6 Γ w E s tmps) {bor:List Nat} {v:Value} {x:S} {a:V} {obs:List Prop} {hh:List Nat}
  (hv:Rs w E v x) (h:Gm (A0 · s.boxes) x a = some (obs,hh)) (ho:∀ p ∈ obs,p) (hb:∀ k ∈ hh,k ∈ bor):Rv w (E.lend bor) v a:=by
 have kI:∀ v y,Ri w E v y->Ri w (E.lend bor) v y:=by
  intro v y hr;refine hr.keepI (QY _) (fun tag g _ hb=>?_) (fun _ _ _ _ _ h=>h);unfold Env.blk at hb ⊢;split
  . rename_i e;rw [QK e] at hb;exact fun h=>hb h.1
  . rename_i e;rw [QH e] at hb;exact hb
 have kC:∀ v (c:C),By c = true->Rc w E v c->Rc w (E.lend bor) v c:=by
  intro v c hc hr
  cases hr with
  | i h=>exact .i (kI _ _ h)
  | hs=>cases hc
  | hp=>cases hc
 unfold Gm at h;split at h
 . rename_i k off len;split at h
   . rename_i b sz rows hbx
     cases hc:(Nat.beq b.sz sz && b.hf && !b.fz) with
     | false=>rw [hc] at h;cases h
     | true =>
      rw [hc] at h;simp only [cond,QD,QG] at h;obtain ⟨rfl,rfl⟩:=h;simp only [QE,ZJ] at hc;obtain ⟨⟨c1,c2⟩,c3⟩:=hc;have c1:=QC c1
      have o1:off + len <= b.rows.length:=ho _ (by simp)
      have o2:(b.rows.drop off).take len = rows.map (·.map .i):=ho _ (by simp)
      have hkb:k ∈ bor:=hb k (by simp)
      obtain ⟨g,z,cap,ad,hβ,hle,had,rfl⟩:=hv.hs_inv;obtain ⟨rfl,_,hat,_⟩:=hs.box hbx hβ
      have kT:∀ v y,Ri w (E.rd k b.tr) v y->Ri w (E.lend bor) v y:=by
       intro v y hr;refine hr.keepI (QY _) (fun tag g _ hb=>?_) (fun _ _ _ _ _ h=>h)
       cases htr:b.tr with
       | false =>
        rw [htr] at hb;have hb:E.blk tag g:=hb;unfold Env.blk at hb ⊢;split
        . rename_i e;rw [QK e] at hb;exact fun h=>hb h.1
        . rename_i e;rw [QH e] at hb;exact hb
       | true =>
        rw [htr] at hb;unfold Env.blk at hb ⊢;split
        . rename_i e;rw [QK e] at hb;exact fun h=>hb ⟨h.1,fun h2=>h.2 ⟨k,hkb,.inr h2⟩⟩
        . rename_i e;rw [QH e] at hb;exact hb
      have hlt:=hat.lt;obtain ⟨arr,hg,hsz',hl,hm,hlen,hcell,hhf,hA,hT'⟩:=hat
      have hrl:rows.length = len:=by have:=XU List.length o2;simp at this;omega
      have hget:∀ (i:Nat) (q:List I),rows[i]? = some q->b.rows[off + i]? = some (q.map .i):=by
       intro i q hi
       have hi':i < len:=by rw [<- hrl];exact (QO.1 hi).1
       have:((b.rows.drop off).take len)[i]? = some (q.map .i):=by rw [o2,QL,hi];rfl
       rwa [XD,QK hi',YC] at this
      by_cases h0:len = 0
      . subst h0;obtain rfl:=XJ hrl
        exact .one (.i (.nil _ _ _ _ _ (fun e=>by cases e) (fun e=>by cases e)))
      . obtain rfl:=had (.inl (by omega))
        have hblk:(E.lend bor).blk 0 g:=by
         simp only [Env.blk,if_true,Env.lend];exact fun h=>h.2 ⟨k,hkb,.inl ⟨_,hβ⟩⟩
        have:=Ri.sl (w:=w) (E:=E.lend bor) 0 sz g (off * b.sz) (cap - off) rows (fun i j=>(arr[(off + i) * b.sz + j]?).getD undef) (fun e=>by subst e;simp at hrl;omega) (by omega) hlt hblk
         (fun i q hi=>by have:=hlen _ _ (hget i q hi);simp at this;omega)
         (fun i q j c hi hj=>by
          obtain ⟨u,hu,_⟩:=hcell _ _ j (.i c) (hget i q hi) (by rw [QL,hj];rfl)
          rw [show off * b.sz + (i * sz + j) = (off + i) * b.sz + j by rw [<- c1,YH];omega]
          simp [World.cell?,hg,hu])
         (fun i q j c hi hj=>by
          obtain ⟨u,hu,hr⟩:=hcell _ _ j (.i c) (hget i q hi) (by rw [QL,hj];rfl)
          rw [hu]
          cases hr with | i hr=>exact kT _ _ hr)
        rw [hrl] at this;exact .one (.i this)
   . cases h
 . rename_i y _
   cases hc:(y.noH && a.noH) with
   | false=>rw [hc] at h;cases h
   | true =>
    rw [hc] at h;simp only [cond,QB,QG] at h;obtain ⟨p,hp,rfl,rfl⟩:=h;simp only [QE] at hc;refine Alr ?_ hp ho
    cases hv.v_inv with
    | one hr=>exact .one (kC _ _ hc.1 hr)
    | agg hr=>exact .agg ⟨hr.1,fun j v c hv hj=>kC _ _ (Ep hc.1 hj) (hr.2 j v c hv hj)⟩
 . cases h
theorem Zk {Γ:Ctx} {w:World} {E:Env} {s:St} {tmps:Array Value} (hs:A6 Γ w E s tmps) {bor:List Nat}:∀ {vs:List Value} {cs as:List C} {obs:List Prop} {hh:List Nat},
  Dz w E vs cs->Cr (A0 · s.boxes) cs as = some (obs,hh)->(∀ p ∈ obs,p)->(∀ k ∈ hh,k ∈ bor)->Dz w (E.lend bor) vs as
 | vs,[],[],_,_,hv,_,_,_=>⟨hv.1,fun j v c _ hc=>by simp at hc⟩
 | _,[],_ :: _,_,_,_,h,_,_=>by simp [Cr] at h
 | _,_ :: _,[],_,_,_,h,_,_=>by simp [Cr] at h
 | [],c :: cs,a :: as,_,_,hv,_,_,_=>by have:=hv.1;simp at this
 | v :: vs,c :: cs,a :: as,obs,hh,hv,h,ho,hb=>by
  simp only [Cr] at h;split at h
  . rename_i p k ps ks h1 h2;simp only [QD,QG] at h;obtain ⟨rfl,rfl⟩:=h;have r1:=A3c hs (bor:=bor) (x:=.v (.one c)) (a:=.one a) (.v (.one (hv.2 0 v c rfl rfl))) h1 (fun q hq=>ho q (QF.2 (.inl hq))) (fun q hq=>hb q (QF.2 (.inl hq)))
    have r2:=Zk hs (vs:=vs) (cs:=cs) ⟨by simpa using hv.1,fun j v' c' h1 h2=>hv.2 (j + 1) v' c' (by simpa using h1) (by simpa using h2)⟩ h2 (fun q hq=>ho q (QF.2 (.inr hq))) (fun q hq=>hb q (QF.2 (.inr hq)))
    refine ⟨by simp [r2.1],fun j v' x' hv' hx'=>?_⟩
    cases j with
    | zero=>simp at hv' hx';subst hv';subst hx';cases r1 with | one r1=>exact r1
    | succ j=>exact r2.2 j v' x' (by simpa using hv') (by simpa using hx')
  . cases h
theorem Ab7 {Γ:Ctx} {w:World} {E:Env} {s:St} {tmps:Array Value} (hs:A6 Γ w E s tmps) {bor:List Nat} {v:Value} {x:S} {a:V} {obs:List Prop} {hh:List Nat}
  (hv:Rs w E v x) (h:Tn (A0 · s.boxes) x a = some (obs,hh)) (ho:∀ p ∈ obs,p) (hb:∀ k ∈ hh,k ∈ bor):Rv w (E.lend bor) v a:=by
 unfold Tn at h;split at h
 . rename_i q hq;obtain rfl:=QA h;exact A3c hs hv hq ho hb
 . split at h
   . cases hv with | v hv=>cases hv with | agg hv=>exact .agg (Zk hs hv h ho hb)
   . cases h
theorem Ab6 {Γ:Ctx} {w:World} {E:Env} {s:St} {tmps:Array Value} (hs:A6 Γ w E s tmps) (bor:List Nat):∀ (xs:List S) (as:List V) (vs:List Value) (obs:List Prop) (hh:List Nat),vs.length = xs.length ->
  (∀ (j:Nat) v x,vs[j]? = some v->xs[j]? = some x->Rs w E v x)->Hd (A0 · s.boxes) xs as = some (obs,hh)->(∀ p ∈ obs,p)->(∀ k ∈ hh,k ∈ bor)->Kx w (E.lend bor) vs as
 | [],[],vs,obs,hh,hl,_,_,_,_=>⟨by simpa using hl,fun j v x _ hx=>by simp at hx⟩
 | [],_ :: _,_,_,_,_,_,h,_,_=>by simp [Hd] at h
 | _ :: _,[],_,_,_,_,_,h,_,_=>by simp [Hd] at h
 | x :: xs,a :: as,[],_,_,hl,_,_,_,_=>by simp at hl
 | x :: xs,a :: as,v :: vs,obs,hh,hl,hv,h,ho,hb=>by
  simp only [Hd] at h;split at h
  . rename_i p k ps ks h1 h2;simp only [QD,QG] at h;obtain ⟨rfl,rfl⟩:=h;have r1:=Ab7 hs (bor:=bor) (hv 0 v x rfl rfl) h1 (fun q hq=>ho q (QF.2 (.inl hq))) (fun q hq=>hb q (QF.2 (.inl hq)))
    have r2:=Ab6 hs bor xs as vs ps ks (by simpa using hl) (fun j v x hv' hx'=>hv (j + 1) v x (by simpa using hv') (by simpa using hx')) h2 (fun q hq=>ho q (QF.2 (.inr hq))) (fun q hq=>hb q (QF.2 (.inr hq)))
    refine ⟨by simp [r2.1],fun j v' x' hv' hx'=>?_⟩
    cases j with
    | zero=>simp at hv' hx';subst hv';subst hx';exact r1
    | succ j=>exact r2.2 j v' x' (by simpa using hv') (by simpa using hx')
  . cases h
theorem Apd {Γ:Ctx} {w:World} {E:Env} {s:St} {tmps:Array Value} (hs:A6 Γ w E s tmps) {f:FuncId} {mv:List Nat} {xs:List S} {as:List V} {vs:List Value} {r:S} {nt':Nat} {obs:List Prop} {bor:List Nat}
  (hd:Ix P f s.nt mv [] as r nt' []) (hl:vs.length = xs.length) (hv:∀ (j:Nat) v x,vs[j]? = some v->xs[j]? = some x->Rs w E v x) (ha:Hd (A0 · s.boxes) xs as = some (obs,bor)) (ho:∀ p ∈ obs,p)
  (hr:r.noH = true) (hcl:bor = [] \/ Jw r) (hfz:∀ h ∈ bor,∃ b,A0 h s.boxes = some b /\ b.fz = false) :
  Calls P f vs.toArray w (fun e w'=>∃ v E',e = .returned v /\ Rs w' E' v r /\ A6 Γ w' E' { s with nt:=nt' } tmps):=by
 have hin:FIn w (E.lend bor) s.nt []:=by
  refine ⟨⟨fun b hb=>hs.wf.alt b hb.1,fun t g ht=>?_,hs.wf.inj,fun _ _ h=>nomatch h⟩,(fun h b hb=>by cases hb),(fun h h' b b' g g' z z' hb=>by cases hb),(fun h x hx=>by cases hx),fun _ _ h=>nomatch h⟩
  obtain ⟨h1,h2,h3⟩:=hs.wf.tag t g ht;refine ⟨h1,h2,h3,?_⟩
  rintro ⟨h,hh,hz⟩
  obtain ⟨b,hb,_⟩:=hfz h hh;rcases hz with ⟨z,hz⟩ | hz
  . obtain ⟨_,_,_,_,_,hT,_⟩:=(hs.boxes h b hb).facts hz;exact hT t ht
  . exact (hs.wf.om g h hz).2.1 t ht
 refine Calls.mono' (hd.2 w (E.lend bor) vs hin (Ab6 hs bor xs as vs obs bor hl hv ha ho (fun _ h=>h))) ?_
 rintro e w' ⟨v,Ec,rfl,hrv,hout⟩
 have hblock:∀ b,b < w.heap.size->w'.heap[b]? = w.heap[b]?:=fun b hb=>hout.fr.block b hb (fun ⟨_,_,hx,_⟩=>by cases hx)
 have ht:Iu w w' (fun _=>False):=⟨hout.fr.os,hout.fr.tape,hout.fr.output,hout.fr.size,fun b hb _=>hblock b hb⟩
 have lentA:∀ g,Ou E bor g->E.A g /\ g < w.heap.size /\ ∀ t,E.τ t ≠ some g:=by
  rintro g ⟨h,hh,hz⟩
  obtain ⟨b,hb,hf⟩:=hfz h hh;rcases hz with ⟨z,hz⟩ | hz
  . obtain ⟨_,_,_,ha,hA,hT,_⟩:=(hs.boxes h b hb).facts hz;exact ⟨hA hf,(ZI.1 ha).1,hT⟩
  . obtain ⟨h1,h2,_⟩:=hs.wf.om g h hz;exact ⟨h1,hs.wf.alt g h1,h2⟩
 let E':Env:={ A:=fun b=>Ec.A b \/ Ou E bor b,τ:=Ec.τ,β:=E.β,ω:=E.ω }
 have hAold:∀ b,b < w.heap.size->(E'.A b ↔ E.A b):=by
  intro b hb;have:=hout.old b hb;constructor
  . rintro (h' | h')
    . exact (this.1 h').1
    . exact (lentA b h').1
  . intro h';by_cases hlb:Ou E bor b
    . exact .inr hlb
    . exact .inl (this.2 ⟨h',hlb⟩)
 have kk:Bt w w' E E':=by
  refine ⟨ht.size,fun tag g hg hb=>?_,fun _ _ h=>h,fun tag g o v _ hc=>ht.cell hc (fun h=>h)⟩;unfold Env.blk at hb ⊢;split
  . rename_i e;rw [QK e] at hb;exact fun h'=>hb ((hAold g hg).1 h')
  . rename_i e;rw [QH e] at hb;have:=(hs.wf.tag tag g hb).1;exact (hout.tag tag this).trans hb
 have tagfr:∀ g,g < w.heap.size->(∀ t,E.τ t ≠ some g)->∀ t,E'.τ t ≠ some g:=by
  intro g hg hT t ht';by_cases hlt:t < s.nt
  . exact hT t ((hout.tag t hlt).symm.trans ht')
  . have:=hout.new t g (by omega) ht'
    omega
 have hωk:∀ b k,E.ω b = some k->E'.ω b = some k /\ w'.heap[b]? = w.heap[b]?:=fun b k hb=>⟨hb,hblock b (hs.wf.alt b (hs.wf.om b k hb).1)⟩;refine ⟨v,E',rfl,?_,?_⟩
 . rcases hcl with rfl | hcl
   . have hA0 : E'.A = Ec.A := by
      funext b
      exact propext ⟨fun h=>h.elim id (fun ⟨_,hh,_⟩=>by cases hh),fun h=>.inl h⟩
     exact Rs.noH (E:=Ec) (E':=E') hA0 rfl hr hrv
   . exact Rs.closed (E:=Ec) (E':=E') rfl hrv hcl
 . refine ⟨hs.fr.trans ht.os ht.tape ht.output ht.size (fun b hb _=>hblock b (ZT hb hs.fr.size)),⟨fun b hb=>?_,fun t g htg=>?_,hout.wf.inj,fun b k hb=>?_⟩,fun b hb=>?_,ZN hs.nt hout.ntle,fun t htn=>?_,fun t g htn htg=>?_,fun h b hb=>?_,hs.inj,hs.own,fun t x hx=>(hs.slots t x hx).keep kk,hs.tsize,hs.dom,hs.stay,fun h b g z hb hβ hf hA=>?_,fun b o hb=>⟨(hs.held b o hb).1,(hblock b (ZI.1 (hs.held b o hb).2).1).trans (hs.held b o hb).2⟩,hs.tow⟩
   . rcases hb with hb | hb
     . exact hout.wf.alt b hb
     . exact ZT (lentA b hb).2.1 ht.size
   . obtain ⟨h1,h2,h3⟩:=hout.wf.tag t g htg;exact ⟨h1,h2,.inl h3⟩
   . obtain ⟨h1,h2,h3⟩:=hs.wf.omk (fun b k hb=>(hωk b k hb).2) b k hb;exact ⟨(hAold b (hs.wf.alt b h1)).2 h1,tagfr b (hs.wf.alt b h1) h2,h3⟩
   . rw [hAold b (ZT hb hs.fr.size)];exact hs.old b hb
   . exact (hout.tag t (ZT htn hs.nt)).trans (hs.tag t htn)
   . by_cases hlt:t < s.nt
     . exact hs.new t g htn ((hout.tag t hlt).symm.trans htg)
     . exact ZN hs.fr.size (hout.new t g (by omega) htg)
   . obtain ⟨g,cap,hβ,hat,hω,hS⟩:=hs.boxes h b hb
     exact Es.keep hat hω hS hβ (hblock g hat.lt) (fun _ _ _ _ _ _ _ hr=>hr.keep (kk.rd h b.tr hωk)) (fun hA=>(hAold g hat.lt).2 hA) (tagfr g hat.lt (by obtain ⟨_,_,_,_,_,_,_,_,_,hT⟩:=hat;rw [Env.rd_τ] at hT;exact hT)) (fun b' hb'=>hωk b' _ hb') hω
   . exact hs.fzn h b g z hb hβ hf ((hAold g (hs.lt hb hβ)).1 hA)
end Go.Ev

/- DERIVED. A call that is handed boxes, or hands out boxes. -/
namespace Go.Ev
open Go
variable {P:Program} {T:Ty}
def C.ren (σ:Nat->Nat):C->C
 | .i x=>.i x
 | .hs h o l=>.hs (σ h) o l
 | .hp h r c=>.hp (σ h) r c
def V.ren (σ:Nat->Nat):V->V
 | .one c=>.one (c.ren σ)
 | .agg cs=>.agg (cs.map (C.ren σ))
def S.ren (σ:Nat->Nat):S->S
 | .v x=>.v (x.ren σ)
 | .tup xs=>.tup (xs.map (V.ren σ))
 | .dead=>.dead
def C.okH (p:Nat->Bool):C->Bool
 | .i _=>true
 | .hs h _ _=>p h
 | .hp h _ _=>p h
def V.okH (p:Nat->Bool):V->Bool
 | .one c=>c.okH p
 | .agg cs=>cs.all (C.okH p)
def S.okH (p:Nat->Bool):S->Bool
 | .v x=>x.okH p
 | .tup xs=>xs.all (V.okH p)
 | .dead=>true
def C.allI (Q:I->Prop):C->Prop
 | .i x=>Q x
 | _=>True
def V.allI (Q:I->Prop):V->Prop
 | .one c=>c.allI Q
 | .agg cs=>∀ (j:Nat) (c:C),cs[j]? = some c->c.allI Q
def S.allI (Q:I->Prop):S->Prop
 | .v x=>x.allI Q
 | .tup xs=>∀ (j:Nat) (x:V),xs[j]? = some x->x.allI Q
 | .dead=>True
theorem C.allI_mono {Q R:I->Prop} (h:∀ y,Q y->R y) {c:C} (hc:c.allI Q):c.allI R:=by
 cases c with
 | i x=>exact h x hc
 | hs=>trivial
 | hp=>trivial
theorem C.allI_true {c:C}:c.allI (fun _=>True):=by cases c <;> trivial
theorem V.allI_true {x:V}:x.allI (fun _=>True):=by cases x with | one=>exact C.allI_true | agg=>exact fun _ _ _=>C.allI_true
theorem S.allI_true {x:S}:x.allI (fun _=>True):=by cases x with | v=>exact V.allI_true | tup=>exact fun _ _ _=>V.allI_true | dead=>trivial
section
variable {w:World} {E E':Env} {σ:Nat->Nat} {p:Nat->Bool} {Q:I->Prop}
theorem Rc.ren (kI:∀ v y,Ri w E v y->Q y->Ri w E' v y) (hβ:∀ k,p k = true->E'.β (σ k) = E.β k) {v:Value} {c:C} (ho:c.okH p = true) (hq:c.allI Q) (h:Rc w E v c):Rc w E' v (c.ren σ):=by
 cases h with
 | i h=>exact .i (kI _ _ h hq)
 | hs h off len g sz cap ad hb hle had=>exact .hs (σ h) off len g sz cap ad ((hβ h ho).trans hb) hle had
 | hp h row col g sz cap hb=>exact .hp (σ h) row col g sz cap ((hβ h ho).trans hb)
theorem Rv.ren (kI:∀ v y,Ri w E v y->Q y->Ri w E' v y) (hβ:∀ k,p k = true->E'.β (σ k) = E.β k) {v:Value} {x:V} (ho:x.okH p = true) (hq:x.allI Q) (h:Rv w E v x):Rv w E' v (x.ren σ):=by
 cases h with
 | one h=>exact .one (h.ren kI hβ ho hq)
 | @agg vs cs h =>
  refine .agg ⟨by simp [h.1],fun j v c hv hc=>?_⟩
  rw [QL,QB] at hc;obtain ⟨c0,hc0,rfl⟩:=hc;exact (h.2 j v c0 hv hc0).ren kI hβ (Ep ho hc0) (hq j c0 hc0)
theorem Rs.ren (kI:∀ v y,Ri w E v y->Q y->Ri w E' v y) (hβ:∀ k,p k = true->E'.β (σ k) = E.β k) {v:Value} {x:S} (ho:x.okH p = true) (hq:x.allI Q) (h:Rs w E v x):Rs w E' v (x.ren σ):=by
 cases h with
 | v h=>exact .v (h.ren kI hβ ho hq)
 | @tup vs xs h =>
  refine .tup ⟨by simp [h.1],fun j v c hv hc=>?_⟩
  rw [QL,QB] at hc;obtain ⟨c0,hc0,rfl⟩:=hc;exact (h.2 j v c0 hv hc0).ren kI hβ (Ep ho hc0) (hq j c0 hc0)
 | dead=>exact .dead
end
def Env.give (E:Env) (bor:List Nat) (bs:List (Nat × Box)) (σ:Nat->Nat) (π:Nat->Option Nat:=fun _=>none):Env :=
 { A:=fun b=>E.A b /\ ¬ Ou E bor b,τ:=E.τ,β:=fun k=>if (A0 k bs).isSome then E.β (σ k) else none,
   ω:=fun g=>(E.ω g).bind fun h=>(π h).bind fun k=>if (A0 k bs).isSome then some k else none }
def Oy (hd:Nat->Nat->Bool) (bx:Nat->Option Box) (c a:C):Option (List Prop × List Nat) :=
 match c,a with
 | .hs h o l,.hs k o' l'=>bif hd k h then some ([o = o',l = l'],[]) else none
 | .hp h r c,.hp k r' c'=>bif hd k h then some ([r = r',c = c'],[]) else none
 | c,a=>Gm bx (.v (.one c)) (.one a)
def Ls (hd:Nat->Nat->Bool) (bx:Nat->Option Box):List C->List C->Option (List Prop × List Nat)
 | [],[]=>some ([],[])
 | c :: cs,a :: as=>match Oy hd bx c a,Ls hd bx cs as with
  | some (p,h),some (ps,hs)=>some (p ++ ps,h ++ hs)
  | _,_=>none
 | _,_=>none
def A3e (hd:Nat->Nat->Bool) (bx:Nat->Option Box) (im:Bool) (x:S) (a:V):Option (List Prop × List Nat) :=
 bif im then Tn bx x a else match x,a with
 | .v (.one c),.one a=>Oy hd bx c a
 | .v (.agg cs),.agg as=>Ls hd bx cs as
 | _,_=>none
def He (hd:Nat->Nat->Bool) (bx:Nat->Option Box):List Bool->List S->List V->Option (List Prop × List Nat)
 | [],[],[]=>some ([],[])
 | i :: is,x :: xs,a :: as=>match A3e hd bx i x a,He hd bx is xs as with
  | some (p,h),some (ps,hs)=>some (p ++ ps,h ++ hs)
  | _,_=>none
 | _,_,_=>none
theorem A3d {bx:Nat->Option Box} {x:S} {a:V} {q:List Prop × List Nat} (h:Gm bx x a = some q):a.noH = true:=by
 unfold Gm at h;split at h
 . split at h
   . rfl
   . cases h
 . rename_i y _
   cases hc:(y.noH && a.noH) with
   | false=>rw [hc] at h;cases h
   | true=>exact (QE _ _ ▸ hc).2
 . cases h
theorem A42 {bx:Nat->Option Box}:∀ {cs as:List C} {q:List Prop × List Nat},Cr bx cs as = some q->as.all By = true
 | [],[],_,_=>rfl
 | [],_ :: _,_,h=>by simp [Cr] at h
 | _ :: _,[],_,h=>by simp [Cr] at h
 | c :: cs,a :: as,q,h=>by
  simp only [Cr] at h;split at h
  . rename_i h1 h2;have e1:=A3d h1;have e2:=A42 h2;simp only [XZ,e2,XM];exact e1
  . cases h
theorem Azx {bx:Nat->Option Box} {x:S} {a:V} {q:List Prop × List Nat} (h:Tn bx x a = some q):a.noH = true:=by
 unfold Tn at h;split at h
 . rename_i q' hq;exact A3d hq
 . split at h
   . exact A42 h
   . cases h
section
variable {Γ:Ctx} {w:World} {E:Env} {s:St} {tmps:Array Value} {bor:List Nat} {bs:List (Nat × Box)} {σ:Nat->Nat} {hd:Nat->Nat->Bool} {π:Nat->Option Nat}
theorem Ab8 (hs:A6 Γ w E s tmps) (hhd:∀ k h,hd k h = true->σ k = h /\ (A0 k bs).isSome = true) {v:Value} {c a:C} {obs:List Prop} {hh:List Nat}
  (hv:Rc w E v c) (h:Oy hd (A0 · s.boxes) c a = some (obs,hh)) (ho:∀ p ∈ obs,p) (hb:∀ k ∈ hh,k ∈ bor):Rc w (E.give bor bs σ π) v a:=by
 have dflt:Gm (A0 · s.boxes) (.v (.one c)) (.one a) = some (obs,hh)->Rc w (E.give bor bs σ π) v a:=by
  intro h;have r:=A3c hs (bor:=bor) (x:=.v (.one c)) (a:=.one a) (.v (.one hv)) h ho hb;have:=Rv.noH (E:=E.lend bor) (E':=E.give bor bs σ π) rfl rfl (A3d h) r
  cases this with | one h=>exact h
 unfold Oy at h;split at h
 . rename_i h0 o l k o' l'
   cases hc:hd k h0 with
   | false=>rw [hc] at h;cases h
   | true =>
    rw [hc] at h;simp only [cond,QD,QG] at h;obtain ⟨rfl,rfl⟩:=h;obtain ⟨e1,e2⟩:=hhd k h0 hc
    have p1:o = o':=ho _ (by simp)
    have p2:l = l':=ho _ (by simp)
    subst p1;subst p2
    cases hv with
    | hs _ _ _ g sz cap ad hβ hle had=>exact .hs k o l g sz cap ad (by show (if _ then _ else _) = _;rw [QK e2,e1];exact hβ) hle had
 . rename_i h0 o l k o' l'
   cases hc:hd k h0 with
   | false=>rw [hc] at h;cases h
   | true =>
    rw [hc] at h;simp only [cond,QD,QG] at h;obtain ⟨rfl,rfl⟩:=h;obtain ⟨e1,e2⟩:=hhd k h0 hc
    have p1:o = o':=ho _ (by simp)
    have p2:l = l':=ho _ (by simp)
    subst p1;subst p2
    cases hv with
    | hp _ _ _ g sz cap hβ=>exact .hp k o l g sz cap (by show (if _ then _ else _) = _;rw [QK e2,e1];exact hβ)
 . exact dflt h
theorem A61 (hs:A6 Γ w E s tmps) (hhd:∀ k h,hd k h = true->σ k = h /\ (A0 k bs).isSome = true):∀ {vs:List Value} {cs as:List C} {obs:List Prop} {hh:List Nat},
  Dz w E vs cs->Ls hd (A0 · s.boxes) cs as = some (obs,hh)->(∀ p ∈ obs,p)->(∀ k ∈ hh,k ∈ bor)->Dz w (E.give bor bs σ π) vs as
 | vs,[],[],_,_,hv,_,_,_=>⟨hv.1,fun j v c _ hc=>by simp at hc⟩
 | _,[],_ :: _,_,_,_,h,_,_=>by simp [Ls] at h
 | _,_ :: _,[],_,_,_,h,_,_=>by simp [Ls] at h
 | [],c :: cs,a :: as,_,_,hv,_,_,_=>by have:=hv.1;simp at this
 | v :: vs,c :: cs,a :: as,obs,hh,hv,h,ho,hb=>by
  simp only [Ls] at h;split at h
  . rename_i p k ps ks h1 h2;simp only [QD,QG] at h;obtain ⟨rfl,rfl⟩:=h;have r1:=Ab8 (π:=π) hs hhd (bor:=bor) (hv.2 0 v c rfl rfl) h1 (fun q hq=>ho q (QF.2 (.inl hq))) (fun q hq=>hb q (QF.2 (.inl hq)))
    have r2:=A61 hs hhd (vs:=vs) (cs:=cs) ⟨by simpa using hv.1,fun j v' c' h1 h2=>hv.2 (j + 1) v' c' (by simpa using h1) (by simpa using h2)⟩ h2 (fun q hq=>ho q (QF.2 (.inr hq))) (fun q hq=>hb q (QF.2 (.inr hq)))
    refine ⟨by simp [r2.1],fun j v' x' hv' hx'=>?_⟩
    cases j with
    | zero=>simp at hv' hx';subst hv';subst hx';exact r1
    | succ j=>exact r2.2 j v' x' (by simpa using hv') (by simpa using hx')
  . cases h
theorem Aw6 (hs:A6 Γ w E s tmps) (hhd:∀ k h,hd k h = true->σ k = h /\ (A0 k bs).isSome = true) {v:Value} {x:S} {a:V} {obs:List Prop} {hh:List Nat}
  {im:Bool} (hv:Rs w E v x) (h:A3e hd (A0 · s.boxes) im x a = some (obs,hh)) (ho:∀ p ∈ obs,p) (hb:∀ k ∈ hh,k ∈ bor):Rv w (E.give bor bs σ π) v a:=by
 unfold A3e at h
 cases im with
 | true=>exact Rv.noH (E:=E.lend bor) (E':=E.give bor bs σ π) rfl rfl (Azx h) (Ab7 hs hv h ho hb)
 | false =>
 simp only [cond] at h;split at h
 . cases hv with | v hv=>cases hv with | one hv=>exact .one (Ab8 hs hhd hv h ho hb)
 . cases hv with | v hv=>cases hv with | agg hv=>exact .agg (A61 hs hhd hv h ho hb)
 . cases h
theorem A60 (hs:A6 Γ w E s tmps) (hhd:∀ k h,hd k h = true->σ k = h /\ (A0 k bs).isSome = true):∀ (is:List Bool) (xs:List S) (as:List V) (vs:List Value) (obs:List Prop) (hh:List Nat),vs.length = xs.length ->
  (∀ (j:Nat) v x,vs[j]? = some v->xs[j]? = some x->Rs w E v x)->He hd (A0 · s.boxes) is xs as = some (obs,hh)->(∀ p ∈ obs,p)->(∀ k ∈ hh,k ∈ bor)->Kx w (E.give bor bs σ π) vs as
 | [],[],[],vs,obs,hh,hl,_,_,_,_=>⟨by simpa using hl,fun j v x _ hx=>by simp at hx⟩
 | i :: is,x :: xs,a :: as,[],_,_,hl,_,_,_,_=>by simp at hl
 | i :: is,x :: xs,a :: as,v :: vs,obs,hh,hl,hv,h,ho,hb=>by
  simp only [He] at h;split at h
  . rename_i p k ps ks h1 h2;simp only [QD,QG] at h;obtain ⟨rfl,rfl⟩:=h;have r1:=Aw6 (π:=π) (bor:=bor) hs hhd (hv 0 v x rfl rfl) h1 (fun q hq=>ho q (QF.2 (.inl hq))) (fun q hq=>hb q (QF.2 (.inl hq)))
    have r2:=A60 hs hhd is xs as vs ps ks (by simpa using hl) (fun j v x hv' hx'=>hv (j + 1) v x (by simpa using hv') (by simpa using hx')) h2 (fun q hq=>ho q (QF.2 (.inr hq))) (fun q hq=>hb q (QF.2 (.inr hq)))
    refine ⟨by simp [r2.1],fun j v' x' hv' hx'=>?_⟩
    cases j with
    | zero=>simp at hv' hx';subst hv';subst hx';exact r1
    | succ j=>exact r2.2 j v' x' (by simpa using hv') (by simpa using hx')
  . cases h
 | [],[],_ :: _,_,_,_,_,_,h,_,_=>by simp [He] at h
 | [],_ :: _,_,_,_,_,_,_,h,_,_=>by simp [He] at h
 | _ :: _,[],_,_,_,_,_,_,h,_,_=>by simp [He] at h
 | _ :: _,_ :: _,[],_,_,_,_,_,h,_,_=>by simp [He] at h
end
theorem C.okH_true {p:Nat->Bool} (hp:∀ h,p h = true) (c:C):c.okH p = true:=by cases c <;> first | rfl | exact hp _
theorem V.okH_true {p:Nat->Bool} (hp:∀ h,p h = true) (x:V):x.okH p = true:=by
 cases x with
 | one c=>exact C.okH_true hp c
 | agg cs=>exact QM.2 fun c _=>C.okH_true hp c
theorem S.okH_true {p:Nat->Bool} (hp:∀ h,p h = true) (x:S):x.okH p = true:=by
 cases x with
 | v x=>exact V.okH_true hp x
 | tup xs=>exact QM.2 fun x _=>V.okH_true hp x
 | dead=>rfl
structure Jy (p:Nat->Bool) (w w':World) (E E':Env):Prop where
 size:w.heap.size <= w'.heap.size
 blk:∀ tag g,g < w.heap.size->E.blk tag g->E'.blk tag g
 β:∀ h x,p h = true->E.β h = some x->E'.β h = some x
 cell:∀ tag g o v,E.blk tag g->w.cell? ⟨g,o,none⟩ = some v->w'.cell? ⟨g,o,none⟩ = some v
theorem Rc.keepOn {p:Nat->Bool} {w w':World} {E E':Env} (k:Jy p w w' E E') {v:Value} {x:C} (ho:x.okH p = true) (h:Rc w E v x):Rc w' E' v x:=by
 cases h with
 | i h=>exact .i (h.keepI k.size k.blk k.cell)
 | hs h off len g sz cap ad hβ hle had=>exact .hs h off len g sz cap ad (k.β _ _ ho hβ) hle had
 | hp h row col g sz cap hβ=>exact .hp h row col g sz cap (k.β _ _ ho hβ)
theorem Rv.keepOn {p:Nat->Bool} {w w':World} {E E':Env} (k:Jy p w w' E E') {v:Value} {x:V} (ho:x.okH p = true) (h:Rv w E v x):Rv w' E' v x:=by
 cases h with
 | one h=>exact .one (h.keepOn k ho)
 | agg h=>exact .agg ⟨h.1,fun j v c hv hc=>(h.2 j v c hv hc).keepOn k (Ep ho hc)⟩
theorem Rs.keepOn {p:Nat->Bool} {w w':World} {E E':Env} (k:Jy p w w' E E') {v:Value} {x:S} (ho:x.okH p = true) (h:Rs w E v x):Rs w' E' v x:=by
 cases h with
 | v h=>exact .v (h.keepOn k ho)
 | tup h=>exact .tup ⟨h.1,fun j v c hv hc=>(h.2 j v c hv hc).keepOn k (Ep ho hc)⟩
 | dead=>exact .dead
theorem Jy.rd {p:Nat->Bool} {w w':World} {E E':Env} (k:Jy p w w' E E') (h:Nat) (tr:Bool) (ho:∀ b,E.ω b = some h->E'.ω b = some h /\ w'.heap[b]? = w.heap[b]?):Jy p w w' (E.rd h tr) (E'.rd h tr):=by
 cases tr with
 | false=>exact k
 | true =>
  have hb0:∀ tag g,(E.rd h true).blk tag g->E.blk tag g \/ (tag = 0 /\ E.ω g = some h):=by
   intro tag g hb;unfold Env.blk at hb ⊢;by_cases e:tag = 0
   . rw [QK e] at hb ⊢;by_cases hA:E.A g
     . refine .inr ⟨e,?_⟩;exact Classical.byContradiction fun hn=>hb ⟨hA,hn⟩
     . exact .inl hA
   . rw [QH e] at hb ⊢;exact .inl hb
  refine ⟨k.size,fun tag g hg hb=>?_,k.β,fun tag g o v hb hc=>?_⟩
  . rcases hb0 tag g hb with h1 | ⟨e,h1⟩
    . have h2:=k.blk tag g hg h1;unfold Env.blk at h2 ⊢;by_cases e:tag = 0
      . rw [QK e] at h2 ⊢;exact fun h3=>h2 h3.1
      . rw [QH e] at h2 ⊢;exact h2
    . unfold Env.blk;rw [QK e];exact fun h3=>h3.2 (ho g h1).1
  . rcases hb0 tag g hb with h1 | ⟨_,h1⟩
    . exact k.cell tag g o v h1 hc
    . rw [World.cell?_of_block (a:=⟨g,o,none⟩) (ho g h1).2];exact hc
def Tr (y:I):Prop:=(∃ v,y = .lit v) \/ ∃ nl sz rows,y = .sl 0 nl sz rows /\ ∀ (i:Nat) (r:List I) (j:Nat) (c:I),rows[i]? = some r->r[j]? = some c->∃ v,c = .lit v
theorem Ri.flat {w:World} {E E':Env} {v:Value} {y:I} (h:Ri w E v y) (hy:Tr y) (hb:∀ a len cap,v = .slice (some a) len cap->0 < len->E'.blk 0 a.block):Ri w E' v y:=by
 cases h with
 | lit v h=>exact .lit v h
 | nil tag sz cap a nl hn hc=>exact .nil tag sz cap a nl hn hc
 | sl tag sz g o cap rows vs hne hcap hg hbk hlen hcell hrc =>
  rcases hy with ⟨_,hy⟩ | ⟨nl,sz',rows',hy,hl⟩
  . cases hy
  . obtain ⟨rfl,rfl,rfl,rfl⟩:=I.sl.inj hy;refine .sl 0 sz g o cap rows vs hne hcap hg (hb _ _ _ rfl (XC.2 hne)) hlen hcell (fun i r j c hi hj=>?_);obtain ⟨u,rfl⟩:=hl i r j c hi hj;have:=hrc i r j _ hi hj;generalize vs i j = z at this ⊢
    cases this with | lit _ h=>exact .lit _ h
 | ref=>rcases hy with ⟨_,hy⟩ | ⟨_,_,_,hy,_⟩ <;> cases hy
 | fn=>rcases hy with ⟨_,hy⟩ | ⟨_,_,_,hy,_⟩ <;> cases hy
 | any=>rcases hy with ⟨_,hy⟩ | ⟨_,_,_,hy,_⟩ <;> cases hy
theorem Aj3 {Γ:Ctx} {w:World} {E:Env} {s s':St} {tmps:Array Value} (hs:A6 Γ w E s tmps) {f:FuncId} {as:List V} {vs:List Value} {r:S} {nt':Nat} {bor:List Nat} {bs bs':List (Nat × Box)} (σ:Nat->Nat) (π:Nat->Option Nat) (mv:List Nat) (gone:Nat->Bool)
  (hg1:∀ k,(A0 k bs).isSome = true->mv.contains k = true->gone (σ k) = true) (hg2:∀ h,gone h = true->h < 1000 \/ Γ.K.mv.contains h = true)
  (hg3:∀ t x,A0 t s.slots = some x->x.okH (fun h=>!gone h) = true) (hg4:∀ h b,A0 h s.boxes = some b->b.hf = true \/ ∀ (i:Nat) (q:List C) (j:Nat) (c:C),b.rows[i]? = some q->q[j]? = some c->c.okH (fun h=>!gone h) = true)
  (hd:Ix P f s.nt mv bs as r nt' bs') (hv:Kx w (E.give bor bs σ π) vs as)
  (hπ1:∀ k,(A0 k bs').isSome = true->π (σ k) = some k) (hπ2:∀ h k,π h = some k->σ k = h /\ (A0 k bs').isSome = true)
  (hi:∀ k b,A0 k bs = some b->1000 <= k /\ A0 (σ k) s.boxes = some b /\ b.fz = false /\ b.hf = true /\ σ k ∉ bor /\ (A0 k bs').isSome = true)
  (ho:∀ k b,A0 k bs' = some b->b.hf = true /\ (A0 k bs = none->A0 (σ k) s.boxes = none /\ σ k < 1000))
  (hcl:bor = [] \/ (r.allI IClosed /\ ∀ k b,A0 k bs' = some b->∀ (i:Nat) (q:List C) (j:Nat) (c:C),b.rows[i]? = some q->q[j]? = some c->c.allI fun y=>IClosed y \/ (b.tr = true /\ Tr y)))
  (hr:r.okH (fun k=>(A0 k bs').isSome) = true) (hfz:∀ h ∈ bor,∃ b,A0 h s.boxes = some b /\ b.fz = false)
  (hs1:∀ h,A0 h s'.boxes = match π h with | some k=>A0 k bs' | none=>A0 h s.boxes) (hs2:∀ t x,A0 t s'.slots = some x->x = .dead \/ A0 t s.slots = some x) (hs3:s'.nt = nt') :
  Calls P f vs.toArray w (fun e w'=>∃ v E',e = .returned v /\ Rs w' E' v (r.ren σ) /\ A6 Γ w' E' s' tmps):=by
 have lentA:∀ g,Ou E bor g->E.A g /\ g < w.heap.size /\ ∀ t,E.τ t ≠ some g:=by
  rintro g ⟨h,hh,hz⟩
  obtain ⟨b,hb,hf⟩:=hfz h hh;rcases hz with ⟨z,hz⟩ | hz
  . obtain ⟨_,_,_,ha,hA,hT,_⟩:=(hs.boxes h b hb).facts hz;exact ⟨hA hf,(ZI.1 ha).1,hT⟩
  . obtain ⟨h1,h2,_⟩:=hs.wf.om g h hz;exact ⟨h1,hs.wf.alt g h1,h2⟩
 let E1:=E.give bor bs σ π
 have ω1:∀ g k,E1.ω g = some k ↔ E.ω g = some (σ k) /\ (A0 k bs).isSome = true:=by
  intro g k
  show ((E.ω g).bind fun h=>(π h).bind fun k=>if (A0 k bs).isSome then some k else none) = some k ↔ _
  constructor
  . intro h;obtain ⟨h0,e1,h⟩:=YL.1 h;obtain ⟨k0,e2,h⟩:=YL.1 h;split at h
    . rename_i e3;obtain rfl:=QA h;rw [(hπ2 h0 k0 e2).1];exact ⟨e1,e3⟩
    . cases h
  . rintro ⟨e1,e2⟩
    obtain ⟨b,hb⟩:=ZC.1 e2;rw [e1,YA,hπ1 k (hi k b hb).2.2.2.2.2,YA,QK e2]
 have E1β:∀ k b,A0 k bs = some b->E1.β k = E.β (σ k):=fun k b hb=>by
  show (if _ then _ else _) = _
  rw [QK (by rw [hb];rfl)]
 have notlent:∀ k b g z,A0 k bs = some b->E.β (σ k) = some (g,z)->¬ Ou E bor g:=by
  rintro k b g z hb hz ⟨h,hh,hz'⟩
  obtain ⟨_,h2,_,_,h5,_⟩:=hi k b hb;obtain ⟨b',hb',_⟩:=hfz h hh;rcases hz' with ⟨z',hz'⟩ | hz'
  . exact hs.inj h (σ k) b' b g g z' z hb' h2 hz' hz (fun e=>h5 (e ▸ hh)) rfl
  . obtain ⟨_,_,_,_,_,_,hω⟩:=(hs.boxes _ _ h2).facts hz;rw [hω] at hz';cases hz'
 have notlentω:∀ k b g,A0 k bs = some b->E.ω g = some (σ k)->¬ Ou E bor g:=by
  rintro k b g hb hz ⟨h,hh,hz'⟩
  obtain ⟨_,h2,_,_,h5,_⟩:=hi k b hb;obtain ⟨b',hb',_⟩:=hfz h hh;rcases hz' with ⟨z',hz'⟩ | hz'
  . obtain ⟨_,_,_,_,_,_,hω⟩:=(hs.boxes h b' hb').facts hz';rw [hω] at hz;cases hz
  . rw [hz] at hz';exact h5 (QA hz' ▸ hh)
 have hin:FIn w E1 s.nt bs:=by
  refine ⟨⟨fun b hb=>hs.wf.alt b hb.1,fun t g ht=>?_,hs.wf.inj,fun g k hk=>?_⟩,fun k b hb=>?_,fun k k' b b' g g' z z' hb hb' hz hz' hk=>?_,fun k x hx=>?_,fun g k hk=>((ω1 g k).1 hk).2⟩
  . obtain ⟨h1,h2,h3⟩:=hs.wf.tag t g ht;exact ⟨h1,h2,h3,fun hl=>(lentA g hl).2.2 t ht⟩
  . obtain ⟨e1,e2⟩:=(ω1 g k).1 hk;obtain ⟨b,hb⟩:=ZC.1 e2;obtain ⟨h1,h2,h3⟩:=hs.wf.om g _ e1;exact ⟨⟨h1,notlentω k b g hb e1⟩,h2,h3⟩
  . obtain ⟨h1,h2,h3,h4,h5,_⟩:=hi k b hb;obtain ⟨g,cap,hβ,hat,hω,hS⟩:=hs.boxes _ _ h2;have hnl:=notlent k b g _ hb hβ
    have hω':E1.ω g = none:=by
     cases e:E1.ω g with
     | none=>rfl
     | some k'=>have:=((ω1 g k').1 e).1;rw [hω] at this;cases this
    refine ⟨⟨g,cap,(E1β k b hb).trans hβ,hat.keep rfl (fun i q j c v hq hc hrc=>?_) (fun hA=>(Env.rd_A hω').2 ⟨(Env.rd_A hω).1 hA,hnl⟩) ?_,hω',fun e=>?_⟩,h3,h1⟩
    rotate_left 2
    . refine ⟨fun i r j y len cap a h1 h2 h3 h4 h5=>(ω1 _ _).2 ⟨(hS e).1 i r j y len cap a h1 h2 h3 h4 h5,by rw [hb];rfl⟩,(hS e).2⟩
    . obtain ⟨_,_,_,_,_,_,_,hhf,_,_⟩:=hat;obtain ⟨x,rfl⟩:=hhf h4 i q j c hq hc
      cases hrc with
      | i hri =>
       refine .i (hri.keepI (QY _) (fun tag g _ hb'=>?_) (fun _ _ _ _ _ h=>h));unfold Env.blk at hb' ⊢;split
       . rename_i e;rw [QK e] at hb'
         cases htr:b.tr with
         | false=>rw [htr] at hb';exact fun h=>hb' h.1
         | true =>
          rw [htr] at hb'
          exact fun h=>hb' ⟨h.1.1,fun h4=>h.2 ((ω1 _ _).2 ⟨h4,by rw [hb];rfl⟩)⟩
       . rename_i e;rw [QH e,Env.rd_τ] at hb';rw [Env.rd_τ];exact hb'
    . obtain ⟨_,_,_,_,_,_,_,_,_,hT⟩:=hat;rw [Env.rd_τ] at hT ⊢;exact hT
  . rw [E1β k b hb] at hz;rw [E1β k' b' hb'] at hz';have e1:=hi k b hb;have e2:=hi k' b' hb';refine hs.inj _ _ b b' g g' z z' e1.2.1 e2.2.1 hz hz' fun e=>hk ?_;have h1:=hπ1 k e1.2.2.2.2.2;have h2:=hπ1 k' e2.2.2.2.2.2;rw [e,h2] at h1;exact (QA h1).symm
  . by_cases hk:(A0 k bs).isSome = true
    . exact hk
    . have:E1.β k = none:=by show (if _ then _ else _) = _;rw [QH hk]
      rw [this] at hx;cases hx
 refine Calls.mono' (hd.2 w E1 vs hin hv) ?_
 rintro e w' ⟨v,Ec,rfl,hrv,hout⟩
 let hand:Nat->Prop:=handed E1 bs
 have handOld:∀ g,hand g->∃ h b,A0 h s.boxes = some b /\ ((∃ z,E.β h = some (g,z)) \/ E.ω g = some h) /\ b.fz = false /\ ∃ k,σ k = h /\ (A0 k bs).isSome = true:=by
  rintro g ⟨k,b,hb,hz⟩
  obtain ⟨h1,h2,h3,_⟩:=hi k b hb
  refine ⟨σ k,b,h2,?_,h3,k,rfl,by rw [hb];rfl⟩
  rcases hz with ⟨z,hz⟩ | hz
  . rw [E1β k b hb] at hz;exact .inl ⟨z,hz⟩
  . exact .inr ((ω1 g k).1 hz).1
 have handA:∀ g,hand g->E.A g /\ g < w.heap.size /\ ∀ t,E.τ t ≠ some g:=by
  intro g hg;obtain ⟨h,b,hb,hz,hf,_⟩:=handOld g hg;rcases hz with ⟨z,hz⟩ | hz
  . obtain ⟨_,_,_,ha,hA,hT,_⟩:=(hs.boxes h b hb).facts hz;exact ⟨hA hf,(ZI.1 ha).1,hT⟩
  . obtain ⟨h1,h2,_⟩:=hs.wf.om g h hz;exact ⟨h1,hs.wf.alt g h1,h2⟩
 have hblock:∀ b,b < w.heap.size->¬ hand b->w'.heap[b]? = w.heap[b]?:=fun b hb hn=>hout.fr.block b hb hn;have ht:Iu w w' hand:=⟨hout.fr.os,hout.fr.tape,hout.fr.output,hout.fr.size,hblock⟩
 let β':Nat->Option (Nat × Nat × Nat):=fun h=>match π h with | some k=>Ec.β k | none=>E.β h
 let ω':Nat->Option Nat:=fun g=>@ite _ (hand g \/ w.heap.size <= g) (Classical.propDecidable _) ((Ec.ω g).bind fun k=>if (A0 k bs').isSome then some (σ k) else none) (E.ω g)
 let E':Env:=⟨fun b=>Ec.A b \/ Ou E bor b,Ec.τ,β',ω'⟩
 have E'k:∀ k,(A0 k bs').isSome = true->E'.β (σ k) = Ec.β k:=fun k hk=>by
  show (match π (σ k) with | some k=>Ec.β k | none=>E.β (σ k)) = _
  rw [hπ1 k hk]
 have E'o:∀ h,π h = none->E'.β h = E.β h:=fun h hh=>by
  show (match π h with | some k=>Ec.β k | none=>E.β h) = _
  rw [hh]
 have ωnew:∀ g,hand g \/ w.heap.size <= g->E'.ω g = (Ec.ω g).bind fun k=>if (A0 k bs').isSome then some (σ k) else none:=fun g hg=>QK hg
 have ωold:∀ g,¬ (hand g \/ w.heap.size <= g)->E'.ω g = E.ω g:=fun g hg=>QH hg
 have ωk:∀ g k,(A0 k bs').isSome = true->Ec.ω g = some k->E'.ω g = some (σ k):=by
  intro g k hk hg;have:hand g \/ w.heap.size <= g:=(hout.tow g k hg).symm;rw [ωnew g this,hg,YA,QK hk]
 have ωinv:∀ g h,E'.ω g = some h->(∃ k,(A0 k bs').isSome = true /\ σ k = h /\ Ec.ω g = some k /\ (hand g \/ w.heap.size <= g)) \/ (E.ω g = some h /\ ¬ hand g /\ g < w.heap.size):=by
  intro g h hg;by_cases hp:hand g \/ w.heap.size <= g
  . rw [ωnew g hp] at hg;obtain ⟨k,e1,e2⟩:=YL.1 hg;split at e2
    . rename_i e3;exact .inl ⟨k,e3,QA e2,e1,hp⟩
    . cases e2
  . rw [ωold g hp] at hg;exact .inr ⟨hg,fun h=>hp (.inl h),Nat.lt_of_not_le fun h=>hp (.inr h)⟩
 have hAold:∀ b,b < w.heap.size->(E'.A b ↔ E.A b):=by
  intro b hb;have:=hout.old b hb;constructor
  . rintro (h' | h')
    . exact (this.1 h').1
    . exact (lentA b h').1
  . intro h';by_cases hlb:Ou E bor b
    . exact .inr hlb
    . exact .inl (this.2 ⟨h',hlb⟩)
 have stays:∀ k b,A0 k bs = some b->mv.contains k = false->Ec.β k = E.β (σ k):=fun k b hb hm=>(hout.stay k b hb hm).1.trans (E1β k b hb)
 have kk:Jy (fun h=>!gone h) w w' E E':=by
  refine ⟨ht.size,fun tag g hg hb=>?_,fun h x hng hx=>?_,fun tag g o v hb hc=>ht.cell hc (fun hh=>?_)⟩
  . unfold Env.blk at hb ⊢;split
    . rename_i e;rw [QK e] at hb;exact fun h'=>hb ((hAold g hg).1 h')
    . rename_i e;rw [QH e] at hb;exact (hout.tag tag (hs.wf.tag tag g hb).1).trans hb
  . cases hp:π h with
    | none=>rw [E'o h hp];exact hx
    | some k =>
     obtain ⟨e1,e2⟩:=hπ2 h k hp;subst e1;rw [E'k k e2]
     cases hb:A0 k bs with
     | some b =>
      have hm:mv.contains k = false:=by
       cases hm:mv.contains k with
       | false=>rfl
       | true=>simp only [hg1 k (by rw [hb];rfl) hm,ZO] at hng;cases hng
      rw [stays k b hb hm];exact hx
     | none =>
      obtain ⟨b',hb'⟩:=ZC.1 e2;have:=((ho k b' hb').2 hb).1;have hd':=hs.dom _ _ hx;rw [this] at hd';cases hd'
  . have:=handA g hh;unfold Env.blk at hb;split at hb
    . exact hb this.1
    . exact this.2.2 _ hb
 have tagfr:∀ g,g < w.heap.size->(∀ t,E.τ t ≠ some g)->∀ t,E'.τ t ≠ some g:=by
  intro g hg hT t ht';by_cases hlt:t < s.nt
  . exact hT t ((hout.tag t hlt).symm.trans ht')
  . have:=hout.new t g (by omega) ht'
    omega
 have kI:∀ (Q:I->Prop),(bor = [] \/ ∀ y,Q y->IClosed y)->∀ v y,Ri w' Ec v y->Q y->Ri w' E' v y:=by
  intro Q hQ v y hy hq;rcases hQ with hQ | hQ
  . have hA0 : E'.A = Ec.A := by
     funext b
     exact propext ⟨fun h=>h.elim id (fun ⟨_,hh,_⟩=>by rw [hQ] at hh;cases hh),fun h=>.inl h⟩
    refine hy.keepI (QY _) (fun tag g _ hb=>?_) (fun _ _ _ _ _ h=>h);unfold Env.blk at hb ⊢;rw [hA0];exact hb
  . exact Ri.closed (E:=Ec) (E':=E') rfl hy (hQ y hq)
 have kB:∀ k b g cap,A0 k bs' = some b->C0 w' (Ec.rd k b.tr) b g cap->(b.tr = true->Sep w' Ec k b g)->∀ (i:Nat) (q:List C) (j:Nat) (y:I) v,b.rows[i]? = some q->q[j]? = some (.i y)->w'.cell? ⟨g,i * b.sz + j,none⟩ = some v->Ri w' (Ec.rd k b.tr) v y->Ri w' (E'.rd (σ k) b.tr) v y:=by
  intro k b g cap hk hat hS i q j y v hq hc hcell hri
  have hks:(A0 k bs').isSome = true:=by rw [hk];rfl
  rcases hcl with hb0 | ⟨_,hc0⟩
  . cases htr:b.tr with
    | false =>
     rw [htr] at hri;exact kI (fun _=>True) (.inl hb0) _ _ hri trivial
    | true =>
     rw [htr] at hri
     have hA0:E'.A = Ec.A:=by
      funext b
      exact propext ⟨fun h=>h.elim id (fun ⟨_,hh,_⟩=>by rw [hb0] at hh;cases hh),fun h=>.inl h⟩
     refine hri.keepI (QY _) (fun tag g' _ hb=>?_) (fun _ _ _ _ _ h=>h);unfold Env.blk at hb ⊢;split
     . rename_i e;rw [QK e] at hb
       rintro ⟨h1,h2⟩
       rw [hA0] at h1;exact hb ⟨h1,fun h3=>h2 (ωk g' k hks h3)⟩
     . rename_i e;rw [QH e] at hb;exact hb
  . have hc1:=hc0 k b hk i q j _ hq hc;have hc1:IClosed y \/ (b.tr = true /\ Tr y):=hc1;rcases hc1 with hc1 | ⟨htr,hfl⟩
    . exact Ri.closed (E:=Ec.rd k b.tr) (E':=E'.rd (σ k) b.tr) (by rw [Env.rd_τ,Env.rd_τ]) hri hc1
    . have hfl':=hfl;rcases hfl with ⟨u,rfl⟩ | ⟨nl,sz',rows',rfl,_⟩
      . cases hri with | lit _ h=>exact .lit _ h
      refine hri.flat hfl' fun a len cap' hv hl=>?_;subst hv;have:=(hS htr).1 i q j _ len cap' a hq hc rfl hcell hl;rw [htr];unfold Env.blk;rw [QK rfl];exact fun h=>h.2 (ωk _ k hks this)
 have ownc:∀ k b g z,A0 k bs' = some b->Ec.β k = some (g,z)->w.heap.size <= g \/ ∃ b0,A0 k bs = some b0 /\ E.β (σ k) = some (g,z):=by
  intro k b g z hb hz;rcases hout.own k b g z hb hz with h | ⟨b0,h1,h2⟩
  . exact .inl h
  . rw [E1β k b0 h1] at h2;exact .inr ⟨b0,h1,h2⟩
 have getb:∀ h b,A0 h s'.boxes = some b->(∃ k,π h = some k /\ σ k = h /\ A0 k bs' = some b /\ E'.β h = Ec.β k) \/ (π h = none /\ A0 h s.boxes = some b /\ E'.β h = E.β h):=by
  intro h b hb;rw [hs1 h] at hb
  cases hp:π h with
  | none=>rw [hp] at hb;exact .inr ⟨rfl,hb,E'o h hp⟩
  | some k =>
   rw [hp] at hb;obtain ⟨e1,e2⟩:=hπ2 h k hp
   exact .inl ⟨k,rfl,e1,hb,by rw [<- e1];exact E'k k e2⟩
 refine ⟨v,E',rfl,?_,?_⟩
 . rcases hcl with hb | ⟨hc,_⟩
   . exact Rs.ren (Q:=fun _=>True) (kI _ (.inl hb)) (fun k hk=>E'k k hk) hr S.allI_true hrv
   . exact Rs.ren (Q:=IClosed) (kI _ (.inr fun _ h=>h)) (fun k hk=>E'k k hk) hr hc hrv
 . refine ⟨hs.fr.trans ht.os ht.tape ht.output ht.size (fun b hb hnp=>hblock b (ZT hb hs.fr.size) (fun hh=>?_)),⟨fun b hb=>?_,fun t g htg=>?_,hout.wf.inj,fun g h hg=>?_⟩,fun b hb=>?_,by rw [hs3];exact ZN hs.nt hout.ntle,fun t htn=>?_,fun t g htn htg=>?_,fun h b hb=>?_,fun h h' b b' g g' z z' hb hb' hz hz' hne=>?_,fun h b g z hb hz=>?_,fun t x hx=>?_,hs.tsize,fun h x hx=>?_,fun h hh hh2 hm=>?_,fun h b g z hb hβ hf hA=>?_,fun b o hb=>⟨(hs.held b o hb).1,(hblock b (ZI.1 (hs.held b o hb).2).1 (fun hh=>?_)).trans (hs.held b o hb).2⟩,fun g h hg=>?_⟩
   . obtain ⟨h,bx,h1,h2,_⟩:=handOld b hh;rcases h2 with ⟨z,h2⟩ | h2
     . rcases hs.own h bx b z h1 h2 with h' | h'
       . omega
       . exact hnp h'.1
     . rcases hs.tow b h h2 with h' | h'
       . omega
       . exact hnp h'
   . rcases hb with hb | hb
     . exact hout.wf.alt b hb
     . exact ZT (lentA b hb).2.1 ht.size
   . obtain ⟨h1,h2,h3⟩:=hout.wf.tag t g htg;rw [hs3];exact ⟨h1,h2,.inl h3⟩
   . rcases ωinv g h hg with ⟨k,e1,e2,e3,_⟩ | ⟨e1,e2,e3⟩
     . obtain ⟨h1,h2,h3⟩:=hout.wf.om g k e3;exact ⟨.inl h1,h2,h3⟩
     . obtain ⟨h1,h2,o,h3,h4⟩:=hs.wf.om g h e1;exact ⟨(hAold g e3).2 h1,tagfr g e3 h2,o,(hblock g e3 e2).trans h3,h4⟩
   . rw [hAold b (ZT hb hs.fr.size)];exact hs.old b hb
   . exact (hout.tag t (ZT htn hs.nt)).trans (hs.tag t htn)
   . by_cases hlt:t < s.nt
     . exact hs.new t g htn ((hout.tag t hlt).symm.trans htg)
     . exact ZN hs.fr.size (hout.new t g (by omega) htg)
   . rcases getb h b hb with ⟨k,hp,hσ,hk,hβ⟩ | ⟨hp,hk,hβ⟩
     . obtain ⟨g,cap,hβ',hat,hω,hS⟩:=(hout.boxes k b hk).1;have hat0:=hat
       have hω':E'.ω g = none:=by
        cases e:E'.ω g with
        | none=>rfl
        | some h0 =>
         rcases ωinv g h0 e with ⟨k',_,_,e3,_⟩ | ⟨_,e2,e3⟩
         . rw [hω] at e3;cases e3
         . rcases hout.own k b g _ hk hβ' with h4 | ⟨b0,h5,h6⟩
           . omega
           . exact absurd ⟨k,b0,h5,.inl ⟨_,h6⟩⟩ e2
       obtain ⟨arr,a1,a2,a3,a4,a5,a6,hhf,a8,a9⟩:=hat;rw [Env.rd_τ] at a9
       refine ⟨g,cap,hβ.trans hβ',⟨arr,a1,a2,a3,a4,a5,fun i q j c hq hc=>?_,hhf,fun e=>(Env.rd_A hω').2 (.inl ((Env.rd_A hω).1 (a8 e))),by rw [Env.rd_τ];exact a9⟩,hω',fun e=>?_⟩
       . obtain ⟨v,hv1,hrc⟩:=a6 i q j c hq hc;obtain ⟨x,rfl⟩:=hhf (ho k b hk).1 i q j c hq hc;refine ⟨v,hv1,?_⟩
         cases hrc with
         | i hri =>
          rw [<- hσ]
          exact .i (kB k b g cap hk hat0 hS i q j x v hq hc (by simp [World.cell?,a1,hv1]) hri)
       . refine ⟨fun i r j y len cap a h1 h2 h3 h4 h5=>?_,(hS e).2⟩;rw [<- hσ]
         exact ωk _ k (by rw [hk];rfl) ((hS e).1 i r j y len cap a h1 h2 h3 h4 h5)
     . obtain ⟨g,cap,hβ',hat,hω,hS⟩:=hs.boxes h b hk
       have hpn:∀ k,(A0 k bs).isSome = true->σ k ≠ h:=by
        intro k q4 e;obtain ⟨bb,hbb⟩:=ZC.1 q4;have:=hπ1 k (hi k bb hbb).2.2.2.2.2;rw [e,hp] at this
        cases this
       have hnω:∀ b',E.ω b' = some h->E'.ω b' = some h /\ w'.heap[b']? = w.heap[b']?:=by
        intro b' hb';have hlt:=hs.wf.alt b' (hs.wf.om b' h hb').1
        have hn:¬ hand b':=by
         intro hh;obtain ⟨h2,b2,q1,q2,_,k,q3,q4⟩:=handOld b' hh;rcases q2 with ⟨z,q2⟩ | q2
         . obtain ⟨_,_,_,_,_,_,hω2⟩:=(hs.boxes h2 b2 q1).facts q2;rw [hω2] at hb';cases hb'
         . rw [hb'] at q2;exact hpn k q4 (q3.trans (QA q2).symm)
        exact ⟨by rw [ωold b' (fun h'=>h'.elim hn fun h'=>by omega)];exact hb',hblock b' hlt hn⟩
       have hnh:¬ hand g:=by
        intro hh;obtain ⟨h2,b2,q1,q2,_,k,q3,q4⟩:=handOld g hh;rcases q2 with ⟨z2,q2⟩ | q2
        rotate_left
        . rw [hω] at q2;cases q2
        by_cases e:h = h2
        . obtain ⟨bb,hbb⟩:=ZC.1 q4;have:=hπ1 k (hi k bb hbb).2.2.2.2.2;rw [q3,<- e,hp] at this
          cases this
        . exact hs.inj h h2 b b2 g g _ z2 hk q1 hβ' q2 e rfl
       exact Es.keep hat hω hS (hβ.trans hβ') (hblock g hat.lt hnh) (fun i q j c v hq hc hr=>hr.keepOn (kk.rd h b.tr hnω) (by
        rcases hg4 h b hk with hh | hh
        . obtain ⟨_,_,_,_,_,_,_,hhf,_,_⟩:=hat;obtain ⟨x,rfl⟩:=hhf hh i q j c hq hc;rfl
        . exact hh i q j c hq hc)) (fun hA=>(hAold g hat.lt).2 hA) (tagfr g hat.lt (by obtain ⟨_,_,_,_,_,_,_,_,_,hT⟩:=hat;rw [Env.rd_τ] at hT;exact hT)) (fun b' hb'=>hnω b' hb') (by rw [ωold g (fun h'=>h'.elim hnh fun h'=>by have:=hat.lt;omega)];exact hω)
   . rcases getb h b hb with ⟨k,hp,hσ,hk,hβ⟩ | ⟨hp,hk,hβ⟩ <;> rcases getb h' b' hb' with ⟨k',hp',hσ',hk',hβ'⟩ | ⟨hp',hk',hβ'⟩
     . rw [hβ] at hz;rw [hβ'] at hz'
       exact hout.inj k k' b b' g g' z z' hk hk' hz hz' (fun e=>hne (by rw [<- hσ,<- hσ',e]))
     . rw [hβ] at hz;rw [hβ'] at hz';have hlt:=hs.lt hk' hz';rcases ownc k b g z hk hz with h1 | ⟨b0,h1,h2⟩
       . omega
       . exact hs.inj (σ k) h' b0 b' g g' z z' (hi k b0 h1).2.1 hk' h2 hz' (by rw [hσ];exact hne)
     . rw [hβ] at hz;rw [hβ'] at hz';have hlt:=hs.lt hk hz;rcases ownc k' b' g' z' hk' hz' with h1 | ⟨b0,h1,h2⟩
       . omega
       . exact hs.inj h (σ k') b b0 g g' z z' hk (hi k' b0 h1).2.1 hz h2 (by rw [hσ'];exact hne)
     . rw [hβ] at hz;rw [hβ'] at hz';exact hs.inj h h' b b' g g' z z' hk hk' hz hz' hne
   . rcases getb h b hb with ⟨k,hp,hσ,hk,hβ⟩ | ⟨hp,hk,hβ⟩
     . rw [hβ] at hz;rcases ownc k b g z hk hz with h1 | ⟨b0,h1,h2⟩
       . exact .inl (ZN hs.fr.size h1)
       . rcases hs.own (σ k) b0 g z (hi k b0 h1).2.1 h2 with h3 | h3
         . exact .inl h3
         . exact .inr ⟨h3.1,(hout.boxes k b hk).2,by rw [<- hσ];exact h3.2.2⟩
     . rw [hβ] at hz;exact hs.own h b g z hk hz
   . rcases hs2 t x hx with rfl | hx
     . exact .dead
     . exact (hs.slots t x hx).keepOn kk (hg3 t x hx)
   . rw [hs1 h]
     cases hp:π h with
     | none=>rw [E'o h hp] at hx;exact hs.dom h x hx
     | some k=>exact (hπ2 h k hp).2
   . cases hp:π h with
     | none=>rw [E'o h hp];exact hs.stay h hh hh2 hm
     | some k =>
      obtain ⟨e1,e2⟩:=hπ2 h k hp;rw [<- e1,E'k k e2]
      cases hb:A0 k bs with
      | some b =>
       have hm':mv.contains k = false:=by
        cases hm':mv.contains k with
        | false=>rfl
        | true =>
         rcases hg2 _ (hg1 k (by rw [hb];rfl) hm') with h1 | h1
         . omega
         . rw [e1,hm] at h1;cases h1
       rw [stays k b hb hm',e1];exact hs.stay h hh hh2 hm
      | none =>
       obtain ⟨b',hb'⟩:=ZC.1 e2;have:=((ho k b' hb').2 hb).2;omega
   . rcases getb h b hb with ⟨k,hp,hσ,hk,hβ'⟩ | ⟨hp,hk,hβ'⟩
     . rw [(hout.boxes k b hk).2] at hf;cases hf
     . rw [hβ'] at hβ;exact hs.fzn h b g z hk hβ hf ((hAold g (hs.lt hk hβ)).1 hA)
   . obtain ⟨h,bx,h1,h2,_⟩:=handOld b hh;obtain ⟨o1,o2⟩:=hs.held b o hb;rcases h2 with ⟨z,h2⟩ | h2
     . obtain ⟨_,_,_,ha,_⟩:=(hs.boxes h bx h1).facts h2;rw [ha] at o2;obtain rfl:=QA o2
       cases o1
     . obtain ⟨_,_,o',h3,h4⟩:=hs.wf.om b h h2;rw [h3] at o2;obtain rfl:=QA o2;rw [h4] at o1;cases o1
   . rcases ωinv g h hg with ⟨k,e1,e2,e3,hp⟩ | ⟨e1,e2,e3⟩
     . rcases hp with hp | hp
       . obtain ⟨h2,bx,h3,h4,_⟩:=handOld g hp;rcases h4 with ⟨z,h4⟩ | h4
         . rcases hs.own h2 bx g z h3 h4 with h' | h'
           . exact .inl h'
           . exact .inr h'.1
         . exact hs.tow g h2 h4
       . exact .inl (ZN hs.fr.size hp)
     . exact hs.tow g h e1
end Go.Ev

/- DERIVED. A state that names some handles nowhere. -/
namespace Go.Ev
open Go
end Go.Ev

/- DERIVED. One operation. -/
namespace Go.Ev
open Go
variable {P:Program} {T:Ty}
structure CallD where
 args:List V
 r:S
 nt:Nat
structure CallB where
 ims:List Bool
 args:List V
 r:S
 bs:List (Nat × Box)
 bs':List (Nat × Box)
 σ:Nat->Nat
 π:Nat->Option Nat
 hd:Nat->Nat->Bool
 s':St
structure CallB.OK (P:Program) (f:FuncId) (s:St) (c:CallB) (bor:List Nat):Prop where
 den:Ix P f s.nt [] c.bs c.args c.r c.s'.nt c.bs'
 hhd:∀ k h,c.hd k h = true->c.σ k = h /\ (A0 k c.bs).isSome = true
 π1:∀ k,(A0 k c.bs').isSome = true->c.π (c.σ k) = some k
 π2:∀ h k,c.π h = some k->c.σ k = h /\ (A0 k c.bs').isSome = true
 hi:∀ k b,A0 k c.bs = some b->1000 <= k /\ A0 (c.σ k) s.boxes = some b /\ b.fz = false /\ b.hf = true /\ c.σ k ∉ bor /\ (A0 k c.bs').isSome = true
 ho:∀ k b,A0 k c.bs' = some b->b.hf = true /\ (A0 k c.bs = none->A0 (c.σ k) s.boxes = none /\ c.σ k < 1000)
 hcl:bor = [] \/ (c.r.allI IClosed /\ ∀ k b,A0 k c.bs' = some b->∀ (i:Nat) (q:List C) (j:Nat) (x:C),b.rows[i]? = some q->q[j]? = some x->x.allI fun y=>IClosed y \/ (b.tr = true /\ Tr y))
 hr:c.r.okH (fun k=>(A0 k c.bs').isSome) = true
 hfz:∀ h ∈ bor,∃ b,A0 h s.boxes = some b /\ b.fz = false
 s1:∀ h,A0 h c.s'.boxes = match c.π h with | some k=>A0 k c.bs' | none=>A0 h s.boxes
 s2:∀ t x,A0 t c.s'.slots = some x->x = .dead \/ A0 t s.slots = some x
structure F8 where
 own:Option St:=none
 callB:Option CallB:=none
 call:Option CallD:=none
 val:Option S:=none
 rows:Option (List (List C)):=none
 fz:List (Nat × V):=[]
 cells:Option (List C):=none
def St.box (s:St) (h:Nat):Option Box:=A0 h s.boxes
def H9 (s:St) (ps:Array (Nat × Operand)):List (Nat × S):=ps.toList.map fun p=>(p.1,s.val p.2)
def Ck (T:Ty) (hint:Option (List C)) (o:Oper) (s:St):Option Res :=
 match o.op with
 | .move x=>some (.pure (s.val x))
 | .assign x=>some (.pure (s.val x))
 | .pick c a b=>Avl (s.val c) (s.val a) (s.val b)
 | .alloc e=>match T e,o.dst with
  | some ti,some k=>some ⟨.v (.one (.hp k 0 0)),.new ⟨e,(Bm ti).length,true,false,[Bm ti],false⟩,[]⟩
  | _,_=>none
 | .box e x=>match s.val x,o.dst with
  | .v v,some k=>some ⟨.v (.one (.hp k 0 0)),.new ⟨e,v.cells.length,v.cells.all By,false,[v.cells],false⟩,[]⟩
  | _,_=>none
 | .build t ps=>M8 T t (H9 s ps)
 | .buildSlice t len ps=>match o.dst with
  | some k=>Yt T k t len (H9 s ps)
  | none=>none
 | .load t a=>F6 T hint t (s.val a) s.box
 | .store t a x=>Hw T hint t (s.val a) (s.val x) s.box
 | .nilCheck x=>Ap8 (s.val x)
 | .binOp op t x y _=>Gd T op t (s.val x) (s.val y)
 | .unOp op _ x=>Ap7 op (s.val x)
 | .convert src dst x=>Wu T src dst (s.val x)
 | .makeFunc (.func f) first caps=>match first.toList,F7 (caps.toList.map s.val) s.box with
  | [],some (cs,ks)=>some ⟨.v (.one (.i (.fn f cs))),.freeze ks,[]⟩
  | _,_=>none
 | .makeSlice t (.tmp l) (.tmp c)=>match o.dst with
  | some k=>bif Nat.beq l c then Wt T k t (s.val (.tmp l)) else none
  | none=>none
 | .slice t x lo hi none=>Jo T t (s.val x) (lo.map s.val) (hi.map s.val) s.box
 | .fieldAddr t x f=>M7 T t (s.val x) f
 | .indexAddr t x i=>Jp T t (s.val x) (s.val i) s.box
 | .extract x k=>Og (s.val x) k
 | .call c=>match c.callee with
  | .builtin .len=>match c.args.toList,c.argTypes.toList with
   | [x],[t]=>K3 T t (s.val x)
   | _,_=>none
  | .builtin .max=>match c.args.toList with
   | [x,y]=>Of true (s.val x) (s.val y)
   | _=>none
  | .builtin .min=>match c.args.toList with
   | [x,y]=>Of false (s.val x) (s.val y)
   | _=>none
  | .builtin .append=>match c.args.toList,c.argTypes.toList,o.dst with
   | [x,y],[t,t'],some k=>bif Nat.beq t t' then Yv T k t (s.val x) (s.val y) s.box else none
   | _,_,_=>none
  | _=>none
 | _=>none
def X4.rows (rs:List (List C)):X4->Option (X4 × Prop)
 | .new b=>some (.new { b with rows:=rs },b.rows = rs)
 | .set h b=>some (.set h { b with rows:=rs },b.rows = rs)
 | .move h b=>some (.move h { b with rows:=rs },b.rows = rs)
 | .none=>Option.none
 | .freeze _=>Option.none
def St.eff (K:Ak) (s:St) (dst:Option Tmp):X4->Option St
 | .none=>some s
 | .new b=>match dst with
  | some k=>bif (A0 k s.boxes).isNone && Nat.blt k 1000 then some { s with boxes:=Ah k b s.boxes } else none
  | none=>none
 | .set h b=>some { s with boxes:=Ah h b s.boxes }
 | .move h b=>bif (Nat.blt h 1000 || K.mv.contains h) then (match dst with
  | some _=>some (s.app h b)
  | none=>none) else none
 | .freeze ks=>some { s with boxes:=Aw s.boxes ks }
def St.putD (K:Ak) (s:St) (dst:Option Tmp) (x:S):Option St :=
 match dst with
 | none=>some s
 | some t=>bif Nat.blt t K.N then some { s with slots:=Ah t x s.slots } else none
def St.lendable (s:St) (h:Nat):Bool:=match s.box h with
 | some b=>!b.fz
 | none=>false
def Jr (x:S):Option (FuncId × List I) :=
 match x with
 | .v (.one (.i (.lit (.func (.func f) a b))))=>match a.toList,b.toList with
  | [],[]=>some (f,[])
  | _,_=>none
 | .v (.one (.i (.fn f caps)))=>some (f,caps)
 | _=>none
def Cb (P:Program) (K:Ak) (o:Oper) (s s':St):Prop :=
 ∀ (Γ:Ctx) (w:World) (E:Env) (a:Act) (ro:Option Nat) (n:Nat) (X:Act->Prop),Γ.K = K->(∀ b v,X b->X (b.put o.dst v))->X a->A6 Γ w E s a.tmps->∀ (next:Act->World->Prop) (Q:Exit->Act->World->Prop),
  (∀ a' w',X a'->(∃ E',A6 Γ w' E' s' a'.tmps)->next a' w')->o.wpIn (FR ro) n P a w next Q
def Abo (P:Program) (K:Ak) (o:Oper) (cb:CallB) (s:St):Option (St × List Prop) :=
 match o.op with
 | .call c=>match c.callee with
  | .value f=>match Jr (s.val f) with
   | some (fid,caps)=>match He cb.hd s.box cb.ims (c.args.toList.map s.val ++ caps.map fun x=>.v (.one (.i x))) cb.args with
    | some (obs,bor)=>(cb.s'.putD K o.dst (cb.r.ren cb.σ)).map fun s'=>(s',cb.OK P fid s bor :: obs)
    | none=>none
   | none=>none
  | _=>none
 | _=>none
def C9 (P:Program) (T:Ty) (K:Ak) (o:Oper) (D:F8) (s:St):Option (St × List Prop) :=
 match D.own with
 | some s'=>some (s',[Cb P K o s s'])
 | none=>match D.callB with
 | some cb=>Abo P K o cb s
 | none=>match D.call with
 | some cd=>match o.op with
  | .call c=>match c.callee with
   | .value f=>match Jr (s.val f) with
    | some (fid,caps)=>match Hd s.box (c.args.toList.map s.val ++ caps.map fun x=>.v (.one (.i x))) cd.args with
     | some (obs,bor)=>bif cd.r.noH && bor.all s.lendable then
       (({ s with nt:=cd.nt }:St).putD K o.dst (D.val.getD cd.r)).map fun s'=>(s',Ix P fid s.nt [] [] cd.args cd.r cd.nt [] :: (bor = [] \/ Jw cd.r) :: (cd.r = D.val.getD cd.r) :: obs) else none
     | none=>none
    | none=>none
   | _=>none
  | _=>none
 | none=>match Ck T D.cells o s with
  | none=>none
  | some r=>match (match D.rows with | none=>some (r.eff,([]:List Prop)) | some rs=>(r.eff.rows rs).map fun p=>(p.1,[p.2])) with
   | none=>none
   | some (e,ob2)=>match s.eff K o.dst e with
    | none=>none
    | some s1=>(s1.putD K o.dst (D.val.getD r.val)).map fun s'=>(s',r.ob ++ ob2 ++ (match D.val with | none=>[] | some x=>[r.val = x]))
theorem Uj {ro:Option Nat} {ρ:Operand->Value} {o:Oper} {w w':World} {nx:Next} (h:(execOp ρ o).run P w = .ok nx w') (hn:∀ d,nx ≠ .defer d):(o.semAt ro ρ).run P w = .ok nx w':=by
 rw [Oper.semAt_eq]
 . exact h
 intro c hc;unfold execOp at h;rw [hc] at h;simp only [Sem.run_bind] at h
 cases hr:(resolve ρ c o.type).run P w with
 | ok d w1 =>
  rw [hr] at h;simp at h;exact hn _ h.1.symm
 | halt x w1 =>
  rw [hr] at h;simp at h
theorem A6.val_sound {Γ:Ctx} {w:World} {E:Env} {s:St} {a:Act} (hs:A6 Γ w E s a.tmps) (x:Operand):Rs w E (a.eval x) (s.val x):=by
 cases x with
 | tmp t =>
  simp only [Act.eval,St.val]
  cases h:A0 t s.slots with
  | none=>exact .dead
  | some x=>exact hs.slots t x h
 | const v =>
  simp only [Act.eval]
  cases v <;> first | exact .dead | exact .v (.one (.i (.lit _ rfl)))
 | global g=>exact .dead
 | func f=>exact .v (.one (.i (.lit _ rfl)))
theorem G8 {Γ:Ctx} {K:Ak} (hK:Γ.K = K) {w:World} {E:Env} {s s':St} {a:Act} (hs:A6 Γ w E s a.tmps) {dst:Option Tmp} {v:Value} {x:S} (hx:Rs w E v x) (h:s.putD K dst x = some s') :
  A6 Γ w E s' (a.put dst v).tmps /\ (a.put dst v).defers = a.defers:=by
 unfold St.putD at h
 cases dst with
 | none=>obtain rfl:=QA h;exact ⟨hs,rfl⟩
 | some t =>
  simp only at h
  cases hb:Nat.blt t K.N with
  | false=>rw [hb] at h;cases h
  | true =>
   rw [hb] at h;obtain rfl:=QA h
   have:t < Γ.K.N:=by rw [hK];simpa [ZQ] using hb
   exact ⟨hs.put this hx,rfl⟩
theorem Cb.of {K:Ak} {o:Oper} {s s1 s':St} {x:S} (hput:s1.putD K o.dst x = some s')
  (h:∀ (Γ:Ctx) (w:World) (E:Env) (a:Act),Γ.K = K->A6 Γ w E s a.tmps->∃ nx v w' E',(execOp a.eval o).run P w = .ok nx w' /\ ((nx = .value v) \/ (nx = .skip /\ v = undef)) /\ Rs w' E' v x /\ A6 Γ w' E' s1 a.tmps) :
  Cb P K o s s':=by
 intro Γ w E a ro n X hK hX hd hs next Q hn;obtain ⟨nx,v,w',E',hrun,hnx,hx,hs1⟩:=h Γ w E a hK hs;obtain ⟨hs2,_⟩:=G8 hK hs1 hx hput;unfold Oper.wpIn;refine ⟨fun _ _=>trivial,?_⟩
 rw [show (FR ro).round = ro from rfl,Uj hrun (by rcases hnx with rfl | ⟨rfl,rfl⟩ <;> intro d e <;> cases e)]
 rcases hnx with rfl | ⟨rfl,rfl⟩
 . exact hn _ _ (hX _ _ hd) ⟨E',hs2⟩
 . exact hn _ _ (hX _ _ hd) ⟨E',hs2⟩
theorem Cb.quiet {K:Ak} {o:Oper} {s s':St} {x:S} (hput:s.putD K o.dst x = some s')
  (h:∀ (Γ:Ctx) (w:World) (E:Env) (a:Act),Γ.K = K->A6 Γ w E s a.tmps->∃ v,(execOp a.eval o).run P w = .ok (.value v) w /\ Rs w E v x) :
  Cb P K o s s' :=
 Cb.of hput fun Γ w E a hK hs=>by
  obtain ⟨v,hr,hx⟩:=h Γ w E a hK hs;exact ⟨_,v,w,E,hr,.inl rfl,hx,hs⟩
theorem Aw0 (ro:Option Nat) (n:Nat) {f:FuncId} {args:Array Value} {w:World} {R:Ending->World->Prop} (h:Calls P f args w R):CallsIn (FR ro) n P f args w R:=(callsIn_wide (n:=n)).2 h
end Go.Ev

/- DERIVED. Each operation is what its abstract one is. -/
namespace Go.Ev
open Go
variable {P:Program} {T:Ty}
theorem Rs.tup_inv {w:World} {E:Env} {v:Value} {xs:List V} (h:Rs w E v (.tup xs)):∃ vs,v = .tuple vs.toArray /\ Kx w E vs xs:=by
 cases h with | tup h=>exact ⟨_,rfl,h⟩
theorem B1g {e e':X4} {rs:List (List C)} {p:Prop} (h:e.rows rs = some (e',p)) (hp:p):e' = e:=by
 cases e with
 | none=>cases h
 | freeze=>cases h
 | new b=>simp only [X4.rows,QD,QG] at h;obtain ⟨rfl,rfl⟩:=h;rw [<- hp]
 | set h' b=>simp only [X4.rows,QD,QG] at h;obtain ⟨rfl,rfl⟩:=h;rw [<- hp]
 | move h' b=>simp only [X4.rows,QD,QG] at h;obtain ⟨rfl,rfl⟩:=h;rw [<- hp]
theorem Zh {Γ:Ctx} {w:World} {E:Env} {s:St} {a:Act} (hs:A6 Γ w E s a.tmps) (ps:Array (Nat × Operand)) :
  ((ps.map fun (i,x)=>(i,a.eval x)).toList.length = (H9 s ps).length) /\
  ∀ (j:Nat) p q,(ps.map fun (i,x)=>(i,a.eval x)).toList[j]? = some p->(H9 s ps)[j]? = some q->p.1 = q.1 /\ Rs w E p.2 q.2:=by
 refine ⟨by simp [H9],fun j p q hp hq=>?_⟩
 simp only [H9,QL] at hq;obtain ⟨z,hz,rfl⟩:=QB.1 hq;simp only [Array.toList_map,QL,hz,QP,QD] at hp;subst hp;exact ⟨rfl,hs.val_sound z.2⟩
theorem Aia {α:Type} {x:Option α} (h:x.isNone = true):x = .none:=by cases x <;> simp_all
def Ahw (P:Program) (K:Ak) (o:Oper) (s s1:St) (x:S):Prop :=
 ∀ (Γ:Ctx) (w:World) (E:Env) (a:Act),Γ.K = K->A6 Γ w E s a.tmps->∃ nx v w' E',(execOp a.eval o).run P w = .ok nx w' /\ ((nx = .value v) \/ (nx = .skip /\ v = undef)) /\ Rs w' E' v x /\ A6 Γ w' E' s1 a.tmps
theorem Ahw.quiet {K:Ak} {o:Oper} {s:St} {x:S} (h:∀ (Γ:Ctx) (w:World) (E:Env) (a:Act),A6 Γ w E s a.tmps->∃ v,(execOp a.eval o).run P w = .ok (.value v) w /\ Rs w E v x):Ahw P K o s s x :=
 fun Γ w E a _ hs=>by
  obtain ⟨v,hr,hx⟩:=h Γ w E a hs;exact ⟨_,v,w,E,hr,.inl rfl,hx,hs⟩
theorem Lv {K:Ak} {s s1:St} {k:Tmp} {b:Box} (h:s.eff K (some k) (.new b) = some s1):A0 k s.boxes = .none /\ k < 1000 /\ s1 = { s with boxes:=Ah k b s.boxes }:=by
 simp only [St.eff] at h
 cases hc:((A0 k s.boxes).isNone && Nat.blt k 1000) with
 | false=>rw [hc] at h;cases h
 | true =>
  rw [hc] at h;simp only [QE] at hc
  exact ⟨Aia hc.1,by simpa [ZQ] using hc.2,(QA h).symm⟩
theorem Apa (hT:As P T) {K:Ak} {o:Oper} {s s1:St} {r:Res} {hint:Option (List C)} (h:Ck T hint o s = some r) (ho:∀ p ∈ r.ob,p) (he:s.eff K o.dst r.eff = some s1):Ahw P K o s s1 r.val:=by
 obtain ⟨dst,op,type,pos,after,guard⟩:=o;unfold Ck at h;simp only at h he;split at h
 . -- move
   obtain rfl:=QA h;obtain rfl:=QA he;exact .quiet fun Γ w E a hs=>⟨_,rfl,hs.val_sound _⟩
 . -- assign
   obtain rfl:=QA h;obtain rfl:=QA he;exact .quiet fun Γ w E a hs=>⟨_,rfl,hs.val_sound _⟩
 . -- pick
   rename_i c x y;unfold Avl at h;split at h
   . rename_i hc;obtain rfl:=QA h;obtain rfl:=QA he;refine .quiet fun Γ w E a hs=>⟨_,?_,hs.val_sound x⟩;have hv:=hs.val_sound c;rw [hc] at hv;simp [execOp,hv.lit_inv,asBool]
   . rename_i hc;obtain rfl:=QA h;obtain rfl:=QA he;refine .quiet fun Γ w E a hs=>⟨_,?_,hs.val_sound y⟩;have hv:=hs.val_sound c;rw [hc] at hv;simp [execOp,hv.lit_inv,asBool]
   . cases h
 . -- alloc
   split at h
   . rename_i ti k hti;obtain rfl:=QA h;obtain ⟨hk,hk1,rfl⟩:=Lv he;intro Γ w E a _ hs;obtain ⟨u,w',E',hr,hx,hs'⟩:=Aj6 hT hs hti hk hk1
     exact ⟨_,u,w',E',by simp [execOp,hr],.inl rfl,hx,hs'⟩
   . cases h
 . -- box
   rename_i e x;split at h
   . rename_i y k hy;obtain rfl:=QA h;obtain ⟨hk,hk1,rfl⟩:=Lv he;intro Γ w E a _ hs;have hv:=hs.val_sound x;rw [hy] at hv;obtain ⟨u,w',E',hr,hx,hs'⟩:=Aw2 (P:=P) hs (t:=e) hv.v_inv hk hk1
     exact ⟨_,u,w',E',by simp [execOp,hr],.inl rfl,hx,hs'⟩
   . cases h
 . -- build
   rename_i t ps
   have heff:r.eff = .none:=by
    unfold M8 at h;split at h
    . split at h
      . rename_i fs _
        cases hc:fs.toList.all (fun f=>(T f.type).isSome) with
        | false=>rw [hc] at h;cases h
        | true =>
         rw [hc] at h;simp only [cond] at h;split at h
         . obtain rfl:=QA h;rfl
         . cases h
      . cases h
    . cases h
   rw [heff] at he;obtain rfl:=QA he;refine .quiet fun Γ w E a hs=>?_;obtain ⟨h1,h2⟩:=Zh hs ps;obtain ⟨u,hr,hx,_⟩:=Aj5 (P:=P) hT (w:=w) (E:=E) h1 h2 h;rw [JM] at hr
   exact ⟨u,by simp only [execOp,Sem.run_bind,hr,Result.andThen_ok,Sem.run_pure],hx⟩
 . -- buildSlice
   rename_i t len ps;split at h
   . rename_i k
     have hb:∃ b,r.eff = .new b:=by
      unfold Yt at h;split at h
      . split at h
        . rename_i e ei rows _ _
          cases hc:(Nat.beq (H9 s ps).length len && Nat.ble 1 ei.size && rows.all (fun r=>Nat.beq r.length ei.size) && Nat.ble (len * ei.size) 16777216) with
          | false=>rw [hc] at h;cases h
          | true=>rw [hc] at h;obtain rfl:=QA h;exact ⟨_,rfl⟩
        . cases h
      . cases h
     obtain ⟨b,hb⟩:=hb;rw [hb] at he;obtain ⟨hk,hk1,rfl⟩:=Lv he;intro Γ w E a _ hs;obtain ⟨h1,h2⟩:=Zh hs ps;obtain ⟨b',u,w',E',hb',hr,hx,hs'⟩:=Aqw hT hs hk hk1 h1 h2 h;rw [hb] at hb';obtain rfl:=X4.new.inj hb';rw [JM] at hr
     exact ⟨_,u,w',E',by simp only [execOp,Sem.run_bind,hr,Result.andThen_ok,Sem.run_pure],.inl rfl,hx,hs'⟩
   . cases h
 . -- load
   rename_i t x;intro Γ w E a _ hs;obtain ⟨u,hr,hx,he0⟩:=A3z hT hs (hs.val_sound x) h ho;rw [he0] at he;obtain rfl:=QA he
   exact ⟨_,u,w,E,by simp only [execOp,Sem.run_bind,hr,Result.andThen_ok,Sem.run_pure],.inl rfl,hx,hs⟩
 . -- store
   rename_i t x y;intro Γ w E a _ hs;obtain ⟨k',b',w',E',hb',hd,hr,hs'⟩:=Ai2 hT hs (hs.val_sound x) (hs.val_sound y) h ho;rw [hb'] at he;obtain rfl:=QA he
   refine ⟨.skip,undef,w',E',by simp only [execOp,Sem.run_bind,hr,Result.andThen_ok,Sem.run_pure],.inr ⟨rfl,rfl⟩,by rw [hd];exact .dead,hs'⟩
 . -- nilCheck
   rename_i x;unfold Ap8 at h;split at h
   . rename_i hh row col hx;obtain rfl:=QA h;obtain rfl:=QA he;refine .quiet fun Γ w E a hs=>?_;have hv:=hs.val_sound x;rw [hx] at hv;obtain ⟨g,sz,cap,hβ,he'⟩:=hv.hp_inv
     exact ⟨a.eval x,by simp only [execOp,he'];rfl,hv⟩
   . rename_i tag cs hx;obtain rfl:=QA h;obtain rfl:=QA he;refine .quiet fun Γ w E a hs=>?_;have hv:=hs.val_sound x;rw [hx] at hv;obtain ⟨g,o,he',_⟩:=(hv.i_inv).ref_drop 0
     exact ⟨a.eval x,by simp only [execOp,he'];rfl,hv⟩
   . cases h
 . -- binOp
   rename_i bop t x y yt;intro Γ w E a _ hs;obtain ⟨u,hr,hx,he0⟩:=Aw5 (ox:=x) (oy:=y) hT (hs.val_sound x) (hs.val_sound y) h ho;rw [he0] at he;obtain rfl:=QA he
   exact ⟨_,u,w,E,by simp only [execOp];rw [Sem.run_bind,hr];rfl,.inl rfl,hx,hs⟩
 . -- unOp
   rename_i uop t x;intro Γ w E a _ hs;obtain ⟨u,hr,hx,he0⟩:=Awl (P:=P) (hs.val_sound x) h;rw [he0] at he;obtain rfl:=QA he
   exact ⟨_,u,w,E,by simp only [execOp,Sem.run_bind,hr,Result.andThen_ok,Sem.run_pure],.inl rfl,hx,hs⟩
 . -- convert
   rename_i src dst' x;intro Γ w E a _ hs;obtain ⟨u,hr,hx,he0⟩:=Apb (P:=P) hT (hs.val_sound x) h;rw [he0] at he;obtain rfl:=QA he
   exact ⟨_,u,w,E,by simp only [execOp,Sem.run_bind,hr,Result.andThen_ok,Sem.run_pure],.inl rfl,hx,hs⟩
 . -- makeFunc
   rename_i f first caps;split at h
   . rename_i cs ks hf hcs;obtain rfl:=QA h;obtain rfl:=QA he;intro Γ w E a _ hs
     obtain ⟨E',hs',hl,hr,_⟩:=Tg (caps.toList.map s.val) (caps.toList.map a.eval) cs ks E s a.tmps hs (by simp) (fun j v x hv hx=>by
      rw [QL] at hv hx;obtain ⟨z,hz,rfl⟩:=QB.1 hx;rw [hz] at hv;obtain rfl:=QA hv
      exact hs.val_sound z) hcs
     have hfirst:first = #[]:=by cases first;simp at hf;rw [hf]
     subst hfirst;refine ⟨_,.func (.func f) #[] (caps.toList.map a.eval).toArray,w,E',?_,.inl rfl,.v (.one (.i (.fn f _ cs hl hr))),hs'⟩;simp [execOp,Instr.makeFunc];apply JN;simp
   . cases h
 . -- makeSlice
   rename_i t l c;split at h
   . rename_i k
     cases hc:Nat.beq l c with
     | false=>rw [hc] at h;cases h
     | true =>
      rw [hc] at h;simp only [cond] at h;have:=QC hc;subst this
      have hb:∃ b,r.eff = .new b:=by
       unfold Wt at h;split at h
       . split at h
         . rename_i ei _
           cases hc:Nat.ble 1 ei.size with
           | false=>rw [hc] at h;cases h
           | true=>rw [hc] at h;obtain rfl:=QA h;exact ⟨_,rfl⟩
         . cases h
       . cases h
      obtain ⟨b,hb⟩:=hb;rw [hb] at he;obtain ⟨hk,hk1,rfl⟩:=Lv he;intro Γ w E a _ hs;obtain ⟨b',u,w',E',hb',hr,hx,hs'⟩:=Amd hT hs hk hk1 (hs.val_sound (.tmp l)) h ho;rw [hb] at hb';obtain rfl:=X4.new.inj hb'
      exact ⟨_,u,w',E',by simp only [execOp,Sem.run_bind,hr,Result.andThen_ok,Sem.run_pure],.inl rfl,hx,hs'⟩
   . cases h
 . -- slice
   rename_i t x lo hi;intro Γ w E a _ hs
   obtain ⟨u,hr,hx,he0⟩:=Ai4 hT hs (vlo:=lo.map a.eval) (vhi:=hi.map a.eval) (hs.val_sound x)
    (fun y hy=>by obtain ⟨z,hz,rfl⟩:=QB.1 hy;exact ⟨_,by rw [hz];rfl,hs.val_sound z⟩) (fun hn=>by cases lo with | none=>rfl | some=>cases hn)
    (fun y hy=>by obtain ⟨z,hz,rfl⟩:=QB.1 hy;exact ⟨_,by rw [hz];rfl,hs.val_sound z⟩) (fun hn=>by cases hi with | none=>rfl | some=>cases hn) h ho
   rw [he0] at he;obtain rfl:=QA he
   exact ⟨_,u,w,E,by simp only [execOp,Sem.run_bind,Option.map_none,hr,Result.andThen_ok,Sem.run_pure],.inl rfl,hx,hs⟩
 . -- fieldAddr
   rename_i t x f;intro Γ w E a _ hs;obtain ⟨u,hr,hx,he0⟩:=Aid (P:=P) hT (hs.val_sound x) h;rw [he0] at he;obtain rfl:=QA he
   exact ⟨_,u,w,E,by simp only [execOp,Sem.run_bind,hr,Result.andThen_ok,Sem.run_pure],.inl rfl,hx,hs⟩
 . -- indexAddr
   rename_i t x ix;intro Γ w E a _ hs;obtain ⟨u,hr,hx,he0⟩:=Aib hT hs (hs.val_sound x) (hs.val_sound ix) h ho;rw [he0] at he;obtain rfl:=QA he
   exact ⟨_,u,w,E,by simp only [execOp,Sem.run_bind,hr,Result.andThen_ok,Sem.run_pure],.inl rfl,hx,hs⟩
 . -- extract
   rename_i x k;unfold Og at h;split at h
   . rename_i xs hx;split at h
     . rename_i y hy;obtain rfl:=QA h;obtain rfl:=QA he;refine .quiet fun Γ w E a hs=>?_;have hv:=hs.val_sound x;rw [hx] at hv;obtain ⟨vs,hvs,hr⟩:=hv.tup_inv
       obtain ⟨v,hv'⟩:∃ v,vs[k]? = some v:=by
        have:k < vs.length:=by rw [hr.1];exact (QO.1 hy).1
        exact ⟨_,QN this⟩
       refine ⟨v,?_,.v (hr.2 k v y hv' hy)⟩;simp [execOp,hvs,Instr.extract,hv']
     . cases h
   . cases h
 . -- calls of builtins
   rename_i c;obtain ⟨callee,args,argTypes⟩:=c;simp only at h
   have l1:∀ {α:Type} {arr:Array α} {x:α},arr.toList = [x]->arr = #[x]:=fun h=>JN (by rw [h])
   have l2:∀ {α:Type} {arr:Array α} {x y:α},arr.toList = [x,y]->arr = #[x,y]:=fun h=>JN (by rw [h])
   split at h
   . split at h
     . rename_i x t hx ht;obtain rfl:=l1 hx;obtain rfl:=l1 ht;intro Γ w E a _ hs;obtain ⟨u,hr,hxr,he0⟩:=Aqz (P:=P) (ty:=type) hT (hs.val_sound x) h;rw [he0] at he;obtain rfl:=QA he
       exact ⟨_,u,w,E,by simp [execOp,resolve,invoke,builtin,hr],.inl rfl,hxr,hs⟩
     . cases h
   . split at h
     . rename_i x y hx;obtain rfl:=l2 hx;intro Γ w E a _ hs;obtain ⟨u,hr,hxr,he0⟩:=Aqs (P:=P) (ts:=argTypes) (ty:=type) (hs.val_sound x) (hs.val_sound y) h;rw [he0] at he;obtain rfl:=QA he
       exact ⟨_,u,w,E,by simp [execOp,resolve,invoke,builtin,hr],.inl rfl,hxr,hs⟩
     . cases h
   . split at h
     . rename_i x y hx;obtain rfl:=l2 hx;intro Γ w E a _ hs;obtain ⟨u,hr,hxr,he0⟩:=Aqq (P:=P) (ts:=argTypes) (ty:=type) (hs.val_sound x) (hs.val_sound y) h;rw [he0] at he;obtain rfl:=QA he
       exact ⟨_,u,w,E,by simp [execOp,resolve,invoke,builtin,hr],.inl rfl,hxr,hs⟩
     . cases h
   . split at h
     . rename_i x y t t' k hx ht
       cases hc:Nat.beq t t' with
       | false=>rw [hc] at h;cases h
       | true =>
        rw [hc] at h;simp only [cond] at h;have:=QC hc;subst this;obtain rfl:=l2 hx;obtain rfl:=l2 ht;intro Γ w E a hK hs
        have keyfree:(∃ b,r.eff = .new b)->A0 k s.boxes = .none /\ k < 1000:=by
         rintro ⟨b,hn⟩
         rw [hn] at he;obtain ⟨h1,h2,_⟩:=Lv he;exact ⟨h1,h2⟩
        have moved:∀ h' b,r.eff = .move h' b->(h' < 1000 \/ Γ.K.mv.contains h' = true) /\ s1 = s.app h' b:=by
         intro h' b hm;rw [hm] at he;simp only [St.eff] at he
         cases hc:(Nat.blt h' 1000 || K.mv.contains h') with
         | false=>rw [hc] at he;cases he
         | true =>
          rw [hc] at he;simp only [cond] at he;simp only [XL] at hc
          exact ⟨hc.imp (fun h=>by simpa [ZQ] using h) (fun h=>by rw [hK];exact h),(QA he).symm⟩
        obtain ⟨h',b,u,w',E',hcase,hr,hxr,hm,hn⟩:=Aw7 (P:=P) (ty:=type) hT hs keyfree (hs.val_sound x) (hs.val_sound y) h ho (fun h' b hm=>(moved h' b hm).1)
        refine ⟨_,u,w',E',by simp [execOp,resolve,invoke,builtin,hr],.inl rfl,hxr,?_⟩
        rcases hcase with hmv | ⟨hnw,rfl⟩
        . rw [(moved h' b hmv).2];exact hm hmv
        . rw [hnw] at he;obtain ⟨_,_,rfl⟩:=Lv he;exact hn hnw
     . cases h
   . cases h
 . cases h
end Go.Ev

/- DERIVED. One operation with its decision; a region in its own order. -/
namespace Go.Ev
open Go
variable {P:Program} {T:Ty}
theorem Ri.fn_inv {w:World} {E:Env} {v:Value} {f:FuncId} {caps:List I} (h:Ri w E v (.fn f caps)):∃ vs:List Value,v = .func (.func f) #[] vs.toArray /\ vs.length = caps.length /\ ∀ (j:Nat) (v:Value) (c:I),vs[j]? = some v->caps[j]? = some c->Ri w E v c:=by
 cases h with | fn _ vs _ hl hrc=>exact ⟨vs,rfl,hl,hrc⟩
theorem A5v {Γ:Ctx} {w:World} {E:Env} {s:St} {a:Act} (hs:A6 Γ w E s a.tmps) {f:Operand} {fid:FuncId} {caps:List I} (h:Jr (s.val f) = some (fid,caps)) :
  ∃ vs:List Value,a.eval f = .func (.func fid) #[] vs.toArray /\ vs.length = caps.length /\ ∀ (j:Nat) (v:Value) (c:I),vs[j]? = some v->caps[j]? = some c->Ri w E v c:=by
 have hv:=hs.val_sound f;unfold Jr at h;split at h
 . rename_i g x y hf;split at h
   . rename_i hx hy;simp only [QD,QG] at h;obtain ⟨rfl,rfl⟩:=h;rw [hf] at hv
     have hx':x = #[]:=JN (by rw [hx])
     have hy':y = #[]:=JN (by rw [hy])
     subst hx';subst hy'
     exact ⟨[],hv.lit_inv,rfl,fun j v c hv hc=>by simp at hc⟩
   . cases h
 . rename_i g cs hf;simp only [QD,QG] at h;obtain ⟨rfl,rfl⟩:=h;rw [hf] at hv;exact hv.i_inv.fn_inv
 . cases h
theorem Ai3 {K:Ak} {o:Oper} {cb:CallB} {s s':St} {obs:List Prop} (h:Abo P K o cb s = some (s',obs)) (ho:∀ p ∈ obs,p):Cb P K o s s':=by
 unfold Abo at h;split at h
 . rename_i c hop;split at h
   . rename_i f hf;split at h
     . rename_i fid caps hcal;split at h
       . rename_i obs' bor hargs;simp only [QB,QG] at h;obtain ⟨s2,hput,rfl,rfl⟩:=h
         have ok:cb.OK P fid s bor:=ho _ (by simp)
         intro Γ w E a ro n X hK hX hdef hs next Q hn;obtain ⟨vcaps,hev,hcl,hcr⟩:=A5v hs hcal
         have hread:=A60 (π:=cb.π) (bor:=bor) hs ok.hhd cb.ims (c.args.toList.map s.val ++ caps.map fun x=>S.v (V.one (C.i x))) cb.args (c.args.toList.map a.eval ++ vcaps) obs' bor (by simp [hcl]) (fun j v x hv hx=>by
           by_cases hj:j < (c.args.toList.map a.eval).length
           . rw [ZA hj] at hv
             rw [ZA (by simpa using hj)] at hx
             rw [QL] at hv hx;obtain ⟨z,hz,rfl⟩:=QB.1 hx;rw [hz] at hv;obtain rfl:=QA hv;exact hs.val_sound z
           . rw [QZ (by omega)] at hv
             rw [QZ (by simp at hj ⊢;omega)] at hx
             rw [QL] at hx;obtain ⟨z,hz,rfl⟩:=QB.1 hx
             exact .v (.one (.i (hcr _ v z hv (by simpa using hz))))) hargs (fun p hp=>ho p (ZW _ hp)) (fun _ hk=>hk)
         have hcalls:=Aj3 hs cb.σ cb.π [] (fun _=>false) (fun _ _ h=>by cases h) (fun _ h=>by cases h) (fun _ x _=>S.okH_true (fun _=>rfl) x) (fun _ _ _=>.inr fun _ _ _ c _ _=>C.okH_true (fun _=>rfl) c) ok.den hread ok.π1 ok.π2 ok.hi ok.ho ok.hcl ok.hr ok.hfz ok.s1 ok.s2 rfl
         obtain ⟨fn,hfn,hname,hbody⟩:=ok.den.1
         have hrun:(execOp a.eval o).run P w = .ok (.enter fid (c.args.toList.map a.eval ++ vcaps).toArray) w:=by
          have e1:(c.args.toList.map a.eval ++ vcaps).toArray = c.args.map a.eval ++ vcaps.toArray:=by
           apply JN;simp
          rw [e1];obtain ⟨dst,op,type,pos,after,guard⟩:=o;simp only at hop;subst hop;obtain ⟨callee,args,argTypes⟩:=c;simp only at hf;subst hf
          have hn1 : ¬ fn.name = "runtime.NumGoroutine" := by simpa using hname
          have hn2:¬ fn.body = Option.none:=by intro e;rw [e] at hbody;cases hbody
          simp [execOp,resolve,Deferred.ofValue,hev,invoke,callFunc,hfn,hn1,hn2]
         unfold Oper.wpIn;refine ⟨fun _ _=>trivial,?_⟩
         rw [show (FR ro).round = ro from rfl,Uj hrun (fun d e=>by cases e)]
         refine ⟨fun e=>by simp [FR,Fence.wide] at e,?_⟩
         refine Aw0 ro _ (Calls.mono hcalls ?_)
         rintro e w' ⟨v,E',rfl,hrv,hs'⟩
         obtain ⟨hs2,hdef2⟩:=G8 hK hs' hrv hput;exact hn _ _ (hX _ _ hdef) ⟨E',hs2⟩
       . cases h
     . cases h
   . cases h
 . cases h
theorem Cm (hT:As P T) {K:Ak} {o:Oper} {D:F8} {s s':St} {obs:List Prop} (h:C9 P T K o D s = some (s',obs)) (ho:∀ p ∈ obs,p):Cb P K o s s':=by
 unfold C9 at h;split at h
 . simp only [QD,QG] at h;obtain ⟨rfl,rfl⟩:=h
   exact ho _ (by simp)
 split at h
 . exact Ai3 h ho
 split at h
 . rename_i cd hcd;split at h
   . rename_i c hop;split at h
     . rename_i f hf;split at h
       . rename_i fid caps hcal;split at h
         . rename_i obs' bor hargs
           cases hc:(cd.r.noH && bor.all s.lendable) with
           | false=>rw [hc] at h;cases h
           | true =>
            rw [hc] at h;simp only [cond,QB,QG] at h;obtain ⟨s2,hput,rfl,rfl⟩:=h;simp only [QE] at hc
            have hd:Ix P fid s.nt [] [] cd.args cd.r cd.nt []:=ho _ (by simp)
            have hbc:bor = [] \/ Jw cd.r:=ho _ (by simp)
            have hval:cd.r = D.val.getD cd.r:=ho _ (by simp)
            intro Γ w E a ro n X hK hX hdef hs next Q hn;obtain ⟨vcaps,hev,hcl,hcr⟩:=A5v hs hcal
            have hcalls:=Apd hs (xs:=c.args.toList.map s.val ++ caps.map fun x=>S.v (V.one (C.i x))) (as:=cd.args) (obs:=obs') (bor:=bor) (vs:=c.args.toList.map a.eval ++ vcaps) hd (by simp [hcl]) (fun j v x hv hx=>by
             by_cases hj:j < (c.args.toList.map a.eval).length
             . rw [ZA hj] at hv
               rw [ZA (by simpa using hj)] at hx
               rw [QL] at hv hx;obtain ⟨z,hz,rfl⟩:=QB.1 hx;rw [hz] at hv;obtain rfl:=QA hv;exact hs.val_sound z
             . rw [QZ (by omega)] at hv
               rw [QZ (by simp at hj ⊢;omega)] at hx
               rw [QL] at hx;obtain ⟨z,hz,rfl⟩:=QB.1 hx
               exact .v (.one (.i (hcr _ v z hv (by simpa using hz))))) hargs (fun p hp=>ho p (ZW _ (ZW _ (ZW _ hp)))) hc.1 hbc (fun k hk=>by
               have:=QM.1 hc.2 k hk;unfold St.lendable St.box at this
               cases hbx:A0 k s.boxes with
               | none=>rw [hbx] at this;cases this
               | some b=>rw [hbx] at this;exact ⟨b,rfl,by simpa using this⟩)
            obtain ⟨fn,hfn,hname,hbody⟩:=hd.1
            have hrun:(execOp a.eval o).run P w = .ok (.enter fid (c.args.toList.map a.eval ++ vcaps).toArray) w:=by
             have e1:(c.args.toList.map a.eval ++ vcaps).toArray = c.args.map a.eval ++ vcaps.toArray:=by
              apply JN;simp
             rw [e1];obtain ⟨dst,op,type,pos,after,guard⟩:=o;simp only at hop;subst hop;obtain ⟨callee,args,argTypes⟩:=c;simp only at hf;subst hf
             have hn1 : ¬ fn.name = "runtime.NumGoroutine" := by simpa using hname
             have hn2:¬ fn.body = Option.none:=by intro e;rw [e] at hbody;cases hbody
             simp [execOp,resolve,Deferred.ofValue,hev,invoke,callFunc,hfn,hn1,hn2]
            unfold Oper.wpIn;refine ⟨fun _ _=>trivial,?_⟩
            rw [show (FR ro).round = ro from rfl,Uj hrun (fun d e=>by cases e)]
            refine ⟨fun e=>by simp [FR,Fence.wide] at e,?_⟩
            refine Aw0 ro _ (Calls.mono hcalls ?_)
            rintro e w' ⟨v,E',rfl,hrv,hs'⟩
            rw [hval] at hrv;obtain ⟨hs2,hdef2⟩:=G8 hK hs' hrv hput;exact hn _ _ (hX _ _ hdef) ⟨E',hs2⟩
         . cases h
       . cases h
     . cases h
   . cases h
 . split at h
   . cases h
   . rename_i r hr;split at h
     . cases h
     . rename_i e ob2 hrows;split at h
       . cases h
       . rename_i s1 heff;simp only [QB,QG] at h;obtain ⟨s2,hput,rfl,rfl⟩:=h
         have he:e = r.eff:=by
          cases hD:D.rows with
          | none=>rw [hD] at hrows;simp only [QD,QG] at hrows;exact hrows.1.symm
          | some rs =>
           rw [hD] at hrows;simp only [QB,QG] at hrows;obtain ⟨q,hq,rfl,rfl⟩:=hrows
           exact B1g hq (ho _ (by simp))
         rw [he] at heff
         have hv:D.val.getD r.val = r.val:=by
          cases hD:D.val with
          | none=>rfl
          | some x=>have:r.val = x:=ho _ (by simp [hD]);rw [<- this];rfl
         rw [hv] at hput
         exact Cb.of hput (Apa hT hr (fun p hp=>ho p (by simp [hp])) heff)
def Gu (s:St) (ops:List Oper) (o:Oper):Option Bool :=
 match o.guard with
 | none=>some true
 | some (j,want)=>match ops[j]? with
  | some p=>match p.dst with
   | some t=>match A0 t s.slots with
    | some (.v (.one (.i (.lit (.bool b)))))=>some (b == want)
    | some (.tup [])=>some false
    | _=>none
   | none=>none
  | none=>none
def X5 (P:Program) (T:Ty) (K:Ak) (ops:List Oper) (o:Oper) (D:F8) (s:St):Option (St × List Prop) :=
 match Gu s ops o with
 | some true=>C9 P T K o D s
 | some false=>(s.putD K o.dst (.tup [])).map fun s'=>(s',[])
 | none=>none
theorem Rs.undef {w:World} {E:Env}:Rs w E Go.undef (.tup []):=.tup (vs:=[]) ⟨rfl,fun j v x _ hx=>by simp at hx⟩
theorem Fa {Γ:Ctx} {w:World} {E:Env} {s:St} {a:Act} (hs:A6 Γ w E s a.tmps) {ops:Array Oper} {o:Oper} {b:Bool} (h:Gu s ops.toList o = some b):Region.wanted o (yielded ops a.tmps) = b:=by
 unfold Gu at h;unfold Region.wanted;split at h
 . rename_i hg;rw [hg];exact QA h
 . rename_i j want hg;rw [hg];split at h
   . rename_i p hp;split at h
     . rename_i t ht;split at h
       . rename_i b' hl;obtain rfl:=QA h;have hv:=(hs.slots t _ hl).lit_inv
         have hp':ops[j]? = some p:=by simpa using hp
         have hsome:a.tmps[t]? = some (.bool b'):=by
          rw [KB] at hv
          cases hq:a.tmps[t]? with
          | none=>rw [hq] at hv;cases hv
          | some u=>rw [hq] at hv;simpa using hv
         simp [yielded,hp',ht,hsome]
       . rename_i hl;obtain rfl:=QA h;obtain ⟨vs,hv,hrs⟩:=(hs.slots t _ hl).tup_inv;have hvs:vs = []:=XJ hrs.1;subst hvs
         have hp':ops[j]? = some p:=by simpa using hp
         rw [KB] at hv
         cases hq:a.tmps[t]? with
         | none=>simp [yielded,hp',ht,hq]
         | some u =>
          rw [hq] at hv
          have hu:u = .tuple #[]:=by simpa using hv
          simp [yielded,hp',ht,hq,hu]
       . cases h
     . cases h
   . cases h
end Go.Ev

/- DERIVED. From a body's evaluation to the function's contract. -/
namespace Go.Ev
open Go
variable {P:Program} {T:Ty}
def Ge (bs:List (Nat × Box)) (ks:List Nat):Bool:=ks.all fun h=>Nat.blt h 1000 && (A0 h bs).isSome
theorem A6.freezes {Γ:Ctx} {w:World}:∀ (ks:List Nat) {E:Env} {s:St} {tmps:Array Value},A6 Γ w E s tmps->Ge s.boxes ks = true ->
  ∃ E',A6 Γ w E' { s with boxes:=Aw s.boxes ks } tmps /\ Bt w w E E' /\ (∀ k,E'.β k = E.β k) /\ (E'.τ = E.τ) /\
   ∀ k b,A0 k s.boxes = some b->∃ b',A0 k (Aw s.boxes ks) = some b' /\ b'.rows = b.rows /\ b'.sz = b.sz /\ b'.hf = b.hf /\ (b.fz = true->b'.fz = true) /\ (k ∈ ks->b'.fz = true) /\ b'.tr = b.tr
 | [],E,s,tmps,hs,_=>⟨E,hs,⟨QY _,fun _ _ _ h=>h,fun _ _ h=>h,fun _ _ _ _ _ h=>h⟩,fun _=>rfl,rfl,fun k b hb=>⟨b,hb,rfl,rfl,rfl,fun h=>h,(fun h=>by cases h),rfl⟩⟩
 | h :: r,E,s,tmps,hs,hc=>by
  simp only [Ge,XZ,QE] at hc;obtain ⟨⟨hlt,hsome⟩,hrest⟩:=hc
  have hlt:h < 1000:=by simpa [ZQ] using hlt
  obtain ⟨b,hb⟩:=ZC.1 hsome;obtain ⟨g,cap,hβ,_⟩:=hs.boxes h b hb;have hf:=hs.freeze hb hβ hlt
  have kk:Bt w w E (E.free g):=by
   refine ⟨QY _,fun tag x _ hx=>?_,fun _ _ h=>h,fun _ _ _ _ _ h=>h⟩;unfold Env.blk at hx ⊢;split
   . rename_i e;rw [QK e] at hx;exact fun h'=>hx h'.1
   . rename_i e;rw [QH e] at hx;exact hx
  have hc2:Ge (Ah h { b with fz:=true } s.boxes) r = true:=by
   simp only [Ge,QM,QE] at hrest ⊢;intro k hk;refine ⟨(hrest k hk).1,?_⟩;by_cases e:k = h
   . subst e;rw [A7];rfl
   . rw [A9 _ _ e];exact (hrest k hk).2
  obtain ⟨E2,hs2,kk2,hβ2,hτ2,hl⟩:=A6.freezes r (s:={ s with boxes:=Ah h { b with fz:=true } s.boxes }) hf hc2;refine ⟨E2,?_,⟨QY _,fun tag y hy hb'=>kk2.blk tag y hy (kk.blk tag y hy hb'),fun k y hy=>kk2.β k y (kk.β k y hy),fun _ _ _ _ _ h=>h⟩,fun k=>hβ2 k,hτ2,fun k b0 hk=>?_⟩
  . simp only [Aw,hb];exact hs2
  . simp only [Aw,hb];by_cases e:k = h
    . subst e;rw [hb] at hk;obtain rfl:=QA hk;obtain ⟨b',h1,h2,h3,h4,h5,_,h7⟩:=hl k { b with fz:=true } (A7 _ _ _);exact ⟨b',h1,h2,h3,h4,fun _=>h5 rfl,fun _=>h5 rfl,h7⟩
    . obtain ⟨b',h1,h2,h3,h4,h5,h6,h7⟩:=hl k b0 (by show A0 k (Ah h _ s.boxes) = _;rw [A9 _ _ e];exact hk)
      refine ⟨b',h1,h2,h3,h4,h5,fun hm=>?_,h7⟩;rcases QT.1 hm with e' | hm
      . exact absurd e' e
      . exact h6 hm
theorem Aic {Γ:Ctx} {w:World} {E:Env} {s:St} {tmps:Array Value} (hs:A6 Γ w E s tmps) {h off len:Nat} {b:Box} {v:Value} {rows:List (List I)} (hb:A0 h s.boxes = some b) (hfz:b.fz = true) (htr:b.tr = false)
  (o1:off + len <= b.rows.length) (o2:(b.rows.drop off).take len = rows.map (·.map .i)) (hv:Rc w E v (.hs h off len)):Ri w E v (.sl 0 false b.sz rows):=by
 cases hv with
 | hs _ _ _ g sz cap ad hβ hle had =>
 obtain ⟨rfl,hat,_⟩:=hs.box hb hβ;have hat:=hat htr;have hlt:=hat.lt;obtain ⟨arr,hg,hsz',hl,hm,hlen,hcell,hhf,hA,hT'⟩:=hat
 have hrl:rows.length = len:=by have:=XU List.length o2;simp at this;omega
 have hget:∀ (i:Nat) (q:List I),rows[i]? = some q->b.rows[off + i]? = some (q.map .i):=by
  intro i q hi
  have hi':i < len:=by rw [<- hrl];exact (QO.1 hi).1
  have:((b.rows.drop off).take len)[i]? = some (q.map .i):=by rw [o2,QL,hi];rfl
  rwa [XD,QK hi',YC] at this
 by_cases h0:len = 0
 . subst h0;obtain rfl:=XJ hrl
   exact .nil _ _ _ _ _ (fun e=>by cases e) (fun e=>by cases e)
 . obtain rfl:=had (.inl (by omega))
   have hblk:E.blk 0 g:=by
    simp only [Env.blk,if_true];exact hs.fzn h b g _ hb hβ hfz
   have:=Ri.sl (w:=w) (E:=E) 0 b.sz g (off * b.sz) (cap - off) rows (fun i j=>(arr[(off + i) * b.sz + j]?).getD undef) (fun e=>by subst e;simp at hrl;omega) (by omega) hlt hblk
    (fun i q hi=>by have:=hlen _ _ (hget i q hi);simpa using this)
    (fun i q j c hi hj=>by
     obtain ⟨u,hu,_⟩:=hcell _ _ j (.i c) (hget i q hi) (by rw [QL,hj];rfl)
     rw [show off * b.sz + (i * b.sz + j) = (off + i) * b.sz + j by rw [YH];omega]
     simp [World.cell?,hg,hu])
    (fun i q j c hi hj=>by
     obtain ⟨u,hu,hr⟩:=hcell _ _ j (.i c) (hget i q hi) (by rw [QL,hj];rfl)
     rw [hu]
     cases hr with | i hr=>exact hr)
   rw [hrl] at this;exact this
def Lo (bx:Nat->Option Box) (c c':C):Option (List Prop × List Nat) :=
 match c,c' with
 | .hs h off len,.i (.sl 0 false sz rows)=>match bx h with
  | some b=>bif Nat.beq b.sz sz && !b.tr then some ([off + len <= b.rows.length,(b.rows.drop off).take len = rows.map (·.map .i)],[h]) else none
  | none=>none
 | c,c'=>(Qm c c').map fun p=>(p,[])
def En (bx:Nat->Option Box):List C->List C->Option (List Prop × List Nat)
 | [],[]=>some ([],[])
 | c :: r,c' :: r'=>match Lo bx c c',En bx r r' with
  | some (p,k),some (q,l)=>some (p ++ q,k ++ l)
  | _,_=>none
 | _,_=>none
def Io (bx:Nat->Option Box):V->V->Option (List Prop × List Nat)
 | .one c,.one c'=>Lo bx c c'
 | .agg cs,.agg cs'=>En bx cs cs'
 | _,_=>none
def Ahv (s s':St) (ks:List Nat):Prop:=∀ k ∈ ks,∀ b,A0 k s.boxes = some b->∃ b',A0 k s'.boxes = some b' /\ b'.rows = b.rows /\ b'.sz = b.sz /\ b'.fz = true /\ b'.tr = b.tr
theorem Ox {Γ:Ctx} {w:World} {E E':Env} {s s':St} {tmps:Array Value} (hs':A6 Γ w E' s' tmps) (kk:Bt w w E E') {v:Value} {c c':C} {obs:List Prop} {ks:List Nat} (hv:Rc w E v c)
  (h:Lo (A0 · s.boxes) c c' = some (obs,ks)) (ho:∀ p ∈ obs,p) (hfz:Ahv s s' ks):Rc w E' v c':=by
 unfold Lo at h;split at h
 . rename_i k off len sz rows;split at h
   . rename_i b hb
     cases hc:(Nat.beq b.sz sz && !b.tr) with
     | false=>rw [hc] at h;cases h
     | true =>
      rw [hc] at h;simp only [cond,QD,QG] at h;obtain ⟨rfl,rfl⟩:=h;simp only [QE,ZJ] at hc;obtain ⟨hc,htr⟩:=hc
      obtain ⟨b',hb',hr,hz,hf,hft⟩:=hfz k (by simp) b hb
      have o1:off + len <= b.rows.length:=ho _ (by simp)
      have o2:(b.rows.drop off).take len = rows.map (·.map .i):=ho _ (by simp)
      have hc:=QC hc
      have:=Aic hs' hb' hf (hft.trans htr) (by rw [hr];exact o1) (by rw [hr];exact o2) (hv.keep kk)
      rw [hz,hc] at this;exact .i this
   . cases h
 . simp only [QB,QG] at h;obtain ⟨p,hp,rfl,rfl⟩:=h;exact L8 (hv.keep kk) hp ho
theorem Wz {Γ:Ctx} {w:World} {E E':Env} {s s':St} {tmps:Array Value} (hs':A6 Γ w E' s' tmps) (kk:Bt w w E E'):∀ (cs cs':List C) (vs:List Value) (obs:List Prop) (ks:List Nat),Dz w E vs cs ->
  En (A0 · s.boxes) cs cs' = some (obs,ks)->(∀ p ∈ obs,p)->Ahv s s' ks->Dz w E' vs cs'
 | [],[],vs,_,_,hv,_,_,_=>⟨by simpa using hv.1,fun j v c _ hc=>by simp at hc⟩
 | [],_ :: _,_,_,_,_,h,_,_=>by simp [En] at h
 | _ :: _,[],_,_,_,_,h,_,_=>by simp [En] at h
 | c :: r,c' :: r',[],_,_,hv,_,_,_=>by have:=hv.1;simp at this
 | c :: r,c' :: r',v :: vs,obs,ks,hv,h,ho,hfz=>by
  simp only [En] at h;split at h
  . rename_i p k q l h1 h2;simp only [QD,QG] at h;obtain ⟨rfl,rfl⟩:=h;have r1:=Ox hs' kk (hv.2 0 v c rfl rfl) h1 (fun x hx=>ho x (QF.2 (.inl hx))) (fun x hx=>hfz x (QF.2 (.inl hx)))
    have r2:=Wz hs' kk r r' vs q l ⟨by simpa using hv.1,fun j v c hv' hc'=>hv.2 (j + 1) v c (by simpa using hv') (by simpa using hc')⟩ h2 (fun x hx=>ho x (QF.2 (.inr hx))) (fun x hx=>hfz x (QF.2 (.inr hx)))
    refine ⟨by simp [r2.1],fun j v' x' hv' hx'=>?_⟩
    cases j with
    | zero=>simp at hv' hx';subst hv';subst hx';exact r1
    | succ j=>exact r2.2 j v' x' (by simpa using hv') (by simpa using hx')
  . cases h
theorem Zp {Γ:Ctx} {w:World} {E E':Env} {s s':St} {tmps:Array Value} (hs':A6 Γ w E' s' tmps) (kk:Bt w w E E') {v:Value} {x x':V} {obs:List Prop} {ks:List Nat} (hv:Rv w E v x)
  (h:Io (A0 · s.boxes) x x' = some (obs,ks)) (ho:∀ p ∈ obs,p) (hfz:Ahv s s' ks):Rv w E' v x':=by
 cases hv with
 | one hv =>
  cases x' with
  | one c'=>exact .one (Ox hs' kk hv h ho hfz)
  | agg=>simp [Io] at h
 | agg hv =>
  cases x' with
  | one c'=>simp [Io] at h
  | agg cs'=>exact .agg (Wz hs' kk _ _ _ _ _ hv h ho hfz)
def Ui (s:St) (t:Nat) (x':V):Option (St × List Prop) :=
 match A0 t s.slots with
 | some (.v x)=>match Io (A0 · s.boxes) x x' with
  | some (obs,ks)=>bif Ge s.boxes ks then some ({ s with slots:=Ah t (.v x') s.slots,boxes:=Aw s.boxes ks },obs) else none
  | none=>none
 | _=>none
theorem A6.reslot {Γ:Ctx} {w:World} {E:Env} {s:St} {tmps:Array Value} (hs:A6 Γ w E s tmps) {t:Nat} {x:S} (hx:Rs w E (tmps.getD t undef) x):A6 Γ w E { s with slots:=Ah t x s.slots } tmps:=by
 refine { hs with slots:=fun i y hy=>?_ };by_cases e:i = t
 . subst e;simp only [A7,QD] at hy;subst hy;exact hx
 . simp only [A9 _ _ e] at hy;exact hs.slots i y hy
theorem Acq {Γ:Ctx} {w:World} {E:Env} {s s':St} {tmps:Array Value} (hs:A6 Γ w E s tmps) {t:Nat} {x':V} {obs:List Prop} (h:Ui s t x' = some (s',obs)) (ho:∀ p ∈ obs,p):∃ E',A6 Γ w E' s' tmps:=by
 unfold Ui at h;split at h
 . rename_i x hx;split at h
   . rename_i obs' ks hcv
     cases hc:Ge s.boxes ks with
     | false=>rw [hc] at h;cases h
     | true =>
      rw [hc] at h;simp only [cond,QD,QG] at h;obtain ⟨rfl,rfl⟩:=h;obtain ⟨E',hs',kk,_,_,hl⟩:=hs.freezes ks hc;have hv:=(hs.slots t _ hx).v_inv
      have:=Zp (s:=s) (s':={ s with boxes:=Aw s.boxes ks }) hs' kk hv hcv ho (fun k hk b hb=>by
       obtain ⟨b',h1,h2,h3,_,_,h6,h7⟩:=hl k b hb
       exact ⟨b',h1,h2,h3,h6 hk,h7⟩)
      exact ⟨E',hs'.reslot (.v this)⟩
   . cases h
 . cases h
def Ej:List (Nat × V)->St->Option (St × List Prop)
 | [],s=>some (s,[])
 | (t,x) :: r,s=>match Ui s t x with
  | some (s1,p)=>match Ej r s1 with
   | some (s2,q)=>some (s2,p ++ q)
   | none=>none
  | none=>none
theorem Dj {Γ:Ctx} {w:World} {tmps:Array Value}:∀ (l:List (Nat × V)) {E:Env} {s s':St} {obs:List Prop},A6 Γ w E s tmps->Ej l s = some (s',obs)->(∀ p ∈ obs,p)->∃ E',A6 Γ w E' s' tmps
 | [],E,s,s',obs,hs,h,_=>by
  simp only [Ej,QD,QG] at h;obtain ⟨rfl,rfl⟩:=h;exact ⟨E,hs⟩
 | (t,x) :: r,E,s,s',obs,hs,h,ho=>by
  simp only [Ej] at h;split at h
  . rename_i s1 p h1;split at h
    . rename_i s2 q h2;simp only [QD,QG] at h;obtain ⟨rfl,rfl⟩:=h;obtain ⟨E1,hs1⟩:=Acq hs h1 (fun x hx=>ho x (QF.2 (.inl hx)));exact Dj r hs1 h2 (fun x hx=>ho x (QF.2 (.inr hx)))
    . cases h
  . cases h
end Go.Ev

/- DERIVED. Regions and code, by evaluation along one path. -/
namespace Go.Ev
open Go
variable {P:Program} {T:Ty}
theorem Ac9 {id:Nat} {ops:Array Oper} {draw:Bool} {i:Nat} {o:Oper} (hi:ops[i]? = some o) {a b:Act} {v:Value}
  (h:b.defers = a.defers /\ ∀ t,(Code.region id ops draw).wr t = false->b.tmps.getD t undef = a.tmps.getD t undef) :
  (b.put o.dst v).defers = a.defers /\ ∀ t,(Code.region id ops draw).wr t = false->(b.put o.dst v).tmps.getD t undef = a.tmps.getD t undef:=by
 cases hd:o.dst with
 | none=>simpa [Act.put] using h
 | some u =>
  refine ⟨h.1,fun t ht=>?_⟩;rw [<- h.2 t ht]
  have hne:u ≠ t:=by
   rintro rfl
   have hm:o ∈ ops.toList:=by
    obtain ⟨hl,rfl⟩:=ZI.1 hi;simp
   have:(Code.region id ops draw).wr u = true:=XB.2 ⟨o,hm,by simp [hd]⟩
   rw [this] at ht;cases ht
  simp [Act.put,KB,hne]
def D2 (P:Program) (T:Ty) (K:Ak) (ops:List Oper) (Ds:List (Nat × F8)):List (Nat × Oper)->St->Option (St × List Prop)
 | [],s=>some (s,[])
 | (i,o) :: r,s=>match Ej ((A0 i Ds).getD {}).fz s with
  | some (s0,u)=>match X5 P T K ops o ((A0 i Ds).getD {}) s0 with
   | some (s1,p)=>match D2 P T K ops Ds r s1 with
    | some (s2,q)=>some (s2,u ++ (p ++ q))
    | none=>none
   | none=>none
  | none=>none
theorem Um (hT:As P T) {K:Ak} {ops:Array Oper} {Ds:List (Nat × F8)}:∀ (l:List (Nat × Oper)) (s s':St) (obs:List Prop),(∀ p ∈ l,ops[p.1]? = some p.2)->D2 P T K ops.toList Ds l s = some (s',obs)->(∀ p ∈ obs,p) ->
  ∀ (Γ:Ctx) (w:World) (E:Env) (a:Act) (ro:Option Nat) (n:Nat) (X:Act->Prop),Γ.K = K->(∀ (i:Nat) (o:Oper),ops[i]? = some o->∀ b v,X b->X (b.put o.dst v))->X a->A6 Γ w E s a.tmps->∀ (Q:Exit->Act->World->Prop),(∀ a' w',X a'->(∃ E',A6 Γ w' E' s' a'.tmps)->Q .normal a' w')->wpOpsIn (FR ro) n P ops Q (l.map (·.1)) a w
 | [],s,s',obs,_,h,_,Γ,w,E,a,ro,n,X,hK,hX,hd,hs,Q,hQ=>by
  simp only [D2,QD,QG] at h;obtain ⟨rfl,rfl⟩:=h;exact hQ a w hd ⟨E,hs⟩
 | (i,o) :: r,s,s',obs,hl,h,ho,Γ,w,E,a,ro,n,X,hK,hX,hd,hs,Q,hQ=>by
  simp only [D2] at h;split at h
  . rename_i s0 u hfz;split at h
    . rename_i s1 p hstep;split at h
      . rename_i s2 q hrest;simp only [QD,QG] at h;obtain ⟨rfl,rfl⟩:=h;obtain ⟨E0,hs⟩:=Dj _ hs hfz (fun x hx=>ho x (QF.2 (.inl hx)));have ho:∀ x ∈ p ++ q,x:=fun x hx=>ho x (QF.2 (.inr hx))
        have hi:ops[i]? = some o:=hl (i,o) (by simp)
        have ih:=Um hT r s1 s2 q (fun p hp=>hl p (by simp [hp])) hrest (fun x hx=>ho x (QF.2 (.inr hx)))
        simp only [QX,wpOpsIn,hi];unfold X5 at hstep;split at hstep
        . rename_i hg;rw [Fa hs hg];exact Cm hT hstep (fun x hx=>ho x (QF.2 (.inl hx))) Γ w E0 a ro n X hK (hX i o hi) hd hs _ Q (fun a' w' hd' ⟨E',hs'⟩=>ih Γ w' E' a' ro n X hK hX hd' hs' Q hQ)
        . rename_i hg;rw [Fa hs hg];simp only [QB,QG] at hstep;obtain ⟨s3,hput,rfl,rfl⟩:=hstep;obtain ⟨hs3,_⟩:=G8 hK hs (v:=Go.undef) Rs.undef hput;simp only [YB,if_false];exact ⟨fun _ _=>trivial,ih Γ w E0 _ ro n X hK hX (hX i o hi _ _ hd) hs3 Q hQ⟩
        . cases hstep
      . cases h
    . cases h
  . cases h
def Ac5 (l:List Nat) (sl:List (Nat × S)):List (Nat × S):=sl.filter fun p=>!l.contains p.1
theorem Aqu {t:Nat} {x:S} {l:List Nat} {sl:List (Nat × S)} (h:A0 t (Ac5 l sl) = some x):A0 t sl = some x:=by
 induction sl with
 | nil=>exact h
 | cons p r ih =>
  obtain ⟨j,y⟩:=p;unfold Ac5 at h ih;simp only [YP] at h;simp only [A0]
  cases hb:Nat.beq j t with
  | true =>
   have:=QC hb;subst this;split at h
   . simpa [A0] using h
   . rename_i hc;exfalso;simp only [ZJ,Bool.not_eq_false] at hc
     have:∀ (q:List (Nat × S)),A0 j (q.filter fun p=>!l.contains p.1) = .none:=by
      intro q
      induction q with
      | nil=>rfl
      | cons p' r' ih' =>
       obtain ⟨j',y'⟩:=p';simp only [YP];split
       . rename_i hc';simp only [A0]
         cases hb':Nat.beq j' j with
         | true =>
          have:=QC hb';subst this;simp only [ZJ] at hc';rw [hc'] at hc
          cases hc
         | false=>exact ih'
       . exact ih'
     rw [this] at h
     cases h
  | false =>
   simp only [cond];split at h
   . simp only [A0,hb,cond] at h;exact ih h
   . exact ih h
structure RD where
 ds:List (Nat × F8):=[]
 drop:List Nat:=[]
def St.forget (s:St) (l:List Nat):St:={ s with slots:=Ac5 l s.slots }
def A8 (l:List Oper):List (Nat × Oper):=l.zipIdx.map fun p=>(p.2,p.1)
def K9 (P:Program) (T:Ty) (K:Ak) (ops:Array Oper) (R:RD) (s:St):Option (St × List Prop) :=
 match D2 P T K ops.toList R.ds (A8 ops.toList) s with
 | some (s',p)=>some (s'.forget R.drop,p)
 | none=>none
theorem Ad2 (hT:As P T) {K:Ak} {id:Nat} {ops:Array Oper} {R:RD} {s s':St} {obs:List Prop} (h:K9 P T K ops R s = some (s',obs)) (ho:∀ p ∈ obs,p):Code.Den P K (.region id ops false) s .normal s':=by
 unfold K9 at h;split at h
 . rename_i s1 p hr;simp only [QD,QG] at h;obtain ⟨rfl,rfl⟩:=h;intro Γ w E a ro n hK _ hs;refine wpIn_region ?_
   have hl:List.range ops.size = (A8 ops.toList).map (·.1):=by
    apply KT;intro j;simp only [A8,XH,QL,YR];by_cases hj:j < ops.size
    . simp [hj]
    . simp [hj]
   rw [hl]
   exact Um hT _ s s1 _ (fun q hq=>by
    obtain ⟨⟨o,i⟩,hm,rfl⟩:=ZS.1 hq;have:=List.mem_zipIdx hm;simp at this ⊢;obtain ⟨h1,h2⟩:=this;rw [h2]
    simp [h1]) hr ho Γ w E a ro n (fun b=>b.defers = a.defers /\ ∀ t,(Code.region id ops false).wr t = false->b.tmps.getD t undef = a.tmps.getD t undef) hK (fun i o hi b v hb=>Ac9 hi hb) ⟨rfl,fun _ _=>rfl⟩ hs _ (fun a' w' hd' ⟨E',hs'⟩=>⟨rfl,.id hd'.1 hd'.2 ⟨E',hs'.less fun t x hx=>Aqu hx⟩⟩)
 . cases h
end Go.Ev

/- DERIVED. A body's evaluation gives the function's contract. -/
namespace Go.Ev
open Go
variable {P:Program} {T:Ty}
def params:Nat->List V->List (Nat × S)
 | _,[]=>[]
 | i,x :: r=>(i,.v x) :: params (i + 1) r
theorem Zi:∀ (l:List V) (i t:Nat) (x:S),A0 t (params i l) = some x->∃ y,x = .v y /\ i <= t /\ l[t - i]? = some y
 | [],i,t,x,h=>by cases h
 | y :: r,i,t,x,h=>by
  simp only [params,A0] at h
  cases hb:Nat.beq i t with
  | true =>
   rw [hb] at h;have:=QC hb;subst this
   exact ⟨y,(QA h).symm,QY _,by simp⟩
  | false =>
   rw [hb] at h;obtain ⟨z,hz,hle,hl⟩:=Zi r (i + 1) t x h
   refine ⟨z,hz,by omega,?_⟩
   rw [show t - i = (t - (i + 1)) + 1 by omega]
   simpa using hl
theorem B11 {K:Ak} {w:World} {E:Env} {nt:Nat} {bs:List (Nat × Box)} {args:List V} {vs:List Value} (hin:FIn w E nt bs) (hv:Kx w E vs args) (hle:args.length <= K.N) :
  A6 { w0:=w,E0:=E,nt0:=nt,pass:=handed E bs,K:=K,hold:=fun _ _=>False } w E { slots:=params 0 args,boxes:=bs,nt:=nt } (vs.toArray ++ Array.replicate (K.N - vs.toArray.size) undef) where
 fr:=⟨rfl,rfl,rfl,QY _,fun _ _ _=>rfl⟩
 wf:=hin.wf
 held:=fun _ _ h=>h.elim
 old:=fun _ _=>Iff.rfl
 nt:=QY _
 tag:=fun _ _=>rfl
 new:=fun t g ht hg=>absurd (hin.wf.tag t g hg).1 (Nat.not_lt.2 ht)
 boxes:=fun h b hb=>(hin.boxes h b hb).1
 inj:=hin.inj
 own:=fun h b g z hb hβ=>.inr ⟨⟨h,b,hb,.inl ⟨z,hβ⟩⟩,(hin.boxes h b hb).2.1,(hin.boxes h b hb).2.2⟩
 slots:=fun t x hx=>by
  obtain ⟨y,rfl,_,hl⟩:=Zi args 0 t x hx;rw [Qan] at hl;have hlt:=(QO.1 hl).1
  have hlt':t < vs.length:=by rw [hv.1];exact hlt
  have hv':vs[t]? = some vs[t]:=QN hlt';have:=hv.2 t _ _ hv' hl
  have hget:(vs.toArray ++ Array.replicate (K.N - vs.toArray.size) undef).getD t undef = vs[t]:=by
   have:t < (vs.toArray ++ Array.replicate (K.N - vs.toArray.size) undef).size:=by simp;omega
   simp [Array.getD,hlt'];omega
  rw [hget];exact .v this
 tsize:=by simp [hv.1];omega
 dom:=hin.dom
 stay:=fun _ _ _ _=>rfl
 fzn:=fun h b g z hb _ hf=>by rw [(hin.boxes h b hb).2.1] at hf;cases hf
 tow:=fun g h hg=>by
  obtain ⟨b,hb⟩:=ZC.1 (hin.odom g h hg);exact .inr ⟨h,b,hb,.inr hg⟩
theorem Ri.sameAτ {w:World} {E E':Env} (hA:E'.A = E.A) (hτ:E'.τ = E.τ) {v:Value} {x:I} (h:Ri w E v x):Ri w E' v x:=by
 refine h.keepI (QY _) (fun tag g _ hb=>?_) (fun _ _ _ _ _ h=>h);unfold Env.blk at hb ⊢;rw [hA,hτ];exact hb
def Oq (bs:List (Nat × Box)) (out:List Nat):List (Nat × Box):=bs.filter fun p=>out.contains p.1
theorem Et {h:Nat} {b:Box} {out:List Nat}:∀ {bs:List (Nat × Box)},A0 h (Oq bs out) = some b->out.contains h = true /\ A0 h bs = some b
 | [],hb=>by cases hb
 | (j,y) :: r,hb=>by
  unfold Oq at hb;simp only [YP] at hb
  have none_of:out.contains h = false->∀ q:List (Nat × Box),A0 h (q.filter fun p=>out.contains p.1) = .none:=by
   intro hc q
   induction q with
   | nil=>rfl
   | cons p' r' ih' =>
    simp only [YP];split
    . rename_i hc';simp only [A0]
      cases hb':Nat.beq p'.1 h with
      | true=>have:=QC hb';rw [this,hc] at hc';cases hc'
      | false=>exact ih'
    . exact ih'
  simp only [A0]
  cases hb':Nat.beq j h with
  | true =>
   have:=QC hb';subst this
   cases hc:out.contains j with
   | true =>
    rw [QK hc] at hb;simp only [A0,hb',cond] at hb;exact ⟨rfl,hb⟩
   | false =>
    rw [QH (by rw [hc];exact Bool.false_ne_true)] at hb
    rw [none_of hc] at hb
    cases hb
  | false =>
   simp only [cond];split at hb
   . simp only [A0,hb',cond] at hb;exact Et hb
   . exact Et hb
theorem Mj {h:Nat} {b:Box} {out:List Nat} (ho:out.contains h = true):∀ {bs:List (Nat × Box)},A0 h bs = some b->A0 h (Oq bs out) = some b
 | [],hb=>by cases hb
 | (j,y) :: r,hb=>by
  unfold Oq;simp only [YP];simp only [A0] at hb
  cases hb':Nat.beq j h with
  | true =>
   have:=QC hb';subst this;rw [QK ho];rw [hb'] at hb;simp only [A0,hb'];exact hb
  | false =>
   rw [hb'] at hb;split
   . simp only [A0,hb',cond];exact Mj ho hb
   . exact Mj ho hb
def Md (T:Ty) (s:St):ResultVar->Option (V × List Prop)
 | .tmp t=>match A0 t s.slots with
  | some (.v x)=>some (x,[])
  | _=>none
 | .cell a t=>match F6 T none t (s.val (.tmp a)) s.box with
  | some r=>match r.val with
   | .v x=>some (x,r.ob)
   | _=>none
  | none=>none
def I6 (T:Ty) (s:St) (rv:ResultVar) (d:Option V):Option (V × List Prop × List Nat) :=
 match Md T s rv with
 | some (x,p)=>match d with
  | none=>some (x,p,[])
  | some x'=>match Io s.box x x' with
   | some (q,ks)=>some (x',p ++ q,ks)
   | none=>none
 | none=>none
def Dm (T:Ty) (s:St):List ResultVar->List (Option V)->Option (List V × List Prop × List Nat)
 | [],_=>some ([],[],[])
 | rv :: r,ds=>match I6 T s rv (ds.headD none),Dm T s r ds.tail with
  | some (x,p,ks),some (xs,q,ls)=>some (x :: xs,p ++ q,ks ++ ls)
  | _,_=>none
def Da:List V->S
 | [x]=>.v x
 | xs=>.tup xs
theorem Up {Γ:Ctx} (hT:As P T) {w:World} {E:Env} {s:St} {tmps:Array Value} (hs:A6 Γ w E s tmps) {rv:ResultVar} {x:V} {obs:List Prop} (h:Md T s rv = some (x,obs)) (ho:∀ p ∈ obs,p) :
  ∃ v,(match rv with | .tmp t=>pure (tmps.getD t undef) | .cell a t=>do loadVar t (<- asAddr (tmps.getD a undef)):Sem Value).run P w = .ok v w /\ Rv w E v x:=by
 unfold Md at h;split at h
 . rename_i t;split at h
   . rename_i y hy;simp only [QD,QG] at h;obtain ⟨rfl,rfl⟩:=h
     exact ⟨_,by simp,(hs.slots t _ hy).v_inv⟩
   . cases h
 . rename_i a t;split at h
   . rename_i r hr;split at h
     . rename_i y hy;simp only [QD,QG] at h;obtain ⟨rfl,rfl⟩:=h;have hv:=hs.val_sound (a:={ tmps:=tmps,defers:=[] }) (.tmp a);simp only [Act.eval] at hv;obtain ⟨u,hu,hru,_⟩:=A3z hT hs hv hr ho;rw [hy] at hru;refine ⟨u,?_,hru.v_inv⟩;simp only [Instr.loadAt] at hu;generalize tmps.getD a undef = z at hu ⊢;unfold Instr.sureAddr at hu;unfold asAddr;split at hu
       . simpa using hu
       . simp [Go.stuck] at hu
     . cases h
   . cases h
theorem Me {Γ:Ctx} (hT:As P T) {w:World} {E E':Env} {s s':St} {tmps:Array Value} (hs:A6 Γ w E s tmps) (hs':A6 Γ w E' s' tmps) (kk:Bt w w E E'):∀ (l:List ResultVar) (ds:List (Option V)) (xs:List V) (obs:List Prop) (ks:List Nat),
  Dm T s l ds = some (xs,obs,ks)->(∀ p ∈ obs,p)->Ahv s s' ks->∃ vs:List Value,(l.mapM fun rv=>(match rv with | .tmp t=>pure (tmps.getD t undef) | .cell a t=>do loadVar t (<- asAddr (tmps.getD a undef)):Sem Value)).run P w = .ok vs w /\ Kx w E' vs xs
 | [],ds,xs,obs,ks,h,_,_=>by
  simp only [Dm,QD,QG] at h;obtain ⟨rfl,_,_⟩:=h
  exact ⟨[],by simp,rfl,fun j v c _ hc=>by simp at hc⟩
 | rv :: r,ds,xs,obs,ks,h,ho,hfz=>by
  simp only [Dm] at h;split at h
  . rename_i x p k xs' q l h1 h2;simp only [QD,QG] at h;obtain ⟨rfl,rfl,rfl⟩:=h;have ho1:∀ y ∈ p,y:=fun y hy=>ho y (QF.2 (.inl hy));have hz1:Ahv s s' k:=fun y hy=>hfz y (QF.2 (.inl hy));obtain ⟨vs,hvs,hrs⟩:=Me hT hs hs' kk r ds.tail xs' q l h2 (fun y hy=>ho y (QF.2 (.inr hy))) (fun y hy=>hfz y (QF.2 (.inr hy)))
    have one:∃ v,(match rv with | .tmp t=>pure (tmps.getD t undef) | .cell a t=>do loadVar t (<- asAddr (tmps.getD a undef)):Sem Value).run P w = .ok v w /\ Rv w E' v x:=by
     unfold I6 at h1;split at h1
     . rename_i y p' hraw;split at h1
       . simp only [QD,QG] at h1;obtain ⟨rfl,rfl,rfl⟩:=h1;obtain ⟨v,hv,hr⟩:=Up hT hs hraw ho1;exact ⟨v,hv,hr.keep kk⟩
       . rename_i x' _;split at h1
         . rename_i q' ks' hcv;simp only [QD,QG] at h1;obtain ⟨rfl,rfl,rfl⟩:=h1;obtain ⟨v,hv,hr⟩:=Up hT hs hraw (fun z hz=>ho1 z (QF.2 (.inl hz)));exact ⟨v,hv,Zp (s:=s) hs' kk hr hcv (fun z hz=>ho1 z (QF.2 (.inr hz))) hz1⟩
         . cases h1
     . cases h1
    obtain ⟨v,hv,hrv⟩:=one
    refine ⟨v :: vs,?_,by simp [hrs.1],fun j v' x' hv' hx'=>?_⟩
    . simp only [Qaz,Sem.run_bind,hv,Result.andThen_ok,hvs,Sem.run_pure]
    . cases j with
      | zero=>simp at hv' hx';subst hv';subst hx';exact hrv
      | succ j=>exact hrs.2 j v' x' (by simpa using hv') (by simpa using hx')
  . cases h
end Go.Ev

/- DERIVED. A body's evaluation gives the function's contract. -/
namespace Go.Ev
open Go
variable {P:Program} {T:Ty}
theorem Zf {fn:Func} {tmps:Array Value} {w:World} {vs:List Value}
  (h:(fn.results.toList.mapM fun rv=>(match rv with | .tmp t=>pure (tmps.getD t undef) | .cell a t=>do loadVar t (<- asAddr (tmps.getD a undef)):Sem Value)).run P w = .ok vs w) :
  (results fn tmps).run P w = .ok (if h:vs.length = 1 then vs[0] else .tuple vs.toArray) w:=by
 unfold results;rw [Array.mapM_eq_mapM_toList];rw [Sem.run_bind,map_eq_pure_bind,Sem.run_bind]
 refine Eq.trans (XU (fun r:Result (List Value)=>(r.andThen fun a w'=>(pure a.toArray:Sem (Array Value)).run P w').andThen fun vs w'=>(pure (if h:vs.size = 1 then vs[0] else .tuple vs):Sem Value).run P w') h) ?_
 simp only [Result.andThen_ok,Sem.run_pure];by_cases e:vs.length = 1
 . simp [e]
 . simp [e]
theorem A43 {w:World} {E:Env} {vs:List Value} {xs:List V} (h:Kx w E vs xs):Rs w E (if h:vs.length = 1 then vs[0] else .tuple vs.toArray) (Da xs):=by
 match xs,vs,h with
 | [],[],h=>exact .tup h
 | [x],[v],h=>exact .v (h.2 0 v x rfl rfl)
 | x :: y :: r,v :: u :: q,h =>
  have:¬ (v :: u :: q).length = 1:=by simp
  rw [dif_neg this];exact .tup h
 | [],_ :: _,h=>have:=h.1;simp at this
 | [_],[],h=>have:=h.1;simp at this
 | [_],_ :: _ :: _,h=>have:=h.1;simp at this
 | _ :: _ :: _,[],h=>have:=h.1;simp at this
 | _ :: _ :: _,[_],h=>have:=h.1;simp at this
theorem A9h {xs:List V} (h:xs.all V.noH = true):(Da xs).noH = true:=by
 match xs,h with
 | [],_=>rfl
 | [x],h=>simpa [Da,S.noH] using h
 | x :: y :: r,h=>simpa [Da,S.noH] using h
theorem B1x (hT:As P T) {f:FuncId} {fn:Func} {c:Code} {K:Ak} {nt:Nat} {bs:List (Nat × Box)} {args:List V} {x:Exit} {s':St}
  (hf : P.funcs[f]? = some fn) (hname : (fn.name == "runtime.NumGoroutine") = false) (hb : fn.body = some c) (hN : fn.ntmps = K.N) (hmv : K.mv = []) (hargs : args.length <= K.N)
  (hx:x = .normal \/ x = .ret) (hd:Code.Den P K c { slots:=params 0 args,boxes:=bs,nt:=nt } x s')
  {ds:List (Option V)} {xs:List V} {obs:List Prop} {ks:List Nat} (hr:Dm T s' fn.results.toList ds = some (xs,obs,ks)) (ho:∀ p ∈ obs,p) (hc:Ge s'.boxes ks = true)
  (out:List Nat) (hres:xs.all V.noH = true) (hout:∀ h b,A0 h (Oq (Aw s'.boxes ks) out) = some b->b.fz = false /\ b.hf = true) (hkeys:∀ h b,A0 h bs = some b->out.contains h = true) (hout2:∀ h,out.contains h = true->h < 2000) :
  Ix P f nt [] bs args (Da xs) s'.nt (Oq (Aw s'.boxes ks) out):=by
 refine ⟨⟨fn,hf,hname,by rw [hb];rfl⟩,fun w E vs hin hv=>?_⟩
 refine Adt hf hb hN rfl hx hd (B11 hin hv hargs) ?_;intro a w' E1 hs1
 change A6 { w0:=w,E0:=E,nt0:=nt,pass:=handed E bs,K:=K,hold:=fun _ _=>False } w' E1 s' a.tmps at hs1
 obtain ⟨E',hs',kk,hβ,hτ,hl⟩:=hs1.freezes ks hc
 obtain ⟨rs,hrun,hrs⟩:=Me hT (s:=s') (s':={ s' with boxes:=Aw s'.boxes ks }) hs1 hs' kk fn.results.toList ds xs obs ks hr ho (fun k hk b hb=>by
  obtain ⟨b',h1,h2,h3,_,_,h6,h7⟩:=hl k b hb
  exact ⟨b',h1,h2,h3,h6 hk,h7⟩)
 have hres':=Zf hrun;have hread:=A43 hrs
 let Ef:Env:={ A:=E'.A,τ:=E'.τ,β:=fun h=>if out.contains h then E'.β h else none,ω:=E'.ω }
 have hβout:∀ h b,A0 h (Oq (Aw s'.boxes ks) out) = some b->Ef.β h = E'.β h:=fun h b hb=>by
  show (if out.contains h then E'.β h else none) = _
  rw [QK (Et hb).1]
 have hkeep:∀ h,1000 <= h->h < 2000->E'.β h = E.β h:=fun h hh hh2=>hs'.stay h hh hh2 (by rw [hmv];rfl)
 have goal:∃ v Ef',(Ending.returned (if h:rs.length = 1 then rs[0] else .tuple rs.toArray) = .returned v) /\ Rs w' Ef' v (Da xs) /\ B01 w E nt bs [] w' Ef' s'.nt (Oq (Aw s'.boxes ks) out):=by
  refine ⟨_,Ef,rfl,Rs.noH (E:=E') (E':=Ef) rfl rfl (A9h hres) hread,⟨hs'.fr,⟨hs'.wf.alt,hs'.wf.tag,hs'.wf.inj,hs'.wf.om⟩,hs'.old,hs'.nt,hs'.tag,hs'.new,fun h b hb=>?_,fun h h' b b' g g' z z' hb hb' hz hz'=>?_,fun h b g z hb hz=>?_,fun h b hb _=>?_,hs'.tow⟩⟩
  . obtain ⟨hfz,hhf⟩:=hout h b hb;obtain ⟨g,cap,hβ',⟨arr,a1,a2,a3,a4,a5,a6,a7,a8,a9⟩,hω,hS⟩:=hs'.boxes h b (Et hb).2;rw [Env.rd_τ] at a9
    refine ⟨⟨g,cap,(hβout h b hb).trans hβ',⟨arr,a1,a2,a3,a4,a5,fun i r j c hi hj=>?_,a7,fun e=>(Env.rd_A (E:=Ef) hω).2 ((Env.rd_A (E:=E') hω).1 (a8 e)),by rw [Env.rd_τ];exact a9⟩,hω,hS⟩,hfz⟩
    obtain ⟨v,hv',hrc⟩:=a6 i r j c hi hj;obtain ⟨y,rfl⟩:=a7 hhf i r j c hi hj
    cases hrc with | i hri=>exact ⟨v,hv',.i (Ri.sameAτ (E:=E'.rd h b.tr) (E':=Ef.rd h b.tr) (by cases b.tr <;> rfl) (by cases b.tr <;> rfl) hri)⟩
  . rw [hβout h b hb] at hz;rw [hβout h' b' hb'] at hz';exact hs'.inj h h' b b' g g' z z' (Et hb).2 (Et hb').2 hz hz'
  . rw [hβout h b hb] at hz;rcases hs'.own h b g z (Et hb).2 hz with h' | h'
    . exact .inl h'
    . have hE:=(hkeep h h'.2.2 (hout2 h (Et hb).1)).symm.trans hz;obtain ⟨b0,hb0⟩:=ZC.1 (hin.dom h _ hE);exact .inr ⟨b0,hb0,hE⟩
  . have h1:=(hin.boxes h b hb).2.2
    have h2:Ef.β h = E.β h:=by
     show (if out.contains h then E'.β h else none) = _
     rw [QK (hkeys h b hb),hkeep h h1 (hout2 h (hkeys h b hb))]
    refine ⟨h2,?_⟩;obtain ⟨g,cap,hβ',_⟩:=(hin.boxes h b hb).1;have:=hs'.dom h _ ((hkeep h h1 (hout2 h (hkeys h b hb))).trans hβ');obtain ⟨b',hb'⟩:=ZC.1 this;rw [Mj (hkeys h b hb) hb'];rfl
 obtain ⟨v,Ef',e,h1,h2⟩:=goal;exact ⟨_,hres',v,Ef',e,h1,h2⟩
theorem Ad8 (bs:List (Nat × Box)):Oq bs [] = []:=by
 induction bs with
 | nil=>rfl
 | cons p r ih=>simp [Oq]
theorem Ar8 (hT:As P T) {f:FuncId} {fn:Func} {c:Code} {K:Ak} {nt:Nat} {args:List V} {x:Exit} {s':St}
  (hf : P.funcs[f]? = some fn) (hname : (fn.name == "runtime.NumGoroutine") = false) (hb : fn.body = some c) (hN : fn.ntmps = K.N) (hmv : K.mv = []) (hargs : args.length <= K.N)
  (hx:x = .normal \/ x = .ret) (hd:Code.Den P K c { slots:=params 0 args,boxes:=[],nt:=nt } x s')
  {ds:List (Option V)} {xs:List V} {obs:List Prop} {ks:List Nat} (hr:Dm T s' fn.results.toList ds = some (xs,obs,ks)) (ho:∀ p ∈ obs,p) (hc:Ge s'.boxes ks = true)
  (hres:xs.all V.noH = true):Ix P f nt [] [] args (Da xs) s'.nt []:=by
 have:=B1x hT hf hname hb hN hmv hargs hx hd hr ho hc [] hres (fun h b hb=>by rw [Ad8] at hb;cases hb) (fun h b hb=>by cases hb) (fun h hh=>by cases hh)
 rw [Ad8] at this;exact this
end Go.Ev

/- DERIVED. A body's evaluation gives the contract of a function that is handed boxes or hands out boxes. -/
namespace Go.Ev
open Go
variable {P:Program} {T:Ty}
theorem Axn (hT:As P T) {f:FuncId} {fn:Func} {c:Code} {K:Ak} {nt:Nat} {bs bs':List (Nat × Box)} {args:List V} {x:Exit} {s':St}
  (hf : P.funcs[f]? = some fn) (hname : (fn.name == "runtime.NumGoroutine") = false) (hb : fn.body = some c) (hN : fn.ntmps = K.N) (hmv : K.mv = []) (hargs : args.length <= K.N)
  (hx:x = .normal \/ x = .ret) (hd:Code.Den P K c { slots:=params 0 args,boxes:=bs,nt:=nt } x s')
  {ds:List (Option V)} {xs:List V} {obs:List Prop} {ks:List Nat} (hr:Dm T s' fn.results.toList ds = some (xs,obs,ks)) (ho:∀ p ∈ obs,p) (hc:Ge s'.boxes ks = true)
  (σ ρ:Nat->Nat)
  (hb':∀ k b,A0 k bs' = some b->A0 (σ k) (Aw s'.boxes ks) = some b /\ b.fz = false /\ b.hf = true /\ (σ k < 1000 \/ (σ k = k /\ k < 2000)))
  (hσ:∀ k k',(A0 k bs').isSome = true->(A0 k' bs').isSome = true->σ k = σ k'->k = k')
  (hρ:(Da xs).okH (fun h=>(A0 (ρ h) bs').isSome && Nat.beq (σ (ρ h)) h) = true)
  (hkeys:∀ k b,A0 k bs = some b->σ k = k /\ (A0 k bs').isSome = true /\ k < 2000) :
  Ix P f nt [] bs args ((Da xs).ren ρ) s'.nt bs':=by
 refine ⟨⟨fn,hf,hname,by rw [hb];rfl⟩,fun w E vs hin hv=>?_⟩
 refine Adt hf hb hN rfl hx hd (B11 hin hv hargs) ?_;intro a w' E1 hs1
 change A6 { w0:=w,E0:=E,nt0:=nt,pass:=handed E bs,K:=K,hold:=fun _ _=>False } w' E1 s' a.tmps at hs1
 obtain ⟨E',hs',kk,hβ,hτ,hl⟩:=hs1.freezes ks hc
 obtain ⟨rs,hrun,hrs⟩:=Me hT (s:=s') (s':={ s' with boxes:=Aw s'.boxes ks }) hs1 hs' kk fn.results.toList ds xs obs ks hr ho (fun k hk b hb=>by
  obtain ⟨b',h1,h2,h3,_,_,h6,h7⟩:=hl k b hb
  exact ⟨b',h1,h2,h3,h6 hk,h7⟩)
 have hres':=Zf hrun;have hread:=A43 hrs
 let P':Nat->Nat->Prop:=fun g k=>(A0 k bs').isSome = true /\ E'.ω g = some (σ k)
 let Ef:Env:={ A:=E'.A,τ:=E'.τ,β:=fun k=>if (A0 k bs').isSome then E'.β (σ k) else none,ω:=fun g=>@dite _ (∃ k,P' g k) (Classical.propDecidable _) (fun h=>some h.choose) (fun _=>none) }
 have ωf:∀ g k,Ef.ω g = some k ↔ P' g k:=by
  intro g k;show (@dite _ (∃ k,P' g k) (Classical.propDecidable _) (fun h=>some h.choose) (fun _=>none)) = some k ↔ _;by_cases h:∃ k,P' g k
  . rw [dif_pos h];have hc:=h.choose_spec;constructor
    . intro e;rw [<- QA e];exact hc
    . intro hk;congr 1;exact hσ _ _ hc.1 hk.1 (QA (hc.2.symm.trans hk.2))
  . rw [dif_neg h];exact ⟨(fun e=>nomatch e),fun hk=>absurd ⟨k,hk⟩ h⟩
 have hβout:∀ k b,A0 k bs' = some b->Ef.β k = E'.β (σ k):=fun k b hb=>by
  show (if (A0 k bs').isSome then E'.β (σ k) else none) = _
  rw [QK (by rw [hb];rfl)]
 have hkeep:∀ h,1000 <= h->h < 2000->E'.β h = E.β h:=fun h hh hh2=>hs'.stay h hh hh2 (by rw [hmv];rfl)
 have goal:∃ v Ef',(Ending.returned (if h:rs.length = 1 then rs[0] else .tuple rs.toArray) = .returned v) /\ Rs w' Ef' v ((Da xs).ren ρ) /\ B01 w E nt bs [] w' Ef' s'.nt bs':=by
  refine ⟨_,Ef,rfl,Rs.ren (E:=E') (E':=Ef) (Q:=fun _=>True) (fun v y h _=>Ri.sameAτ (E:=E') (E':=Ef) rfl rfl h) (fun h hh=>?_) hρ S.allI_true hread,⟨hs'.fr,⟨hs'.wf.alt,hs'.wf.tag,hs'.wf.inj,fun g k hk=>hs'.wf.om g _ ((ωf g k).1 hk).2⟩,hs'.old,hs'.nt,hs'.tag,hs'.new,fun k b hb=>?_,fun k k' b b' g g' z z' hb hb2 hz hz' hne=>?_,fun k b g z hb hz=>?_,fun k b hb _=>?_,fun g k hk=>hs'.tow g _ ((ωf g k).1 hk).2⟩⟩
  . simp only [QE] at hh
    show (if (A0 (ρ h) bs').isSome then E'.β (σ (ρ h)) else none) = _
    rw [QK hh.1,QC hh.2]
  . obtain ⟨h1,hfz,hhf,_⟩:=hb' k b hb;obtain ⟨g,cap,hβ',⟨arr,a1,a2,a3,a4,a5,a6,a7,a8,a9⟩,hω,hS⟩:=hs'.boxes _ b h1;rw [Env.rd_τ] at a9
    have hks:(A0 k bs').isSome = true:=by rw [hb];rfl
    have hωf:Ef.ω g = none:=by
     cases e:Ef.ω g with
     | none=>rfl
     | some k0=>have:=((ωf g k0).1 e).2;rw [hω] at this;cases this
    refine ⟨⟨g,cap,(hβout k b hb).trans hβ',⟨arr,a1,a2,a3,a4,a5,fun i r j c hi hj=>?_,a7,fun e=>(Env.rd_A (E:=Ef) hωf).2 ((Env.rd_A (E:=E') hω).1 (a8 e)),by rw [Env.rd_τ];exact a9⟩,hωf,fun e=>⟨fun i r j y len cap a h1 h2 h3 h4 h5=>(ωf _ _).2 ⟨hks,(hS e).1 i r j y len cap a h1 h2 h3 h4 h5⟩,(hS e).2⟩⟩,hfz⟩
    obtain ⟨v,hv',hrc⟩:=a6 i r j c hi hj;obtain ⟨y,rfl⟩:=a7 hhf i r j c hi hj
    cases hrc with | i hri =>
     refine ⟨v,hv',.i ?_⟩
     cases htr:b.tr with
     | false =>
      rw [htr] at hri;exact Ri.sameAτ (E:=E') (E':=Ef) rfl rfl hri
     | true =>
      rw [htr] at hri;refine hri.keepI (QY _) (fun tag g' _ hb'=>?_) (fun _ _ _ _ _ h=>h);unfold Env.blk at hb' ⊢;split
      . rename_i e;rw [QK e] at hb';exact fun h3=>hb' ⟨h3.1,fun h4=>h3.2 ((ωf g' k).2 ⟨hks,h4⟩)⟩
      . rename_i e;rw [QH e] at hb';exact hb'
  . rw [hβout k b hb] at hz;rw [hβout k' b' hb2] at hz'
    exact hs'.inj _ _ b b' g g' z z' (hb' k b hb).1 (hb' k' b' hb2).1 hz hz' fun e=>hne (hσ k k' (by rw [hb];rfl) (by rw [hb2];rfl) e)
  . rw [hβout k b hb] at hz;obtain ⟨h1,_,_,h4⟩:=hb' k b hb;rcases hs'.own _ b g z h1 hz with h' | h'
    . exact .inl h'
    . obtain ⟨hk,hk2⟩:σ k = k /\ k < 2000:=h4.resolve_left (by have:=h'.2.2;omega)
      rw [hk] at hz h';have hE:=(hkeep k h'.2.2 hk2).symm.trans hz;obtain ⟨b0,hb0⟩:=ZC.1 (hin.dom k _ hE);exact .inr ⟨b0,hb0,hE⟩
  . have h1:=(hin.boxes k b hb).2.2;obtain ⟨h2,h3,h4⟩:=hkeys k b hb;refine ⟨?_,h3⟩
    show (if (A0 k bs').isSome then E'.β (σ k) else none) = _
    rw [QK h3,h2,hkeep k h1 h4]
 obtain ⟨v,Ef',e,h1,h2⟩:=goal;exact ⟨_,hres',v,Ef',e,h1,h2⟩
end Go.Ev

/- DERIVED. The types' table off the program itself. -/
namespace Go.Ev
open Go
def Awm (P:Program):Ty:=fun t=>match P.underlying t with
 | some d=>match P.info? t with
  | some inf=>match inf.zero with
   | some z=>bif Nat.beq z.cells.size inf.size && z.cells.toList.all (fun v=>v.oneCell') then some ⟨d,inf.size,inf.bytes,z,!P.stoodInHeld t && !P.eqGuardType P.depth t⟩ else none
   | none=>none
  | none=>none
 | none=>none
theorem P4 (P:Program):As P (Awm P):=by
 intro t i h;unfold Awm at h;split at h
 . rename_i d hd;split at h
   . rename_i inf hinf;split at h
     . rename_i z hz
       cases hc:(Nat.beq z.cells.size inf.size && z.cells.toList.all (fun v=>v.oneCell')) with
       | false=>rw [hc] at h;cases h
       | true =>
        rw [hc] at h;obtain rfl:=QA h;simp only [QE] at hc
        exact ⟨hd,⟨inf,hinf,rfl,rfl,hz⟩,QC hc.1,hc.2,fun h=>by simpa using h⟩
     . cases h
   . cases h
 . cases h
end Go.Ev

/- DERIVED. Operations that only put a value: what they come to hangs on what they A0 at alone. -/
namespace Go.Ev
open Go
variable {P:Program} {T:Ty}
def quiet (P:Program) (T:Ty) (o:Oper) (D:F8) (s:St):Option (S × List Prop) :=
 match D.call with
 | some cd=>match o.op with
  | .call c=>match c.callee with
   | .value f=>match Jr (s.val f) with
    | some (fid,caps)=>match Hd s.box (c.args.toList.map s.val ++ caps.map fun x=>.v (.one (.i x))) cd.args with
     | some (obs,bor)=>bif cd.r.noH && bor.all s.lendable then
       some (D.val.getD cd.r,Ix P fid s.nt [] [] cd.args cd.r s.nt [] :: (bor = [] \/ Jw cd.r) :: (cd.r = D.val.getD cd.r) :: obs) else none
     | none=>none
    | none=>none
   | _=>none
  | _=>none
 | none=>match Ck T D.cells o s with
  | some r=>match r.eff with
   | .none=>some (D.val.getD r.val,r.ob ++ (match D.val with | none=>[] | some x=>[r.val = x]))
   | _=>none
  | none=>none
theorem Qt {K:Ak} {o:Oper} {D:F8} {s s':St} {x:S} {obs:List Prop} (h:quiet P T o D s = some (x,obs)) (hput:s.putD K o.dst x = some s') :
  ∃ D' obs',C9 P T K o D' s = some (s',obs') /\ ((∀ p ∈ obs,p)->∀ p ∈ obs',p):=by
 unfold quiet at h;split at h
 . rename_i cd hcd;split at h
   . rename_i c hop;split at h
     . rename_i f hf;split at h
       . rename_i fid caps hcal;split at h
         . rename_i obs' bor hargs
           cases hc:(cd.r.noH && bor.all s.lendable) with
           | false=>rw [hc] at h;cases h
           | true =>
            rw [hc] at h;simp only [cond,QD,QG] at h;obtain ⟨rfl,rfl⟩:=h;refine ⟨{ D with own:=none,callB:=none,call:=some { cd with nt:=s.nt } },_,?_,fun h=>h⟩;unfold C9;simp only [hop,hf,hcal,hargs,hc,cond];rw [show ({ s with nt:=s.nt }:St) = s from rfl,hput];rfl
         . cases h
       . cases h
     . cases h
   . cases h
 . rename_i hcall;split at h
   . rename_i r hr;split at h
     . rename_i heff;simp only [QD,QG] at h;obtain ⟨rfl,rfl⟩:=h
       refine ⟨{ D with own:=none,callB:=none,rows:=none },r.ob ++ [] ++ (match D.val with | none=>[] | some x=>[r.val = x]),?_,fun h=>by simpa using h⟩
       unfold C9;simp only [hcall,hr,heff,St.eff];rw [hput];rfl
     . cases h
   . cases h
theorem Aqa (hT:As P T) {K:Ak} {o:Oper} {D:F8} {s s':St} {x:S} {obs:List Prop} (h:quiet P T o D s = some (x,obs)) (ho:∀ p ∈ obs,p) (hput:s.putD K o.dst x = some s'):Cb P K o s s':=by
 obtain ⟨D',obs',h1,h2⟩:=Qt h hput;exact Cm hT h1 (h2 ho)
theorem Abm {hint:Option (List C)} {o:Oper} {s1 s2:St} (hb:s2.boxes = s1.boxes) (hv:∀ x ∈ o.op.operands,s2.val x = s1.val x):Ck T hint o s2 = Ck T hint o s1:=by
 obtain ⟨dst,op,type,pos,after,guard⟩:=o
 have hbx:s2.box = s1.box:=by funext k;simp only [St.box,hb]
 have pairs:∀ ps:Array (Nat × Operand),(∀ x ∈ (ps.toList.map (·.2)).toArray,s2.val x = s1.val x)->H9 s2 ps = H9 s1 ps:=fun ps hp =>
  ZE fun p hm=>by rw [hp p.2 (List.mem_toArray.2 (ZS.2 ⟨p,hm,rfl⟩))]
 cases op <;> simp only [Op.operands] at hv <;> simp only [Ck,hbx]
 case build t ps=>rw [pairs ps hv]
 case buildSlice t n ps=>cases dst <;> simp only [pairs ps hv]
 case makeFunc fn first captured =>
  have e:captured.toList.map s2.val = captured.toList.map s1.val:=ZE fun x hx=>hv x (Array.mem_append.2 (.inr (Array.mem_toList_iff.1 hx)))
  cases fn <;> simp only [e]
 case slice t x lo hi mx =>
  have e1:s2.val x = s1.val x:=hv x (by simp)
  have e2:lo.map s2.val = lo.map s1.val:=by cases lo with | none=>rfl | some y=>simp [hv y (by simp)]
  have e3:hi.map s2.val = hi.map s1.val:=by cases hi with | none=>rfl | some y=>simp [hv y (by simp)]
  cases mx <;> simp only [e1,e2,e3]
 case makeSlice t l c =>
  cases l <;> cases c <;> cases dst <;> simp only [hv _ (List.mem_toArray.2 (YM ..))]
 case call c =>
  have hargs:∀ x ∈ c.args.toList,s2.val x = s1.val x:=fun x hx=>hv x (by simp [Call.operands];exact .inr (by simpa using hx))
  cases hc:c.callee with
  | value f=>rfl
  | invoke r m=>rfl
  | builtin b =>
   generalize c.args.toList = l at hargs;rcases l with _ | ⟨x,_ | ⟨y,_ | ⟨z,r⟩⟩⟩
   . cases b <;> rfl
   . have h:=hargs x (by simp)
     generalize c.argTypes.toList = m
     cases b <;> first | rfl | (rcases m with _ | ⟨t,_ | ⟨t',r⟩⟩ <;> first | rfl | exact XU (K3 T t) h)
   . have h:=hargs x (by simp)
     have h':=hargs y (by simp)
     generalize c.argTypes.toList = m
     cases b
     case append=>rcases m with _ | ⟨t,_ | ⟨t',_ | ⟨t'',r⟩⟩⟩ <;> cases dst <;> first | rfl | (simp only [h,h'];done)
     case max=>simp only [h,h']
     case min=>simp only [h,h']
     all_goals rfl
   . cases b <;> rfl
 all_goals (first | rfl | (simp_all;done))
theorem Ai7 {o:Oper} {D:F8} {s1 s2:St} (hb:s2.boxes = s1.boxes) (hn:s2.nt = s1.nt) (hv:∀ x ∈ o.op.operands,s2.val x = s1.val x):quiet P T o D s2 = quiet P T o D s1:=by
 unfold quiet;rw [Abm hb hv]
 cases hD:D.call with
 | none=>rfl
 | some cd =>
  cases hop:o.op with
  | call c =>
   have hbx:s2.box = s1.box:=by funext k;simp only [St.box,hb]
   have hl:s2.lendable = s1.lendable:=by funext k;simp only [St.lendable,hbx]
   cases hc:c.callee with
   | value f =>
    have hf:s2.val f = s1.val f:=hv f (by simp [hop,Op.operands,Call.operands,hc])
    have hargs:c.args.toList.map s2.val = c.args.toList.map s1.val:=ZE fun x hx=>hv x (by simp [hop,Op.operands,Call.operands,hc];exact .inr (by simpa using hx))
    simp only [hc,hf,hargs,hbx,hl,hn]
   | _=>simp only [hc]
  | _=>rfl
end Go.Ev

/- DERIVED. Regions that draw their order. -/
namespace Go.Ev
open Go
variable {P:Program} {T:Ty}
def K0 (ops:List Oper):Nat->Nat->Nat->Bool
 | 0,_,_=>false
 | n + 1,j,i=>match ops[i]? with
  | some o=>o.after.toList.any fun e=>Region.binds .any e && (Nat.beq e.on j || K0 ops n j e.on)
  | none=>false
def H7 (ops:Array Oper) (L:Nat->Bool):Prop:=∀ (j:Nat) (o:Oper),L j = true->ops[j]? = some o->∀ e ∈ o.after,Region.binds .any e = true->L e.on = true
theorem Ml {ops:Array Oper} {L:Nat->Bool} (hc:H7 ops L):∀ (n:Nat) {j i:Nat} {o:Oper},ops[i]? = some o->(∀ e ∈ o.after,Region.binds .any e = true->L e.on = true)->K0 ops.toList n j i = true->L j = true
 | 0,_,_,_,_,_,h=>by cases h
 | n + 1,j,i,o,hi,hd,h=>by
  have hi':ops.toList[i]? = some o:=by simpa using hi
  simp only [K0,hi'] at h;obtain ⟨e,he,hb⟩:=XB.1 h;simp only [QE,XL] at hb
  have hL:=hd e (by simpa using he) hb.1
  rcases hb.2 with h1 | h1
  . rw [<- QC h1];exact hL
  . cases hoe:ops[e.on]? with
    | none =>
     cases n with
     | zero=>cases h1
     | succ n =>
      have:ops.toList[e.on]? = none:=by simpa using hoe
      simp [K0,this] at h1
    | some oe=>exact Ml hc n hoe (hc e.on oe hL hoe) h1
def Tc (ops:Array Oper) (oi oj:Oper):Bool :=
 match oj.dst with
 | some d=>(oi.looksAt ops).any (Nat.beq d) || (match oi.dst with | some d'=>Nat.beq d d' | none=>false)
 | none=>false
def Aqf (ops:Array Oper) (i j:Nat):Bool :=
 match ops.toList[i]?,ops.toList[j]? with
 | some oi,some oj=>Nat.beq i j || !Tc ops oi oj || (bif Nat.blt j i then K0 ops.toList ops.size j i else K0 ops.toList ops.size i j)
 | _,_=>false
def Dv (ops:Array Oper) (m:Nat):Bool :=
 Nat.ble m ops.size && ((List.range m).all fun i=>(List.range m).all fun j=>Aqf ops i j) &&
 ((List.range ops.size).all fun i=>Nat.blt i m || (List.range i).all fun j=>K0 ops.toList ops.size j i) &&
 ((List.range ops.size).all fun i=>match ops.toList[i]? with
  | some o=>o.after.toList.all fun e=>!Region.binds .any e || Nat.blt e.on i
  | none=>true)
def Iz (L:Nat->Bool):List (Nat × Nat × S)->List (Nat × S)->List (Nat × S)
 | [],sl=>sl
 | (i,t,x) :: r,sl=>if L i then Ah t x (Iz L r sl) else Iz L r sl
def St.over (s:St) (L:Nat->Bool) (xs:List (Nat × Nat × S)):St:={ s with slots:=Iz L xs s.slots }
def Qu (P:Program) (T:Ty) (ops:List Oper) (o:Oper) (D:F8) (s:St):Option (S × List Prop) :=
 match Gu s ops o with
 | some true=>quiet P T o D s
 | some false=>some (.tup [],[])
 | none=>none
def Fl (P:Program) (T:Ty) (K:Ak) (ops:List Oper) (Ds:List (Nat × F8)):List (Nat × Oper)->List (Nat × Nat × S)->St->Option (List (Nat × Nat × S) × St × List Prop)
 | [],xs,s=>some (xs,s,[])
 | (i,o) :: r,xs,s=>match o.dst with
  | some t=>match Qu P T ops o ((A0 i Ds).getD {}) s with
   | some (x,p)=>bif Nat.blt t K.N then (match Fl P T K ops Ds r ((i,t,x) :: xs) { s with slots:=Ah t x s.slots } with
    | some (ys,s',q)=>some (ys,s',p ++ q)
    | none=>none) else none
   | none=>none
  | none=>none
def Jz (P:Program) (T:Ty) (K:Ak) (ops:Array Oper) (s:St):List (Nat × Nat × S)->Prop
 | []=>True
 | (i,t,x) :: r=>i = r.length /\ (∃ (o:Oper) (D:F8) (p:List Prop),ops[i]? = some o /\ o.dst = some t /\ t < K.N /\ Qu P T ops.toList o D (s.over (fun _=>true) r) = some (x,p) /\ ∀ q ∈ p,q) /\ Jz P T K ops s r
theorem Ze {K:Ak} {ops:Array Oper} {Ds:List (Nat × F8)} {s0:St}:∀ (l:List (Nat × Oper)) (xs ys:List (Nat × Nat × S)) (s':St) (obs:List Prop),Jz P T K ops s0 xs->(∀ (k:Nat) (p:Nat × Oper),l[k]? = some p->p.1 = xs.length + k /\ ops[p.1]? = some p.2) ->
  Fl P T K ops.toList Ds l xs (s0.over (fun _=>true) xs) = some (ys,s',obs)->(∀ p ∈ obs,p)->Jz P T K ops s0 ys /\ ys.length = xs.length + l.length /\ s' = s0.over (fun _=>true) ys
 | [],xs,ys,s',obs,hg,_,h,_=>by
  simp only [Fl,QD,QG] at h;obtain ⟨rfl,rfl,_⟩:=h
  exact ⟨hg,by simp,rfl⟩
 | (i,o) :: r,xs,ys,s',obs,hg,hl,h,ho=>by
  simp only [Fl] at h;split at h
  . rename_i t hdst;split at h
    . rename_i x p hq
      cases hN:Nat.blt t K.N with
      | false=>rw [hN] at h;cases h
      | true =>
       rw [hN] at h;simp only [cond] at h;split at h
       . rename_i zs s2 q hrest;simp only [QD,QG] at h;obtain ⟨rfl,rfl,rfl⟩:=h;have h0:=hl 0 (i,o) rfl;simp only [YY] at h0
         have hg':Jz P T K ops s0 ((i,t,x) :: xs):=⟨h0.1,⟨o,_,p,h0.2,hdst,by simpa [ZQ] using hN,hq,fun y hy=>ho y (QF.2 (.inl hy))⟩,hg⟩
         obtain ⟨g1,g2,g3⟩:=Ze r ((i,t,x) :: xs) zs s2 q hg' (fun k p hk=>by
          have:=hl (k + 1) p (by simpa using hk)
          exact ⟨by simp;omega,this.2⟩) (by
           have e:s0.over (fun _=>true) ((i,t,x) :: xs) = { s0.over (fun _=>true) xs with slots:=Ah t x (s0.over (fun _=>true) xs).slots }:=rfl
           rw [e];exact hrest) (fun y hy=>ho y (QF.2 (.inr hy)))
         exact ⟨g1,by simp at g2 ⊢;omega,g3⟩
       . cases h
    . cases h
  . cases h
theorem Jz.idx {K:Ak} {ops:Array Oper} {s:St}:∀ {xs:List (Nat × Nat × S)},Jz P T K ops s xs->∀ {e:Nat × Nat × S},e ∈ xs->e.1 < xs.length /\ ∃ o,ops[e.1]? = some o /\ o.dst = some e.2.1
 | [],_,_,h=>by cases h
 | (i,t,x) :: r,⟨h1,⟨o,_,_,h2,h3,_⟩,h4⟩,e,h=>by
  rcases QT.1 h with rfl | h
  . exact ⟨by simp [h1],o,h2,h3⟩
  . obtain ⟨h5,h6⟩:=Jz.idx h4 h
    exact ⟨by simp;omega,h6⟩
theorem Jz.at {K:Ak} {ops:Array Oper} {s:St} {i:Nat}:∀ {xs:List (Nat × Nat × S)},Jz P T K ops s xs->i < xs.length->∃ pre t x r,xs = pre ++ (i,t,x) :: r /\ r.length = i /\ Jz P T K ops s ((i,t,x) :: r) /\ ∀ e ∈ pre,i < e.1
 | [],_,h=>by simp at h
 | (j,t,x) :: r,hg,h=>by
  by_cases e:i = r.length
  . subst e;have:=hg.1;subst this
    exact ⟨[],t,x,r,rfl,rfl,hg,fun e he=>by cases he⟩
  . obtain ⟨pre,t',x',r',h1,h2,h3,h4⟩:=Jz.at (i:=i) (xs:=r) hg.2.2 (by simp at h;omega)
    refine ⟨(j,t,x) :: pre,t',x',r',by rw [h1];rfl,h2,h3,fun e he=>?_⟩
    rcases QT.1 he with rfl | he
    . have:=hg.1;simp at h ⊢;omega
    . exact h4 e he
theorem I9 {L:Nat->Bool} {u:Nat} {sl:List (Nat × S)} {ys:List (Nat × Nat × S)}:∀ {pre:List (Nat × Nat × S)},(∀ e ∈ pre,L e.1 = true->e.2.1 ≠ u)->A0 u (Iz L (pre ++ ys) sl) = A0 u (Iz L ys sl)
 | [],_=>rfl
 | (i,t,x) :: r,h=>by
  simp only [YK,Iz];split
  . rename_i hL
    rw [A9 _ _ (fun e=>h (i,t,x) (by simp) hL e.symm)]
    exact I9 fun e he=>h e (by simp [he])
  . exact I9 fun e he=>h e (by simp [he])
theorem F5 {L L':Nat->Bool} {u:Nat} {sl:List (Nat × S)}:∀ {r:List (Nat × Nat × S)},(∀ e ∈ r,e.2.1 = u->L e.1 = L' e.1)->A0 u (Iz L r sl) = A0 u (Iz L' r sl)
 | [],_=>rfl
 | (i,t,x) :: r,h=>by
  have ih:A0 u (Iz L r sl) = A0 u (Iz L' r sl):=F5 fun e he=>h e (by simp [he])
  simp only [Iz];by_cases e:t = u
  . have:=h (i,t,x) (by simp) e
    simp only at this;rw [this];split
    . subst e;rw [A7,A7]
    . exact ih
  . split
    . rw [A9 _ _ (Ne.symm e)];split
      . rw [A9 _ _ (Ne.symm e)];exact ih
      . exact ih
    . split
      . rw [A9 _ _ (Ne.symm e)];exact ih
      . exact ih
end Go.Ev

/- DERIVED. Regions that draw their order: any order comes to the same. -/
namespace Go.Ev
open Go
variable {P:Program} {T:Ty}
theorem Ab3 {ops:Array Oper} {m:Nat} (hok:Dv ops m = true) {i j:Nat} {oi oj:Oper} (hi:i < m) (hj:j < m) (hoi:ops[i]? = some oi) (hoj:ops[j]? = some oj) (hne:i ≠ j) (hc:Tc ops oi oj = true) :
  if j < i then K0 ops.toList ops.size j i = true else K0 ops.toList ops.size i j = true:=by
 simp only [Dv,QE] at hok;have h1:=QM.1 hok.1.1.2 i (YI.2 hi);have h2:=QM.1 h1 j (YI.2 hj)
 have hoi':ops.toList[i]? = some oi:=by simpa using hoi
 have hoj':ops.toList[j]? = some oj:=by simpa using hoj
 have hb:Nat.beq i j = false:=by cases e:Nat.beq i j with | false=>rfl | true=>exact absurd (QC e) hne
 simp only [Aqf,hoi',hoj',hb,hc,YJ,ZO] at h2;by_cases e:j < i
 . have:Nat.blt j i = true:=by simpa [ZQ] using e
   rw [this] at h2;rw [QK e];exact h2
 . have : Nat.blt j i = false := by
    cases e':Nat.blt j i with | false=>rfl | true=>exact absurd (by simpa [ZQ] using e') e
   rw [this] at h2;rw [QH e];exact h2
theorem A5t {ops:Array Oper} {oi oj:Oper} {u:Nat} (hd:oj.dst = some u) (hu:u ∈ oi.looksAt ops):Tc ops oi oj = true:=by
 simp only [Tc,hd,XL];exact .inl (XB.2 ⟨u,hu,XA u⟩)
theorem Avw {ops:Array Oper} {oi oj:Oper} {u:Nat} (hd:oj.dst = some u) (hi:oi.dst = some u):Tc ops oi oj = true:=by
 simp only [Tc,hd,hi,XL];exact .inr (XA u)
theorem St.val_look {s1 s2:St} {x:Operand} (h:∀ u,x = .tmp u->A0 u s2.slots = A0 u s1.slots):s2.val x = s1.val x:=by
 cases x with
 | tmp u=>simp only [St.val,h u rfl]
 | const v=>cases v <;> rfl
 | global=>rfl
 | func=>rfl
theorem Am1 {ops:Array Oper} {o:Oper} {D:F8} {s1 s2:St} (hb:s2.boxes = s1.boxes) (hn:s2.nt = s1.nt) (hu:∀ u ∈ o.looksAt ops,A0 u s2.slots = A0 u s1.slots):Qu P T ops.toList o D s2 = Qu P T ops.toList o D s1:=by
 have hv:∀ x ∈ o.op.operands,s2.val x = s1.val x:=fun x hx=>St.val_look fun u e=>hu u (by
  subst e
  exact List.mem_append_left _ (List.mem_filterMap.2 ⟨.tmp u,by simpa using hx,rfl⟩))
 have hg:Gu s2 ops.toList o = Gu s1 ops.toList o:=by
  unfold Gu
  cases hgd:o.guard with
  | none=>rfl
  | some p =>
   obtain ⟨j,want⟩:=p;simp only
   cases hj:ops.toList[j]? with
   | none=>rfl
   | some q =>
    simp only
    cases hd:q.dst with
    | none=>rfl
    | some t =>
     simp only
     have:A0 t s2.slots = A0 t s1.slots:=hu t (by
      unfold Oper.looksAt;refine List.mem_append_right _ ?_
      have hj':ops[j]? = some q:=by simpa using hj
      simp [hgd,hj',hd])
     rw [this]
 unfold Qu;rw [hg,Ai7 hb hn hv]
theorem Awz (hT:As P T) {K:Ak} {ops:Array Oper} {m:Nat} (hok:Dv ops m = true) {s:St} {xs:List (Nat × Nat × S)} (hg:Jz P T K ops s xs) (hm:xs.length = m) {L:Nat->Bool} (hcl:H7 ops L) {i:Nat} {o:Oper} (him:i < m) (hoi:ops[i]? = some o)
  (hLi:L i = false) (hdep:∀ e ∈ o.after,Region.binds .any e = true->L e.on = true)
  {Γ:Ctx} {w:World} {E:Env} {a:Act} {ro:Option Nat} {n:Nat} {X:Act->Prop} (hK:Γ.K = K) (hX:∀ (i:Nat) (o:Oper),ops[i]? = some o->∀ b v,X b->X (b.put o.dst v)) (hd:X a) (hs:A6 Γ w E (s.over L xs) a.tmps) {Q:Exit->Act->World->Prop} {next:Act->World->Prop}
  (hn:∀ a' w',X a'->(∃ E',A6 Γ w' E' (s.over (fun j=>Nat.beq j i || L j) xs) a'.tmps)->next a' w'):wpOpIn (FR ro) n P ops Q i next a w:=by
 obtain ⟨pre,t,x,r,rfl,hrl,hgi,hpre⟩:=hg.at (i:=i) (by omega)
 obtain ⟨_,⟨o',D,p,ho',hdst,htN,hq,hp⟩,hgr⟩:=hgi;rw [hoi] at ho';obtain rfl:=QA ho'
 have later:∀ e ∈ pre,∀ u,e.2.1 = u->(u ∈ o.looksAt ops \/ o.dst = some u)->L e.1 = true->False:=by
  intro e he u hu hor hL
  obtain ⟨h1,oe,h2,h3⟩:=hg.idx (e:=e) (by simp [he])
  have hlt:=hpre e he;rw [hu] at h3
  have hc:Tc ops o oe = true:=by
   rcases hor with hor | hor
   . exact A5t h3 hor
   . exact Avw h3 hor
  have:=Ab3 hok him (by omega) hoi h2 (by omega) hc
  rw [QH (by omega)] at this
  have hLi':=Ml hcl _ h2 (hcl _ _ hL h2) this;rw [hLi] at hLi'
  cases hLi'
 have earlier:∀ e ∈ r,∀ u,e.2.1 = u->u ∈ o.looksAt ops->L e.1 = true:=by
  intro e he u hu hor
  obtain ⟨h1,oe,h2,h3⟩:=hg.idx (e:=e) (by simp [he])
  obtain ⟨h4,_⟩:=hgr.idx he;rw [hu] at h3
  have:=Ab3 hok him (by omega) hoi h2 (by omega) (A5t h3 hor)
  rw [QK (by omega)] at this
  exact Ml hcl _ hoi hdep this
 have hlook:∀ u ∈ o.looksAt ops,A0 u (s.over L (pre ++ (i,t,x) :: r)).slots = A0 u (s.over (fun _=>true) r).slots:=by
  intro u hu;show A0 u (Iz L (pre ++ (i,t,x) :: r) s.slots) = A0 u (Iz _ r s.slots);rw [I9 fun e he hL hne=>later e he u hne (.inl hu) hL];simp only [Iz,hLi,YB,if_false];exact F5 fun e he hne=>earlier e he u hne hu
 have hq':Qu P T ops.toList o D (s.over L (pre ++ (i,t,x) :: r)) = some (x,p):=(Am1 (s1:=s.over (fun _=>true) r) (s2:=s.over L (pre ++ (i,t,x) :: r)) rfl rfl hlook).trans hq
 have fin:∀ a' w',X a'->(∃ E',A6 Γ w' E' { s.over L (pre ++ (i,t,x) :: r) with slots:=Ah t x (s.over L (pre ++ (i,t,x) :: r)).slots } a'.tmps)->next a' w':=by
  rintro a' w' hd' ⟨E',hs'⟩
  refine hn a' w' hd' ⟨E',hs'.less fun u y hy=>?_⟩
  have hy':A0 u (Iz (fun j=>Nat.beq j i || L j) (pre ++ (i,t,x) :: r) s.slots) = some y:=hy
  by_cases e:u = t
  . subst e
    rw [I9 fun e he hL hne=>by
     simp only [XL] at hL;rcases hL with hL | hL
     . have:=QC hL;have:=hpre e he;omega
     . exact later e he u hne (.inr hdst) hL] at hy'
    simp only [Iz,XA,Qap,if_true,A7] at hy';rw [<- hy'];exact A7 _ _ _
  . rw [<- hy'];rw [A9 _ _ e];refine F5 fun e' he' hne=>?_
    have:e'.1 ≠ i:=by
     intro heq;rcases QF.1 he' with h | h
     . have:=hpre e' h;omega
     . rcases QT.1 h with rfl | h
       . exact e hne.symm
       . obtain ⟨h4,_⟩:=hgr.idx h;omega
    have hb:Nat.beq e'.1 i = false:=by cases h:Nat.beq e'.1 i with | false=>rfl | true=>exact absurd (QC h) this
    show L e'.1 = (Nat.beq e'.1 i || L e'.1);rw [hb];rfl
 have hput:(s.over L (pre ++ (i,t,x) :: r)).putD K o.dst x = some { s.over L (pre ++ (i,t,x) :: r) with slots:=Ah t x (s.over L (pre ++ (i,t,x) :: r)).slots }:=by
  have:Nat.blt t K.N = true:=by simpa [ZQ] using htN
  simp only [St.putD,hdst,this,cond]
 unfold Go.wpOpIn;rw [hoi];simp only;unfold Qu at hq';split at hq'
 . rename_i hgd;rw [Fa hs hgd];exact Aqa hT hq' hp hput Γ w E a ro n X hK (hX i o hoi) hd hs _ Q fin
 . rename_i hgd;rw [Fa hs hgd];simp only [QD,QG] at hq';obtain ⟨rfl,_⟩:=hq';obtain ⟨hs3,_⟩:=G8 hK hs (v:=Go.undef) Rs.undef hput;simp only [YB,if_false];exact ⟨fun _ _=>trivial,fin _ _ (hX i o hoi _ _ hd) ⟨E,hs3⟩⟩
 . cases hq'
end Go.Ev

/- DERIVED. Regions that draw their order: the whole region. -/
namespace Go.Ev
open Go
variable {P:Program} {T:Ty}
theorem Ol {j i:Nat} (h:¬ j < i):Nat.blt j i = false:=by
 cases e:Nat.blt j i with
 | false=>rfl
 | true=>exact absurd (by simpa [ZQ] using e) h
def Bk (listed:Array Bool) (j:Nat):Bool:=listed.getD j false
theorem Xa {listed:Array Bool} {i:Nat} (hi:i < listed.size) (j:Nat):Bk (listed.setIfInBounds i true) j = (Nat.beq j i || Bk listed j):=by
 unfold Bk;by_cases e:j = i
 . subst e;simp [hi]
 . have hb:Nat.beq j i = false:=by cases h:Nat.beq j i with | false=>rfl | true=>exact absurd (QC h) e
   rw [hb,YJ];exact getD_set_ne false (Ne.symm e)
theorem Am7 {listed:Array Bool} {j:Nat} (h:listed.getD j true = false):j < listed.size /\ Bk listed j = false:=by
 rcases XN j listed.size with h' | h'
 . refine ⟨h',?_⟩;unfold Bk;simp [h'] at h ⊢;exact h
 . simp [Array.getElem?_eq_none h'] at h
theorem Kz {listed:Array Bool} {j:Nat} (h':j < listed.size) (h:Bk listed j = false):listed.getD j true = false:=by
 unfold Bk at h;simp [h'] at h ⊢;exact h
theorem Gq {ops:Array Oper} {listed:Array Bool} {i:Nat} (h:i ∈ Region.ready .any ops listed):i < listed.size /\ Bk listed i = false /\ ∃ o,ops[i]? = some o /\ ∀ e ∈ o.after,Region.binds .any e = true->Bk listed e.on = true:=by
 obtain ⟨h0,o,ho,hall⟩:=mem_ready.1 h;obtain ⟨h1,h2⟩:=Am7 h0;exact ⟨h1,h2,o,ho,hall⟩
theorem Tb {ops:Array Oper} {L L':Nat->Bool} {i:Nat} {o:Oper} (hL:∀ j,L' j = (Nat.beq j i || L j)) (hc:H7 ops L) (hi:ops[i]? = some o) (hd:∀ e ∈ o.after,Region.binds .any e = true->L e.on = true):H7 ops L':=by
 intro j o' hj hoj e he hb;rw [hL,XL] at hj ⊢;rcases hj with hj | hj
 . have:=QC hj;subst this;rw [hi] at hoj;obtain rfl:=QA hoj;exact .inr (hd e he hb)
 . exact .inr (hc j o' hj hoj e he hb)
theorem Aqg (hT:As P T) {K:Ak} {ops:Array Oper} {D:F8} {i:Nat} {o:Oper} {s s0 s1:St} {u p:List Prop} (hi:ops[i]? = some o) (hfz:Ej D.fz s = some (s0,u)) (hstep:X5 P T K ops.toList o D s0 = some (s1,p)) (hu:∀ x ∈ u,x) (hp:∀ x ∈ p,x)
  {Γ:Ctx} {w:World} {E:Env} {a:Act} {ro:Option Nat} {n:Nat} {X:Act->Prop} (hK:Γ.K = K) (hX:∀ (i:Nat) (o:Oper),ops[i]? = some o->∀ b v,X b->X (b.put o.dst v)) (hd:X a) (hs:A6 Γ w E s a.tmps) {Q:Exit->Act->World->Prop} {next:Act->World->Prop}
  (hn:∀ a' w',X a'->(∃ E',A6 Γ w' E' s1 a'.tmps)->next a' w'):wpOpIn (FR ro) n P ops Q i next a w:=by
 obtain ⟨E0,hs⟩:=Dj _ hs hfz hu;unfold Go.wpOpIn;rw [hi];simp only;unfold X5 at hstep;split at hstep
 . rename_i hg;rw [Fa hs hg];exact Cm hT hstep hp Γ w E0 a ro n X hK (hX i o hi) hd hs _ Q hn
 . rename_i hg;rw [Fa hs hg];simp only [QB,QG] at hstep;obtain ⟨s3,hput,rfl,rfl⟩:=hstep;obtain ⟨hs3,_⟩:=G8 hK hs (v:=Go.undef) Rs.undef hput;simp only [YB,if_false];exact ⟨fun _ _=>trivial,hn _ _ (hX i o hi _ _ hd) ⟨E0,hs3⟩⟩
 . cases hstep
theorem Aaz {ops:Array Oper} {m:Nat} (hok:Dv ops m = true) {i:Nat} {o:Oper} (hi:ops[i]? = some o):∀ e ∈ o.after,Region.binds .any e = true->e.on < i:=by
 intro e he hb;simp only [Dv,QE] at hok;have hlt:=(ZI.1 hi).1;have h1:=QM.1 hok.2 i (YI.2 hlt)
 have hi':ops.toList[i]? = some o:=by simpa using hi
 simp only [hi'] at h1
 have h2:=QM.1 h1 e (by simpa using he)
 rw [hb] at h2;simpa [ZQ] using h2
theorem Ach {ops:Array Oper} {m:Nat} (hok:Dv ops m = true) {i j:Nat} (hi:i < ops.size) (hm:m <= i) (hj:j < i):K0 ops.toList ops.size j i = true:=by
 simp only [Dv,QE] at hok;have h1:=QM.1 hok.1.2 i (YI.2 hi)
 have:Nat.blt i m = false:=by cases e:Nat.blt i m with | false=>rfl | true=>exact absurd (by simpa [ZQ] using e) (Nat.not_lt.2 hm)
 rw [this,YJ] at h1;exact QM.1 h1 j (YI.2 hj)
theorem Ql (hT:As P T) {K:Ak} {ops:Array Oper} {m:Nat} (hok:Dv ops m = true) {Ds:List (Nat × F8)} {Γ:Ctx} {Q:Exit->Act->World->Prop} {s2:St} {ro:Option Nat} {n:Nat} {X:Act->Prop} (hK:Γ.K = K)
  (hX:∀ (i:Nat) (o:Oper),ops[i]? = some o->∀ b v,X b->X (b.put o.dst v)) (hQ:∀ a' w',X a'->(∃ E',A6 Γ w' E' s2 a'.tmps)->Q .normal a' w'):∀ (l:List (Nat × Oper)) (k:Nat) (listed:Array Bool) (s:St) (obs:List Prop) (a:Act) (w:World) (E:Env),m <= k->k + l.length = ops.size->listed.size = ops.size ->
  (∀ (i:Nat) (p:Nat × Oper),l[i]? = some p->p.1 = k + i /\ ops[p.1]? = some p.2)->(∀ j,j < ops.size->Bk listed j = Nat.blt j k)->H7 ops (Bk listed)->D2 P T K ops.toList Ds l s = some (s2,obs)->(∀ p ∈ obs,p) ->
  X a->A6 Γ w E s a.tmps->wpAnyIn (FR ro) n P .any ops Q l.length listed a w
 | [],k,listed,s,obs,a,w,E,hmk,hkl,hsz,hl,hL,hcl,h,_,hd,hs=>by
  simp only [D2,QD,QG] at h;obtain ⟨rfl,_⟩:=h;refine ⟨?_,hQ a w hd ⟨E,hs⟩⟩;refine List.eq_nil_iff_forall_not_mem.2 fun i hi=>?_;obtain ⟨h1,h2,_⟩:=Gq hi
  rw [hL i (by omega)] at h2
  simp at hkl
  have:Nat.blt i k = true:=by simp [ZQ];omega
  rw [this] at h2;cases h2
 | (i0,o) :: r,k,listed,s,obs,a,w,E,hmk,hkl,hsz,hl,hL,hcl,h,ho,hd,hs=>by
  simp only [QU] at hkl;obtain ⟨hi0,hoi⟩:=hl 0 (i0,o) rfl;simp only [YY] at hi0 hoi;subst hi0
  have hLk:Bk listed i0 = false:=by rw [hL i0 (by omega)];exact Ol (Nat.lt_irrefl _)
  have hin:i0 ∈ Region.ready .any ops listed:=mem_ready.2 ⟨Kz (by omega) hLk,o,hoi,fun e he hb=>by
   have:=Aaz hok hoi e he hb
   have h':=hL e.on (by omega)
   unfold Bk at h'
   rw [h'];simpa [ZQ] using this⟩
  simp only [D2] at h;split at h
  . rename_i s0 u hfz;split at h
    . rename_i s1 p hstep;split at h
      . rename_i s3 q hrest;simp only [QD,QG] at h;obtain ⟨rfl,rfl⟩:=h
        refine ⟨fun e=>(by rw [e] at hin;cases hin),fun i hi=>?_⟩
        obtain ⟨h1,h2,oi,hoi',hdep⟩:=Gq hi
        have hik:i = i0:=by
         rcases JI i i0 with h' | h' | h'
         . rw [hL i (by omega)] at h2
           have:Nat.blt i i0 = true:=by simp [ZQ];omega
           rw [this] at h2;cases h2
         . exact h'
         . have:=Ml hcl _ hoi' hdep (Ach hok (by omega) (by omega) h')
           rw [hLk] at this;cases this
        subst hik;refine Aqg hT hoi hfz hstep (fun x hx=>ho x (QF.2 (.inl hx))) (fun x hx=>ho x (QF.2 (.inr (QF.2 (.inl hx))))) hK hX hd hs ?_
        rintro a' w' hd' ⟨E',hs'⟩
        refine Ql hT hok hK hX hQ r (i + 1) _ s1 q a' w' E' (by omega) (by omega) (by simpa using hsz) (fun j p hj=>?_) (fun j hj=>?_) (Tb (Xa (by omega)) hcl hoi' hdep) hrest (fun x hx=>ho x (QF.2 (.inr (QF.2 (.inr hx))))) hd' hs'
        . have:=hl (j + 1) p (by simpa using hj)
          exact ⟨by omega,this.2⟩
        . rw [Xa (by omega),hL j hj]
          cases hb:Nat.beq j i with
          | true=>have:=QC hb;subst this;simp [ZQ]
          | false =>
           have hne:j ≠ i:=fun e=>by subst e;simp at hb
           rw [YJ];by_cases e:j < i
           . have a1:Nat.blt j i = true:=by simpa [ZQ] using e
             have a2:Nat.blt j (i + 1) = true:=by simp [ZQ];omega
             rw [a1,a2]
           . have a1:Nat.blt j i = false:=Ol e
             have a2:Nat.blt j (i + 1) = false:=Ol (by omega)
             rw [a1,a2]
      . cases h
    . cases h
  . cases h
end Go.Ev

/- DERIVED. Regions that draw their order: the beginning, and the whole. -/
namespace Go.Ev
open Go
variable {P:Program} {T:Ty}
def I0 (L:Nat->Bool) (l:List Nat):Nat:=(l.filter fun j=>!L j).length
theorem Ace {L L':Nat->Bool}:∀ {l:List Nat},(∀ j ∈ l,L j = L' j)->I0 L l = I0 L' l
 | [],_=>rfl
 | j :: r,h=>by
  have h1:=h j (by simp)
  have h2:=Ace (l:=r) fun k hk=>h k (by simp [hk])
  unfold I0 at h2 ⊢;simp only [YP,h1];split
  . simp [h2]
  . exact h2
theorem A6a {L L':Nat->Bool} {i:Nat} (hL:∀ j,L' j = (Nat.beq j i || L j)) (hi:L i = false):∀ {l:List Nat},l.Nodup->i ∈ l->I0 L' l + 1 = I0 L l
 | [],_,h=>by cases h
 | j :: r,hn,h=>by
  have hn':=YV.1 hn;by_cases e:j = i
  . subst e
    have h1:L' j = true:=by rw [hL,XA];rfl
    have h2:I0 L' r = I0 L r:=Ace fun k hk=>by
     rw [hL]
     have:Nat.beq k j = false:=by cases e:Nat.beq k j with | false=>rfl | true=>have:=QC e;subst this;exact absurd hk hn'.1
     rw [this,YJ]
    unfold I0 at h2 ⊢;simp [h1,hi,h2]
  . have hm:i ∈ r:=by rcases QT.1 h with e' | h;exact absurd e'.symm e;exact h
    have ih:=A6a hL hi (l:=r) hn'.2 hm
    have h1:L' j = L j:=by
     rw [hL]
     have:Nat.beq j i = false:=by cases e':Nat.beq j i with | false=>rfl | true=>exact absurd (QC e') e
     rw [this,YJ]
    unfold I0 at ih ⊢;simp only [YP,h1];split
    . simp;omega
    . exact ih
theorem Aj7 {L:Nat->Bool} {i:Nat} (hi:L i = false) {l:List Nat} (h:i ∈ l):0 < I0 L l:=by
 unfold I0
 exact List.length_pos_of_mem (JW.2 ⟨h,by simp [hi]⟩)
theorem Ws {L:Nat->Bool} {n:Nat} (h:∃ i,i < n /\ L i = false):∃ i,i < n /\ L i = false /\ ∀ j,j < i->L j = true:=by
 induction n with
 | zero=>obtain ⟨i,hi,_⟩:=h;omega
 | succ n ih =>
  by_cases h':∃ i,i < n /\ L i = false
  . obtain ⟨i,h1,h2,h3⟩:=ih h'
    exact ⟨i,by omega,h2,h3⟩
  . obtain ⟨i,h1,h2⟩:=h
    have all:∀ j,j < n->L j = true:=fun j hj=>by
     cases e:L j with | true=>rfl | false=>exact absurd ⟨j,hj,e⟩ h'
    have:i = n:=by
     rcases XN i n with h3 | h3
     . rw [all i h3] at h2;cases h2
     . omega
    subst this;exact ⟨i,h1,h2,all⟩
theorem Aw9 (hT:As P T) {K:Ak} {ops:Array Oper} {m:Nat} (hok:Dv ops m = true) (hmn:m <= ops.size) {Ds:List (Nat × F8)} {Γ:Ctx} {Q:Exit->Act->World->Prop} {s s2:St} {xs:List (Nat × Nat × S)} {l:List (Nat × Oper)} {obs:List Prop} {ro:Option Nat} {n:Nat} {X:Act->Prop} (hK:Γ.K = K)
  (hX:∀ (i:Nat) (o:Oper),ops[i]? = some o->∀ b v,X b->X (b.put o.dst v)) (hQ:∀ a' w',X a'->(∃ E',A6 Γ w' E' s2 a'.tmps)->Q .normal a' w') (hg:Jz P T K ops s xs) (hxm:xs.length = m) (hlm:m + l.length = ops.size) (hl:∀ (i:Nat) (p:Nat × Oper),l[i]? = some p->p.1 = m + i /\ ops[p.1]? = some p.2)
  (hrun:D2 P T K ops.toList Ds l (s.over (fun _=>true) xs) = some (s2,obs)) (ho:∀ p ∈ obs,p):∀ (fuel:Nat) (listed:Array Bool) (a:Act) (w:World) (E:Env),listed.size = ops.size->I0 (Bk listed) (List.range ops.size) = fuel ->
  H7 ops (Bk listed)->(∀ i,m <= i->i < ops.size->Bk listed i = false)->X a->A6 Γ w E (s.over (Bk listed) xs) a.tmps->wpAnyIn (FR ro) n P .any ops Q fuel listed a w:=by
 intro fuel
 induction fuel with
 | zero =>
  intro listed a w E hsz hf hcl hun hd hs
  have all:∀ j,j < ops.size->Bk listed j = true:=fun j hj=>by
   cases e:Bk listed j with
   | true=>rfl
   | false=>have:=Aj7 e (YI.2 hj);omega
  have hm:m = ops.size:=by
   rcases XN m ops.size with h | h
   . have h1:=hun m (QY _) h;rw [all m h] at h1;cases h1
   . omega
  have hl0:l = []:=XJ (by omega)
  subst hl0
  have hs':A6 Γ w E (s.over (fun _=>true) xs) a.tmps:=hs.less fun u x hx=>by
   rw [<- hx]
   exact F5 fun e he _=>(all e.1 (by have:=(hg.idx he).1;omega))
  exact Ql hT hok hK hX hQ [] m listed _ obs a w E (QY _) (by simpa using hlm) hsz hl (fun j hj=>by rw [all j hj];symm;simp [ZQ];omega) hcl hrun ho hd hs'
 | succ fuel ih =>
  intro listed a w E hsz hf hcl hun hd hs;by_cases hall:∀ j,j < m->Bk listed j = true
  . have hs' : A6 Γ w E (s.over (fun _ => true) xs) a.tmps := hs.less fun u x hx => by
     rw [<- hx]
     exact F5 fun e he _=>(hall e.1 (by have:=(hg.idx he).1;omega))
    have hlen:l.length = fuel + 1:=by
     rw [<- hf]
     have e1:I0 (Bk listed) (List.range ops.size) = ((List.range' m (ops.size - m)).length):=by
      have:List.range ops.size = List.range m ++ List.range' m (ops.size - m):=by
       obtain ⟨k,hk⟩:=Nat.exists_eq_add_of_le hmn;rw [hk,Qae,List.range_eq_range',List.range_eq_range'];simpa using (List.range'_append (s:=0) (m:=m) (n:=k) (step:=1)).symm
      unfold I0;rw [this,List.filter_append]
      have f1:(List.range m).filter (fun j=>!Bk listed j) = []:=List.filter_eq_nil_iff.2 fun j hj=>by simp [hall j (YI.1 hj)]
      have f2:(List.range' m (ops.size - m)).filter (fun j=>!Bk listed j) = List.range' m (ops.size - m):=JU.2 fun j hj=>by
       have:=List.mem_range'_1.1 hj
       simp [hun j (by omega) (by omega)]
      rw [f1,f2];rfl
     rw [e1,List.length_range'];omega
    rw [<- hlen];refine Ql hT hok hK hX hQ l m listed _ obs a w E (QY _) hlm hsz hl (fun j hj=>?_) hcl hrun ho hd hs';by_cases e:j < m
    . rw [hall j e];symm;simpa [ZQ] using e
    . rw [hun j (by omega) hj];exact (Ol e).symm
  . have hex : ∃ i, i < m /\ Bk listed i = false := by
     rcases Classical.em (∃ i,i < m /\ Bk listed i = false) with h | h
     . exact h
     . exact absurd (fun j hj=>by cases e:Bk listed j with | true=>rfl | false=>exact absurd ⟨j,hj,e⟩ h) hall
    obtain ⟨k,hkm,hLk,hless⟩:=Ws hex
    have hkn:k < ops.size:=by omega
    have hok':ops[k]? = some ops[k]:=JX hkn
    have hin:k ∈ Region.ready .any ops listed:=mem_ready.2 ⟨Kz (by omega) hLk,_,hok',fun e he hb=>hless e.on (Aaz hok hok' e he hb)⟩
    refine ⟨fun e=>(by rw [e] at hin;cases hin),fun i hi=>?_⟩
    obtain ⟨h1,h2,o,hoi,hdep⟩:=Gq hi
    have him:i < m:=by
     rcases XN i m with h | h
     . exact h
     . have:=Ml hcl _ hoi hdep (Ach hok (j:=k) (by omega) h (by omega))
       rw [hLk] at this;cases this
    refine Awz hT hok hg hxm hcl him hoi h2 hdep hK hX hd hs ?_
    rintro a' w' hd' ⟨E',hs'⟩
    have hset:∀ j,Bk (listed.setIfInBounds i true) j = (Nat.beq j i || Bk listed j):=Xa h1
    have hfun:Bk (listed.setIfInBounds i true) = fun j=>Nat.beq j i || Bk listed j:=funext hset
    refine ih _ a' w' E' (by simpa using hsz) ?_ (Tb hset hcl hoi hdep) (fun j hj hjn=>?_) hd' (by rw [hfun];exact hs')
    . have:=A6a hset h2 Qak (YI.2 (show i < ops.size by omega))
      omega
    . rw [hset,hun j hj hjn]
      have:Nat.beq j i = false:=by cases e:Nat.beq j i with | false=>rfl | true=>have:=QC e;omega
      rw [this];rfl
def Uo (P:Program) (T:Ty) (K:Ak) (ops:Array Oper) (m:Nat) (Ds:List (Nat × F8)) (fz:List (Nat × V)) (s:St):Option (St × List Prop) :=
 bif Dv ops m then (match Ej fz s with
  | some (s0,u)=>match Fl P T K ops.toList Ds ((A8 ops.toList).take m) [] s0 with
   | some (_,s1,p)=>match D2 P T K ops.toList Ds ((A8 ops.toList).drop m) s1 with
    | some (s2,q)=>some (s2,(P.follows .mixedOrders = true) :: (u ++ (p ++ q)))
    | none=>none
   | none=>none
  | none=>none) else none
theorem Cl {l:List Oper} {i:Nat} {p:Nat × Oper} (h:(A8 l)[i]? = some p):p.1 = i /\ l[i]? = some p.2:=by
 simp only [A8,QL,YR] at h
 cases e:l[i]? with
 | none=>rw [e] at h;cases h
 | some o =>
  rw [e] at h;simp at h;subst h;exact ⟨rfl,rfl⟩
theorem Acy (hT:As P T) {K:Ak} {id m:Nat} {ops:Array Oper} {Ds:List (Nat × F8)} {fz:List (Nat × V)} {s s':St} {obs:List Prop} (h:Uo P T K ops m Ds fz s = some (s',obs)) (ho:∀ p ∈ obs,p):Code.Den P K (.region id ops true) s .normal s':=by
 unfold Uo at h
 cases hok:Dv ops m with
 | false=>rw [hok] at h;cases h
 | true =>
  rw [hok] at h;simp only [cond] at h;split at h
  . rename_i s0 u hfz;split at h
    . rename_i xs s1 p hpre;split at h
      . rename_i s2 q hrun;simp only [QD,QG] at h;obtain ⟨rfl,rfl⟩:=h
        have hmn:m <= ops.size:=by
         simp only [Dv,QE] at hok;exact ZY hok.1.1.1
        have hlen:(A8 ops.toList).length = ops.size:=by simp [A8]
        obtain ⟨hg,hxl,rfl⟩:=Ze (s0:=s0) ((A8 ops.toList).take m) [] xs s1 p trivial (fun k y hk=>by
         rw [XD] at hk;split at hk
         . obtain ⟨h1,h2⟩:=Cl hk;rw [h1]
           exact ⟨by simp,by simpa using h2⟩
         . cases hk) hpre (fun x hx=>ho x (ZW _ (QF.2 (.inr (QF.2 (.inl hx))))))
        intro Γ w E a ro n hK _ hs;obtain ⟨E0,hs0⟩:=Dj _ hs hfz (fun x hx=>ho x (ZW _ (QF.2 (.inl hx))))
        refine wpIn_region_any (ho _ (by simp)) ?_
        have hs1:A6 Γ { w with drawn:=w.drawn + 1 } E0 s0 a.tmps:=hs0.still ⟨rfl,rfl,rfl,QY _,fun _ _ _=>rfl⟩
        have hrep:Bk (Array.replicate ops.size false) = fun _=>false:=by
         funext j;unfold Bk;by_cases e:j < ops.size <;> simp [Array.getD,e]
        have hs2:A6 Γ { w with drawn:=w.drawn + 1 } E0 (s0.over (Bk (Array.replicate ops.size false)) xs) a.tmps:=hs1.less fun t x hx=>by
         rw [hrep] at hx
         have:∀ ys:List (Nat × Nat × S),Iz (fun _=>false) ys s0.slots = s0.slots:=by
          intro ys
          induction ys with
          | nil=>rfl
          | cons y r ih=>simpa [Iz] using ih
         rw [this] at hx;exact hx
        refine Aw9 hT hok hmn (X:=fun b=>b.defers = a.defers /\ ∀ t,(Code.region id ops true).wr t = false->b.tmps.getD t undef = a.tmps.getD t undef) hK (fun i o hi b v hb=>Ac9 hi hb) (fun a' w' hd' he=>⟨rfl,.id hd'.1 hd'.2 he⟩) hg (by simp [hlen] at hxl;omega) (by simp [hlen];omega) (l:=(A8 ops.toList).drop m) (fun i y hi=>?_) hrun (fun x hx=>ho x (ZW _ (QF.2 (.inr (QF.2 (.inr hx)))))) ops.size _ a _ E0 (by simp) ?_ (fun j o hj=>?_) (fun i _ _=>by rw [hrep]) ⟨rfl,fun _ _=>rfl⟩ hs2
        . rw [YC] at hi;obtain ⟨h1,h2⟩:=Cl hi;rw [h1]
          exact ⟨rfl,by simpa using h2⟩
        . unfold I0;rw [hrep];exact (XU List.length (JU.2 fun _ _=>rfl)).trans List.length_range
        . rw [hrep] at hj;cases hj
      . cases h
    . cases h
  . cases h
end Go.Ev

/- DERIVED. Forgetting of boxes; the evaluation of code along one path. -/
namespace Go.Ev
open Go
variable {P:Program} {T:Ty}
def Bu {α:Type} (h:Nat):List (Nat × α)->List (Nat × α)
 | []=>[]
 | (j,x) :: r=>bif Nat.beq j h then Bu h r else (j,x) :: Bu h r
theorem Bc {α:Type} (h:Nat):∀ l:List (Nat × α),A0 h (Bu h l) = none
 | []=>rfl
 | (j,x) :: r=>by
  simp only [Bu]
  cases e:Nat.beq j h with
  | true=>exact Bc h r
  | false=>simp only [cond,A0,e];exact Bc h r
theorem Au {α:Type} {h k:Nat} (hk:k ≠ h):∀ l:List (Nat × α),A0 k (Bu h l) = A0 k l
 | []=>rfl
 | (j,x) :: r=>by
  simp only [Bu,A0]
  cases e:Nat.beq j h with
  | true =>
   have:=QC e;subst this
   have hb:Nat.beq j k = false:=by cases e':Nat.beq j k with | false=>rfl | true=>exact absurd (QC e').symm hk
   simp only [cond,hb];exact Au hk r
  | false=>simp only [cond,A0,Au hk r]
def St.delBox (s:St) (h:Nat):Option St :=
 bif Nat.blt h 1000 && s.slots.all (fun p=>!p.2.men h) && Np h s.boxes then some { s with boxes:=Bu h s.boxes } else none
theorem A6.delBox {Γ:Ctx} {w:World} {E:Env} {s s':St} {tmps:Array Value} (hs:A6 Γ w E s tmps) {h:Nat} (hd:s.delBox h = some s'):∃ E',A6 Γ w E' s' tmps:=by
 unfold St.delBox at hd
 cases hc:(Nat.blt h 1000 && s.slots.all (fun p=>!p.2.men h) && Np h s.boxes) with
 | false=>rw [hc] at hd;cases hd
 | true =>
  rw [hc] at hd;obtain rfl:=QA hd;simp only [QE] at hc;obtain ⟨⟨c1,c2⟩,c3⟩:=hc
  have c1:h < 1000:=by simpa [ZQ] using c1
  let E':Env:={ E with β:=fun k=>if k = h then Option.none else E.β k }
  have kb:Cc h w w E E':=⟨QY _,fun _ _ _ h=>h,fun k x hk hx=>by show (if k = h then Option.none else E.β k) = some x;rw [QH hk];exact hx,fun _ _ _ _ _ h=>h⟩
  have back:∀ k x,E'.β k = some x->k ≠ h /\ E.β k = some x:=by
   intro k x hx
   have hx':(if k = h then Option.none else E.β k) = some x:=hx
   by_cases e:k = h
   . rw [QK e] at hx';cases hx'
   . rw [QH e] at hx';exact ⟨e,hx'⟩
  have lk:∀ k b,A0 k (Bu h s.boxes) = some b->k ≠ h /\ A0 k s.boxes = some b:=by
   intro k b hb;by_cases e:k = h
   . subst e;rw [Bc] at hb;cases hb
   . rw [Au e] at hb;exact ⟨e,hb⟩
  refine ⟨E',hs.fr,⟨hs.wf.alt,hs.wf.tag,hs.wf.inj,hs.wf.om⟩,hs.old,hs.nt,hs.tag,hs.new,fun k b hb=>?_,fun k k' b b' g g' z z' hb hb' hz hz'=>?_,fun k b g z hb hz=>?_,fun t x hx=>?_,hs.tsize,fun k x hx=>?_,fun k hk hk2 hm=>?_,fun k b g z hb hz=>?_,hs.held,hs.tow⟩
  . obtain ⟨hne,hb0⟩:=lk k b hb;obtain ⟨g,cap,hβ,⟨arr,a1,a2,a3,a4,a5,a6,a7,a8,a9⟩,hω,hS⟩:=hs.boxes k b hb0;have kb:=kb.rd k b.tr fun _ _ h=>⟨h,rfl⟩
    refine ⟨g,cap,by have:=kb.β _ _ hne (by rw [Env.rd_β];exact hβ);rwa [Env.rd_β] at this,⟨arr,a1,a2,a3,a4,a5,fun i r j c hi hj=>?_,a7,fun e=>(Env.rd_A (E:=E') hω).2 ((Env.rd_A (E:=E) hω).1 (a8 e)),by rw [Env.rd_τ] at a9 ⊢;exact a9⟩,hω,hS⟩
    obtain ⟨v,hv,hr⟩:=a6 i r j c hi hj;refine ⟨v,hv,hr.keepBut kb ?_⟩;have hcl:=Aj2 c3 hne hb0;unfold Box.men at hcl
    cases hf:b.hf with
    | true=>obtain ⟨x,rfl⟩:=a7 hf i r j c hi hj;rfl
    | false =>
     rw [hf] at hcl;simp only [ZX,XY] at hcl;exact G0 (G0 hcl hi) hj
  . obtain ⟨_,h1⟩:=lk k b hb;obtain ⟨_,h2⟩:=lk k' b' hb';exact hs.inj k k' b b' g g' z z' h1 h2 (back _ _ hz).2 (back _ _ hz').2
  . exact hs.own k b g z (lk k b hb).2 (back _ _ hz).2
  . have:=QM.1 c2 (t,x) (A07 hx)
    exact (hs.slots t x hx).keepBut kb (by simpa using this)
  . obtain ⟨hne,hx0⟩:=back _ _ hx;rw [Au hne];exact hs.dom k x hx0
  . show (if k = h then Option.none else E.β k) = _
    rw [QH (by omega)]
    exact hs.stay k hk hk2 hm
  . exact hs.fzn k b g z (lk k b hb).2 (back _ _ hz).2
def Jq:List Nat->St->Option St
 | [],s=>some s
 | h :: r,s=>match s.delBox h with
  | some s1=>Jq r s1
  | none=>none
theorem Qc {Γ:Ctx} {w:World} {tmps:Array Value}:∀ (l:List Nat) {E:Env} {s s':St},A6 Γ w E s tmps->Jq l s = some s'->∃ E',A6 Γ w E' s' tmps
 | [],E,s,s',hs,h=>by obtain rfl:=QA h;exact ⟨E,hs⟩
 | k :: r,E,s,s',hs,h=>by
  simp only [Jq] at h;split at h
  . rename_i s1 h1;obtain ⟨E1,hs1⟩:=hs.delBox h1;exact Qc r hs1 h
  . cases h
structure RG where
 ds:List (Nat × F8):=[]
 m:Nat:=0
 fz:List (Nat × V):=[]
 drop:List Nat:=[]
 dropB:List Nat:=[]
 only:Option (List Nat):=none
def St.onlyS (s:St):Option (List Nat)->St
 | none=>s
 | some l=>{ s with slots:=s.slots.filter fun p=>l.contains p.1 }
def Bb6 (P:Program) (T:Ty) (K:Ak) (ops:Array Oper) (draw:Bool) (R:RG) (s:St):Option (St × List Prop) :=
 match (match draw with | true=>Uo P T K ops R.m R.ds R.fz s | false=>K9 P T K ops { ds:=R.ds,drop:=[] } s) with
 | some (s1,p)=>match Jq R.dropB ((s1.forget R.drop).onlyS R.only) with
  | some s2=>some (s2,p)
  | none=>none
 | none=>none
theorem Den.weak {K:Ak} {c:Code} {s s1 s2:St} {x:Exit} (h:Code.Den P K c s x s1) (hw:∀ Γ w E tmps,A6 Γ w E s1 tmps->∃ E',A6 Γ w E' s2 tmps):Code.Den P K c s x s2:=by
 intro Γ w E a ro n hK hr hs;refine wpIn_mono (h Γ w E a ro n hK hr hs) ?_
 rintro e a1 w1 ⟨rfl,⟨h',q1,q2,E1,hs1⟩,q3⟩
 obtain ⟨E2,hs2⟩:=hw _ _ _ _ hs1;exact ⟨rfl,⟨h',q1,q2,E2,hs2⟩,q3⟩
def Axg:Exit->Bool
 | .normal=>true
 | _=>false
def path (P:Program) (T:Ty) (K:Ak) (D:List (Nat × RG)):Code->St->List (Exit × St)->Option (Exit × St × List (Exit × St) × List Prop)
 | .skip,s,ls=>some (.normal,s,ls,[])
 | .region id ops draw,s,ls=>match Bb6 P T K ops draw ((A0 id D).getD {}) s with
  | some (s',p)=>some (.normal,s',ls,p)
  | none=>none
 | .seq c d,s,ls=>match path P T K D c s ls with
  | some (x,s1,ls1,p)=>bif Axg x then (match path P T K D d s1 ls1 with
   | some (y,s2,ls2,q)=>some (y,s2,ls2,p ++ q)
   | none=>none) else some (x,s1,ls1,p)
  | none=>none
 | .cond (.tmp t) c d,s,ls=>match A0 t s.slots with
  | some (.v (.one (.i (.lit (.bool true)))))=>path P T K D c s ls
  | some (.v (.one (.i (.lit (.bool false)))))=>path P T K D d s ls
  | _=>none
 | .block id c,s,ls=>match path P T K D c s ls with
  | some (.exit j,s1,ls1,p)=>some (bif Nat.beq j id then .normal else .exit j,s1,ls1,p)
  | r=>r
 | .loop c,s,ls=>match ls with
  | (x,s') :: ls'=>some (x,s',ls',[Fh P K c s x s'])
  | []=>none
 | .rangeFunc f ps a b,s,ls=>match ls with
  | (x,s') :: ls'=>some (x,s',ls',[Code.Den P K (.rangeFunc f ps a b) s x s'])
  | []=>none
 | .exit id,s,ls=>some (.exit id,s,ls,[])
 | .ret,s,ls=>some (.ret,s,ls,[])
 | _,_,_=>none
def Apj:List Prop->Prop
 | []=>True
 | p :: r=>p /\ Apj r
theorem Apj.of:∀ {l:List Prop},Apj l->∀ p ∈ l,p
 | _ :: _,h,_,hp=>by
  rcases QT.1 hp with rfl | hp
  . exact h.1
  . exact Apj.of h.2 _ hp
end Go.Ev

/- DERIVED. Words for the printed texts: short names, and what is owed, discharged. -/
namespace Go.Ev
open Go
abbrev iN (n:Int):I:=.lit (.int .i64 n)
abbrev sI (x:I):S:=.v (.one (.i x))
def A1 (f:Func):Code:=f.body.getD .skip
def _root_.Go.Code.at (c:Code):List Nat->Code
 | []=>c
 | k :: r=>match c,k with
  | .seq a _,0=>a.at r
  | .seq _ b,1=>b.at r
  | .cond _ a _,0=>a.at r
  | .cond _ _ b,1=>b.at r
  | .block _ a,0=>a.at r
  | .loop a,0=>a.at r
  | .rangeFunc _ _ a _,0=>a.at r
  | .rangeFunc _ _ _ b,1=>b.at r
  | _,_=>.skip
abbrev obN (x y:Int):Prop:=S.lit (.int .i64 x) = sI (iN y)
theorem Apl {x:Int} (h:-9223372036854775808 <= x) (h':x < 9223372036854775808):IntKind.i64.wrap x = x:=by
 simp only [IntKind.wrap,IntKind.signed,IntKind.bits];simp;omega
theorem B5m (a b:Int):obN (if (if true = true then b > a else b < a) then b else a) (max a b):=by
 have h:(if (if true = true then b > a else b < a) then b else a) = max a b:=by
  simp only [if_true];by_cases h:b > a
  . rw [QK h];omega
  . rw [QH h];omega
 unfold obN;rw [h]
theorem B5l (a b:Int):obN (if (if false = true then b > a else b < a) then b else a) (min a b):=by
 have h:(if (if false = true then b > a else b < a) then b else a) = min a b:=by
  simp only [YB,if_false];by_cases h:b < a
  . rw [QK h];omega
  . rw [QH h];omega
 unfold obN;rw [h]
end Go.Ev
