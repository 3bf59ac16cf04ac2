/- DERIVED. An evaluator of code over abstract states: trees of slices, drawn orders. -/
import Derived.Test.YtaebdcandpfmgaaGreatEb

set_option linter.all false
set_option linter.unusedVariables false
set_option linter.unusedSimpArgs false

/- DERIVED. A range over the function that slices.Backward hands back, over a slice of ints. -/
namespace Go.Ev
open Go
variable {P:Program}
def Bi0 (W:World) (sv:Value) (zs:List Int):Prop :=
 (zs=[] /\ ∃ a cap,sv = .slice a 0 cap) \/ ∃ b off cap,sv = .slice (some ⟨b,off,none⟩) zs.length cap /\ ∀ j,j<zs.length->W.cell? ⟨b,off+j,none⟩=some (.int .i64 (zs.getD j 0))
def A8a (lb:Array Value) (zs:List Int) (W:World):Prop:=∃ g o sv,lb = #[.pointer (some ⟨g,o,none⟩)]/\W.cell? ⟨g,o,none⟩=some sv/\Bi0 W sv zs
def Alt (P:Program) (fB:Nat):Prop :=
 (∀ args w,(callFunc fB args).run P w = .ok (.enter fB args) w) /\
 ∀ (l:Nat) (lb:Array Value) (zs:List Int) (J Jx:Nat->World->Prop) (W:World),zs.length<=4611686018427387904->(∀ k W,k<=zs.length->J k W->A8a lb zs W) ->
  (∀ k W1,k<zs.length->J k W1->YieldAt Fence.wide 7 P l #[.int .i64 ((zs.length-1-k:Nat):Int),.int .i64 (zs.getD (zs.length-1-k) 0)] W1 λe W' =>
   (e = .returned (.bool true)/\J (k+1) W') \/ (e = .returned (.bool false)/\Jx (k+1) W')) ->
  J 0 W->CallsIn Fence.wide 8 P fB (#[.func (.yield l) #[] #[]]++lb) W λe W'=>(∃ v,e = .returned v)/\(J zs.length W' \/ ∃ k,Jx k W')
theorem A8a.of {w:World} {E:Env} {v:Value} {f:Nat} {zs:List Int} (h:Ri w E v (.fn f [.ref 0 [.sl 0 false 1 (zs.map λz=>[.lit (.int .i64 z)])]])):∃ lb,v = .func (.func f) #[] lb/\A8a lb zs w:=by
 cases h with
 | fn _ vs _ hl hrc =>
  match vs,hl with
  | [u],_ =>
   refine ⟨_,rfl,?_⟩;have h1:=hrc 0 u _ rfl rfl
   cases h1 with
   | ref _ g o cs us hg hb hcell hrc2 =>
    refine ⟨g,o,us 0,rfl,hcell 0 _ rfl,?_⟩;have h2:=hrc2 0 _ rfl;generalize us 0=sv at h2
    cases zs with
    | nil =>
     cases h2 with
     | nil=>exact .inl ⟨rfl,_,_,rfl⟩
     | sl _ _ _ _ _ _ _ hne=>exact absurd rfl hne
    | cons z r =>
     generalize hrow:(List.map (λz=>[I.lit (Value.int .i64 z)]) (z::r))=rows at h2
     cases h2 with
     | nil=>simp at hrow
     | sl _ _ g2 o2 cap rows vs2 hne hcap hg2 hb2 hlen2 hcell2 hrc3 =>
      refine .inr ⟨g2,o2,cap,by rw [<- hrow];simp,λj hj=>?_⟩
      have hr:rows[j]? = some [.lit (.int .i64 ((z::r).getD j 0))]:=by
       rw [<- hrow,QK,QN hj];simp [QG,QN hj]
      have e1:=hcell2 j _ 0 _ hr rfl;have e2:=hrc3 j _ 0 _ hr rfl;simp only [Nat.mul_one,KF] at e1;rw [e1];generalize vs2 j 0=u at e2
      cases e2 with
      | lit=>rfl
def Q1 (wr:Nat->Bool) (p0 p1:Nat) (s:St):St:={ s with slots:=s.slots.filter λp=>!(wr p.1 || (Nat.beq p.1 p0 || Nat.beq p.1 p1)) }
theorem Iu {q:Nat->Bool}:∀ {sl:List (Nat × S)} {t:Nat} {x:S},A1 t (sl.filter λp=>!q p.1)=some x->A1 t sl=some x/\q t=false
 | [],_,_,h=>by cases h
 | (j,y)::r,t,x,h=>by
  simp only [YU] at h;simp only [A1]
  cases hj:Nat.beq j t with
  | true =>
   have e:=QC hj;subst e
   cases hq:q j with
   | true =>
    simp only [hq,ZR,YE,if_false] at h;have:=(Iu h).2;rw [hq] at this;cases this
   | false =>
    simp only [hq,XH,if_true,A1,hj,cond] at h ⊢;exact ⟨h,trivial⟩
  | false =>
   simp only [cond];split at h
   . simp only [A1,hj,cond] at h;exact Iu h
   . exact Iu h
theorem A8.frame {Γ:Ctx} {w:World} {E:Env} {s s2:St} {tmps tmps2:Array Value} (hs:A8 Γ w E s tmps) (hb:s2.boxes=s.boxes) (hn:s2.nt=s.nt) (hsz:tmps2.size=tmps.size)
  (h:∀ t x,A1 t s2.slots=some x->A1 t s.slots=some x/\tmps2.getD t undef=tmps.getD t undef):A8 Γ w E s2 tmps2:=by
 refine ⟨hs.fr,by rw [hn];exact hs.wf,hs.old,by rw [hn];exact hs.nt,hs.tag,hs.new,by rw [hb];exact hs.boxes,by rw [hb];exact hs.inj,by rw [hb];exact hs.own,λt x hx=>?_,by rw [hsz];exact hs.tsize,by rw [hb];exact hs.dom,hs.stay,by rw [hb];exact hs.fzn,hs.held,hs.tow⟩
 obtain ⟨h1,h2⟩:=h t x hx;rw [h2];exact hs.slots t x h1
def P4 (p0 p1 i:Nat) (z:Int) (s:St):St:={ s with slots:=Ak p1 (.v (.one (.i (.lit (.int .i64 z))))) (Ak p0 (.v (.one (.i (.lit (.int .i64 (i:Int)))))) s.slots) }
def Ab7 (fB:Nat) (zs:List Int):S:=.v (.one (.i (.fn fB [.ref 0 [.sl 0 false 1 (zs.map λz=>[.lit (.int .i64 z)])]])))
def C3 (s s2:St):Prop:=∀ (Γ:Ctx) (w:World) (E:Env) (tmps:Array Value),A8 Γ w E s tmps->∃ E',A8 Γ w E' s2 tmps
inductive Ff (P:Program) (K:Am) (g p0 p1 fB:Nat) (zs:List Int) (asg body:Code):Nat->St->Exit->St->Prop
 | done {s:St} (hg:A1 g s.slots=some (Ab7 fB zs)):Ff P K g p0 p1 fB zs asg body 0 s .normal s
 | round {i:Nat} {s sA s1 s2 s':St} {x:Exit} (hg:A1 g s.slots=some (Ab7 fB zs)) (hA:Code.Den P K asg (P4 p0 p1 i (zs.getD i 0) s) .normal sA) (hB:Code.Den P K body sA .normal s1) (hw:C3 (Q1 (λt=>asg.wr t || body.wr t) p0 p1 s1) s2) (k:Ff P K g p0 p1 fB zs asg body i s2 x s'):Ff P K g p0 p1 fB zs asg body (i+1) s x s'
 | stop {i:Nat} {s sA s1:St} {x:Exit} (hg:A1 g s.slots=some (Ab7 fB zs)) (hx:x = .ret \/ ∃ id,x = .exit id) (hA:Code.Den P K asg (P4 p0 p1 i (zs.getD i 0) s) .normal sA) (hB:Code.Den P K body sA x s1) :
   Ff P K g p0 p1 fB zs asg body (i+1) s x (Q1 (λt=>asg.wr t || body.wr t) p0 p1 s1)
theorem Ff.row {K:Am} {g p0 p1 fB:Nat} {zs:List Int} {asg body:Code} {i:Nat} {s s':St} {x:Exit} (h:Ff P K g p0 p1 fB zs asg body i s x s') :
  ∃ (m:Nat) (S:Nat->St),S 0=s/\m<=i/\(∀ k,k<=m->A1 g (S k).slots=some (Ab7 fB zs)) /\
   (∀ k,k<m->∃ sA s1,Code.Den P K asg (P4 p0 p1 (i-1-k) (zs.getD (i-1-k) 0) (S k)) .normal sA/\Code.Den P K body sA .normal s1/\C3 (Q1 (λt=>asg.wr t || body.wr t) p0 p1 s1) (S (k+1))) /\
   ((m=i/\x = .normal/\s'=S m) \/ (m<i/\(x = .ret \/ ∃ id,x = .exit id) /\ ∃ sA s1,Code.Den P K asg (P4 p0 p1 (i-1-m) (zs.getD (i-1-m) 0) (S m)) .normal sA/\Code.Den P K body sA x s1/\s'=Q1 (λt=>asg.wr t || body.wr t) p0 p1 s1)):=by
 induction h with
 | done hg=>exact ⟨0,λ_=>_,rfl,QY _,λ_ _=>hg,λk hk=>absurd hk (Nat.not_lt_zero _),.inl ⟨rfl,rfl,rfl⟩⟩
 | @round i s sA s1 s2 s' x hg hA hB hw _ ih =>
  obtain ⟨m,S,h0,hm,hgs,hr,hl⟩:=ih
  refine ⟨m+1,λj=>match j with | 0=>s | j+1=>S j,rfl,by omega,λk hk=>?_,λk hk=>?_,?_⟩
  . cases k with
    | zero=>exact hg
    | succ k=>exact hgs k (by omega)
  . cases k with
    | zero=>exact ⟨sA,s1,by simpa using hA,hB,by rw [<- h0] at hw;exact hw⟩
    | succ k =>
     obtain ⟨a,b,q1,q2,q3⟩:=hr k (by omega)
     exact ⟨a,b,by rw [show i+1-1-(k+1)=i-1-k by omega];exact q1,q2,q3⟩
  . rcases hl with ⟨q1,q2,q3⟩ | ⟨q1,q2,a,b,q3,q4,q5⟩
    . exact .inl ⟨by omega,q2,q3⟩
    . exact .inr ⟨by omega,q2,a,b,by rw [show i+1-1-(m+1)=i-1-m by omega];exact q3,q4,q5⟩
 | @stop i s sA s1 x hg hx hA hB =>
  exact ⟨0,λ_=>s,rfl,KG _,λ_ _=>hg,λk hk=>absurd hk (Nat.not_lt_zero _),.inr ⟨by omega,hx,sA,s1,by simpa using hA,hB,rfl⟩⟩
def Avw:Exit->Option Code
 | .ret=>some Code.ret
 | .exit id=>some (Code.exit id)
 | _=>none
theorem Den.range {K:Am} {g p0 p1 fB:Nat} {zs:List Int} {asg body:Code} {s s':St} {x:Exit} (hBk:Alt P fB) (hlen:zs.length<=4611686018427387904) (hrA:asg.rf=false) (hrB:body.rf=false)
  (hp0:p0<K.N) (hp1:p1<K.N) (h:Ff P K g p0 p1 fB zs asg body zs.length s x s'):Code.Den P K (.rangeFunc (.tmp g) #[p0,p1] asg body) s x s':=by
 intro Γ w E a ro n hK hr hs
 cases ro with
 | some l=>exact absurd (hr rfl) (by simp [Code.rf])
 | none =>
 refine (wpIn_wide (n:=n)).2 ((wpIn_wide (n:=9)).1 ?_);obtain ⟨m,S,rfl,hm,hgs,hrow,hl⟩:=h.row
 have readB:∀ {hold:Nat->Obj->Prop} {W:World} {E1:Env} {k:Nat},k<=m->A8 (Γ.with hold) W E1 (S k) a.tmps->∃ lb,a.tmps.getD g undef = .func (.func fB) #[] lb/\A8a lb zs W:=λhk hst=>by
  have:=hst.slots g _ (hgs _ hk);unfold Ab7 at this;generalize a.tmps.getD g undef=gv at this ⊢
  cases this with | v h=>cases h with | one h=>cases h with | i h=>exact A8a.of h
 obtain ⟨lb,hv,_⟩:=readB (hold:=Γ.hold) (KG m) hs;obtain ⟨N,hN⟩:∃ N,N=zs.length:=⟨_,rfl⟩;refine wpIn_rangeFunc ?_;intro fn hfn;obtain ⟨rec,hrec⟩:∃ rec:LoopState->Option Code->Loop,rec=λst pe=>{ state:=st,pending:=pe,fn,tmps:=a.tmps,params:=#[p0,p1],assign:=asg,body,defers:=w.heap.size }:=⟨_,rfl⟩;obtain ⟨H1,hH1⟩:∃ H1:LoopState->Option Code->Nat->Obj->Prop,H1=λst pe b o=>Γ.hold b o \/ (b=w.heap.size+1/\o = .loop (rec st pe)) \/ (b=w.heap.size/\o = .deferred (some [])):=⟨_,rfl⟩;have holdlt:∀ b o,Γ.hold b o->b<w.heap.size:=λb o hb=>(ZI.1 (hs.held b o hb).2).1
 have turn:∀ {hold:Nat->Obj->Prop} {W:World} {E1:Env} {st:St} {tm:Array Value} {o1:Loop} (s2:LoopState) (p2:Option Code),A8 (Γ.with hold) W E1 st tm->W.heap[w.heap.size+1]? = some (.loop o1)->W.heap[w.heap.size]? = some (.deferred (some []))->(∀ b o,Γ.hold b o->hold b o) ->
   A8 (Γ.with (H1 s2 p2)) (W.putObj (w.heap.size+1) (.loop (rec s2 p2))) E1 st tm:=by
  intro hold W E1 st tm o1 s2 p2 hst hL hD hh
  refine A8.grown (Γ:=Γ.with hold) hst (H1 s2 p2) (grownBy_putObj' W _ _) (λr e=>by cases e;exact ⟨ZK hs.fr.size (by show w.heap.size<=_;omega),_,hL,rfl⟩) (λb o hb=>?_)
  rw [hH1] at hb;rcases hb with hb | ⟨rfl,rfl⟩ | ⟨rfl,rfl⟩
  . have h1:=hst.held b o (hh b o hb)
    exact ⟨h1.1,(World.putObj_heap_other (by have:=holdlt b o hb;omega)).trans h1.2⟩
  . exact ⟨rfl,World.putObj_heap_same (ZI.1 hL).1⟩
  . exact ⟨rfl,(World.putObj_heap_other (by omega)).trans hD⟩
 have heldL:∀ {hold:Nat->Obj->Prop} {W:World} {E1:Env} {st:St} {tm:Array Value} {s2:LoopState} {p2:Option Code},A8 (Γ.with hold) W E1 st tm->(∀ b o,H1 s2 p2 b o->hold b o)->W.heap[w.heap.size+1]? = some (.loop (rec s2 p2))/\W.heap[w.heap.size]? = some (.deferred (some [])):=by
  intro hold W E1 st tm s2 p2 hst hh
  exact ⟨(hst.held _ _ (hh _ _ (by rw [hH1];exact .inr (.inl ⟨rfl,rfl⟩)))).2,(hst.held _ _ (hh _ _ (by rw [hH1];exact .inr (.inr ⟨rfl,rfl⟩)))).2⟩
 have hH1h:∀ s2 p2 b o,Γ.hold b o->H1 s2 p2 b o:=λs2 p2 b o hb=>by rw [hH1];exact .inl hb
 obtain ⟨W1,hW1⟩:∃ W1,(w.alloc (.deferred (some []))).alloc (.loop (rec .ready none))=W1:=⟨_,rfl⟩
 have hst1:A8 (Γ.with (H1 .ready none)) W1 E (S 0) a.tmps:=by
  rw [<- hW1]
  have g1:w.grownBy ((w.alloc (.deferred (some []))).alloc (.loop (rec .ready none))) none:=by
   have a1:=World.grownBy_alloc w (.deferred (some [])) none;have a2:=World.grownBy_alloc (w.alloc (.deferred (some []))) (.loop (rec .ready none)) none
   exact ⟨a2.os.trans a1.os,a2.tape.trans a1.tape,a2.output.trans a1.output,ZK a1.size a2.size,λk hk _=>(a2.block k (ZU hk a1.size) (by simp)).trans (a1.block k hk (by simp))⟩
  refine A8.grown hs (H1 .ready none) g1 (λr e=>by cases e) (λb o hb=>?_)
  rw [hH1] at hb;rcases hb with hb | ⟨rfl,rfl⟩ | ⟨rfl,rfl⟩
  . have h1:=hs.held b o hb
    exact ⟨h1.1,(g1.block b (holdlt b o hb) (by simp)).trans h1.2⟩
  . have:=World.alloc_heap_new (w.alloc (.deferred (some []))) (.loop (rec .ready none));rw [World.size_alloc] at this;exact ⟨rfl,this⟩
  . exact ⟨rfl,((World.grownBy_alloc (w.alloc (.deferred (some []))) (.loop (rec .ready none)) none).block _ (by simp) (by simp)).trans (World.alloc_heap_new w _)⟩
 have callv:({ a with defers:=[({ target:=.collected w.heap.size,args:=#[] }:Deferred)]++a.defers }:Act).defers={ target:=.collected w.heap.size,args:=#[] }::a.defers:=rfl
 refine ⟨w.heap.size+1,[{ target:=.collected w.heap.size,args:=#[] }],W1,{ target:=.fn (.func fB) lb,args:=#[.func (.yield (w.heap.size+1)) #[] #[]] },W1,fB,
  #[.func (.yield (w.heap.size+1)) #[] #[]]++lb,W1,?_,?_,λ_ _=>trivial,?_,λ_=>by omega,?_⟩
 . rw [<- hW1,hrec];exact run_enterLoop_outer _ _ _ _ _
 . simp only [resolve,Act.eval,hv];simp [go_sem]
 . simp [invoke,go_sem,hBk.1]
 have back:∀ {hold:Nat->Obj->Prop} {W:World} {E1:Env} {s1:St} {a2:Act},A8 (Γ.with hold) W E1 s1 a2.tmps->(∀ t,(asg.wr t || body.wr t)=false->t ≠ p0->t ≠ p1->a2.tmps.getD t undef=a.tmps.getD t undef) ->
   A8 (Γ.with hold) W E1 (Q1 (λt=>asg.wr t || body.wr t) p0 p1 s1) a.tmps:=by
  intro hold W E1 s1 a2 hst hsame
  refine hst.frame rfl rfl (by rw [hs.tsize,hst.tsize];rfl) (λt y hy=>?_)
  have hy:A1 t (s1.slots.filter λp=>!((λt=>(asg.wr t || body.wr t) || (Nat.beq t p0 || Nat.beq t p1)) p.1))=some y:=hy
  obtain ⟨q1,q2⟩:=Iu (q:=λt=>asg.wr t || body.wr t || (Nat.beq t p0 || Nat.beq t p1)) hy
  obtain ⟨q3,q4⟩:=Cy q2;obtain ⟨q5,q6⟩:=Cy q4
  exact ⟨q1,(hsame t q3 (λe=>by subst e;simp at q5) (λe=>by subst e;simp at q6)).symm⟩
 refine (hBk.2 (w.heap.size+1) lb zs
  (λk W=>k<=m /\ ∃ E1,A8 (Γ.with (H1 .ready none)) W E1 (S k) a.tmps)
  (λ_ W=>m<zs.length /\ ∃ c,((x = .ret/\c = .ret) \/ ∃ id,x = .exit id/\c = .exit id) /\ ∃ E1,A8 (Γ.with (H1 .done (some c))) W E1 s' a.tmps)
  W1 hlen ?_ ?_ ⟨KG _,E,hst1⟩).mono ?_
 . rintro k W _ ⟨hk,E1,hst⟩
   obtain ⟨lb',e1,e2⟩:=readB hk hst;rw [hv] at e1
   cases e1;exact e2
 . -- ONE ROUND
   rintro k W hkN ⟨hk,E1,hst⟩
   obtain ⟨hL,hD⟩:=heldL hst (λ_ _ h=>h)
   have hy:=run_yield (P:=P) (args:=#[.int .i64 ((zs.length-1-k:Nat):Int),.int .i64 (zs.getD (zs.length-1-k) 0)]) hL (by rw [hrec];rfl)
   rw [hrec] at hy;refine ⟨fn,_,asg,body,hy,roundIn_of_wpIn hfn ?_⟩;clear hy
   have hfold:((#[p0,p1]:Array Tmp).zip #[Value.int .i64 ((zs.length-1-k:Nat):Int),.int .i64 (zs.getD (zs.length-1-k) 0)]).foldl (λt (x:Tmp × Value)=>t.setIfInBounds x.1 x.2) a.tmps=(a.tmps.setIfInBounds p0 (.int .i64 ((zs.length-1-k:Nat):Int))).setIfInBounds p1 (.int .i64 (zs.getD (zs.length-1-k) 0)):=by
    simp
   have hstP:A8 (Γ.with (H1 .ready none)) W E1 (P4 p0 p1 (zs.length-1-k) (zs.getD (zs.length-1-k) 0) (S k)) ((a.tmps.setIfInBounds p0 (.int .i64 ((zs.length-1-k:Nat):Int))).setIfInBounds p1 (.int .i64 (zs.getD (zs.length-1-k) 0))) :=
    (hst.put (by rw [show (Γ.with (H1 .ready none)).K=K from hK];exact hp0) (.v (.one (.i (.lit _ rfl))))).put (by rw [show (Γ.with (H1 .ready none)).K=K from hK];exact hp1) (.v (.one (.i (.lit _ rfl))))
   have tm0:∀ t,t ≠ p0->t ≠ p1->((a.tmps.setIfInBounds p0 (.int .i64 ((zs.length-1-k:Nat):Int))).setIfInBounds p1 (.int .i64 (zs.getD (zs.length-1-k) 0))).getD t undef=a.tmps.getD t undef:=λt h1 h2=>by
    simp [KJ,Ne.symm h1,Ne.symm h2]
   show asg.wpIn (Fence.wide.inRound (w.heap.size+1)) 7 P _ { tmps:=(#[p0,p1].zip #[Value.int .i64 ((zs.length-1-k:Nat):Int),.int .i64 (zs.getD (zs.length-1-k) 0)]).foldl (λt (x:Tmp × Value)=>t.setIfInBounds x.1 x.2) a.tmps,defers:=[] } W;rw [hfold]
   have round:∀ {sA s1:St} {y:Exit} (ye:y = .normal \/ y = .ret \/ ∃ id,y = .exit id) (hA:Code.Den P K asg (P4 p0 p1 (zs.length-1-k) (zs.getD (zs.length-1-k) 0) (S k)) .normal sA) (hB:Code.Den P K body sA y s1) (R:Ending->World->Prop)
     (_:∀ c W4 E4,c=Avw y->A8 (Γ.with (H1 (if c.isNone then .ready else .done) c)) W4 E4 (Q1 (λt=>asg.wr t || body.wr t) p0 p1 s1) a.tmps->R (.returned (.bool c.isNone)) W4),
     asg.wpIn (FR (some (w.heap.size+1))) 7 P (Exit.then (λa₁ w₁=>∃ w₂,(Instr.beginRound (w.heap.size+1)).run P w₁ = .ok () w₂/\body.wpIn (FR (some (w.heap.size+1))) 7 P (roundPost P (w.heap.size+1) R) a₁ w₂) (λ_ _ _=>False))
      { tmps:=(a.tmps.setIfInBounds p0 (.int .i64 ((zs.length-1-k:Nat):Int))).setIfInBounds p1 (.int .i64 (zs.getD (zs.length-1-k) 0)),defers:=[] } W:=by
    intro sA s1 y ye hA hB R hR;refine wpIn_mono (hA (Γ.with (H1 .ready none)) W E1 _ (some (w.heap.size+1)) 7 hK (λ_=>hrA) hstP) ?_
    rintro e a1 Wa ⟨rfl,⟨h1,q1,_,E2,hst2⟩,q3⟩
    obtain ⟨hL2,hD2⟩:=heldL hst2 q1
    refine ⟨_,run_beginRound hL2 (by rw [hrec]),?_⟩
    have hst3:=turn .busy none hst2 hL2 hD2 (λb o h=>q1 b o (hH1h _ _ b o h));have hbw:=hB (Γ.with (H1 .busy none)) _ E2 a1 (some (w.heap.size+1)) 7 hK (λ_=>hrB) hst3;rw [hrec] at hbw ⊢;refine wpIn_mono hbw ?_
    rintro e a2 Wb ⟨rfl,⟨h2,r1,_,E3,hst4⟩,r3⟩
    obtain ⟨hL4,hD4⟩:=heldL hst4 r1
    have hst5:=back (a2:=a2) hst4 (λt ht n0 n1=>by
     obtain ⟨t1,t2⟩:=Cy ht
     exact ((r3 t t2).trans (q3 t t1)).trans (tm0 t n0 n1))
    have fin:∀ c:Option Code,c=Avw e->∃ v W4,(Instr.endRound (w.heap.size+1) c).run P Wb = .ok v W4/\R (.returned v) W4:=λc hc=>by
     refine ⟨_,_,run_endRound c hL4,hR c _ E3 hc ?_⟩
     have:=turn (if c.isNone then .ready else .done) c hst5 hL4 hD4 (λb o h=>r1 b o (hH1h _ _ b o h))
     rw [hrec] at this ⊢;exact this
    rcases ye with rfl | rfl | ⟨id,rfl⟩
    . exact fin none rfl
    . exact fin (some .ret) rfl
    . exact fin (some (.exit id)) rfl
   by_cases hkm:k<m
   . obtain ⟨sA,s1,hA,hB,hS⟩:=hrow k hkm;refine round (.inl rfl) hA hB _ (λc W4 E4 hc hst4=>?_);subst hc;obtain ⟨E5,hst5⟩:=hS _ _ _ _ hst4
     exact .inl ⟨rfl,by omega,E5,hst5⟩
   . obtain rfl:k=m:=by omega
     rcases hl with ⟨q1,_,_⟩ | ⟨q1,q2,sA,s1,hA,hB,rfl⟩
     . omega
     . rcases q2 with rfl | ⟨id,rfl⟩
       . refine round (.inr (.inl rfl)) hA hB _ (λc W4 E4 hc hst4=>?_);subst hc;exact .inr ⟨rfl,q1,.ret,.inl ⟨rfl,rfl⟩,E4,hst4⟩
       . refine round (.inr (.inr ⟨id,rfl⟩)) hA hB _ (λc W4 E4 hc hst4=>?_);subst hc;exact .inr ⟨rfl,q1,.exit id,.inr ⟨id,rfl,rfl⟩,E4,hst4⟩
 . -- BEHIND THE ITERATOR
   have post:∀ {st:LoopState} {pe:Option Code} {W:World} {E1:Env},A8 (Γ.with (H1 st pe)) W E1 s' a.tmps->Jj (Code.rangeFunc (.tmp g) #[p0,p1] asg body).wr Γ a s' { a with defers:={ target:=.collected w.heap.size,args:=#[] }::a.defers } (W.putObj (w.heap.size+1) (.loop (rec .exhausted pe))):=by
    intro st pe W E1 hst;obtain ⟨hL,hD⟩:=heldL hst (λ_ _ h=>h);have hst2:=turn .exhausted pe hst hL hD (hH1h _ _);refine ⟨⟨H1 .exhausted pe,hH1h _ _,λhd=>⟨KC.2 ⟨λhm=>?_,hd.1⟩,λd hd'=>?_⟩,E1,hst2⟩,λ_ _=>rfl⟩
    . obtain ⟨D,e1,_,e3⟩:=hd.2 _ hm
      have e4:D=w.heap.size:=by
       simp only [Deferred.mk.injEq,Target.collected.injEq,and_true] at e1;exact e1.symm
      have:=holdlt _ _ e3;omega
    . rcases QU.1 hd' with rfl | hd'
      . exact ⟨w.heap.size,rfl,hs.fr.size,by show H1 _ _ _ _;rw [hH1];exact .inr (.inr ⟨rfl,rfl⟩)⟩
      . obtain ⟨D,e1,e2,e3⟩:=hd.2 d hd';exact ⟨D,e1,e2,hH1h _ _ _ _ e3⟩
   rintro e W2 ⟨⟨v,rfl⟩,(⟨hNm,E1,hst⟩ | ⟨_,hmN,c,hc,E1,hst⟩)⟩
   . obtain ⟨hL,hD⟩:=heldL hst (λ_ _ h=>h);rcases hl with ⟨q1,rfl,rfl⟩ | ⟨q1,_⟩
     . refine ⟨none,_,by have:=run_endLoop (P:=P) hL (by rw [hrec];simp);rw [hrec] at this;exact this,?_⟩
       have:=post (st:=.ready) (pe:=none) (by rw [q1];exact hst)
       rw [hrec] at this;exact ⟨rfl,this⟩
     . omega
   . obtain ⟨hL,hD⟩:=heldL hst (λ_ _ h=>h)
     refine ⟨some c,_,by have:=run_endLoop (P:=P) hL (by rw [hrec];simp);rw [hrec] at this;exact this,?_⟩
     have:=post hst;rw [hrec] at this;rcases hc with ⟨rfl,rfl⟩ | ⟨id,rfl,rfl⟩
     . exact wpIn_ret ⟨rfl,this⟩
     . exact wpIn_exit ⟨rfl,this⟩
end Go.Ev

/- DERIVED. Trees: a box of rows of cells of which some are slices that lie each in a block of its own; how a box of the function's own becomes part of one. -/
namespace Go.Ev
open Go
theorem Aeb {Γ:Ctx} {w:World} {E:Env} {s:St} {tmps:Array Value} (hs:A8 Γ w E s tmps) {h:Nat} {b:Box} (hb:A1 h s.boxes=some b) (htr:b.tr=false)
  (hv:∀ (i:Nat) (r:List C) (j:Nat) (c:C),b.rows[i]? = some r->r[j]? = some c->c.okT=true):A8 Γ w E { s with boxes:=Ak h { b with tr:=true } s.boxes } tmps:=by
 have same:∀ k b',A1 k (Ak h { b with tr:=true } s.boxes)=some b'->∃ b0,A1 k s.boxes=some b0/\b0.fz=b'.fz/\b0.sz=b'.sz:=by
  intro k b' hb';by_cases hk:k=h
  . subst hk;rw [A9] at hb';obtain rfl:=QA hb';exact ⟨b,hb,rfl,rfl⟩
  . rw [Ac _ _ hk] at hb';exact ⟨b',hb',rfl,rfl⟩
 refine ⟨hs.fr,hs.wf,hs.old,hs.nt,hs.tag,hs.new,λk b' hb'=>?_,λk k' b b' g g' z z' hb hb' hz hz'=>?_,λk b g z hb hz=>?_,hs.slots,hs.tsize,λk x hx=>?_,hs.stay,λk b g z hb hz hf=>?_,hs.held,hs.tow⟩
 . by_cases hk:k=h
   . subst hk;rw [A9] at hb';obtain rfl:=QA hb';obtain ⟨g,cap,hβ,⟨arr,a1,a2,a3,a4,a5,a6,a7,a8,a9⟩,hω,_⟩:=hs.boxes k b hb;rw [htr] at a6 a8 a9;refine ⟨g,cap,hβ,⟨arr,a1,a2,a3,a4,a5,λi r j c hi hj=>?_,a7,λe=>(Env.rd_A hω).2 (a8 e),a9⟩,hω,λ_=>⟨λi r j y len cp a h1 h2 h3 h4 h5=>?_,λi r j y i' r' j' y' len len' cp cp' a a' h1 h2 h3 h1' h2' h3' hn h4 h4' h5 h5'=>?_,λi r j y len cp a h1 h2 h3 h4 h5=>?_⟩⟩
     rotate_left 3
     . obtain ⟨v,hv1,hv2⟩:=a6 i r j _ h1 h2
       have e:w.cell? ⟨g,i*b.sz+j,none⟩=some v:=by simp [World.cell?,a1,hv1]
       rw [e] at h4;obtain rfl:=QA h4;have:=Ew (hv i r j _ h1 h2) h3 hv2;omega
     . obtain ⟨v,hv1,hv2⟩:=a6 i r j c hi hj;exact ⟨v,hv1,hv2.okT (E:=E) (E':=E.rd k true) rfl (hv i r j c hi hj)⟩
     . obtain ⟨v,hv1,hv2⟩:=a6 i r j _ h1 h2
       have e:w.cell? ⟨g,i*b.sz+j,none⟩=some v:=by simp [World.cell?,a1,hv1]
       rw [e] at h4;obtain rfl:=QA h4;have:=Ew (hv i r j _ h1 h2) h3 hv2;omega
     . obtain ⟨v,hv1,hv2⟩:=a6 i r j _ h1 h2
       have e:w.cell? ⟨g,i*b.sz+j,none⟩=some v:=by simp [World.cell?,a1,hv1]
       rw [e] at h4;obtain rfl:=QA h4;have:=Ew (hv i r j _ h1 h2) h3 hv2;omega
   . rw [Ac _ _ hk] at hb';exact hs.boxes k b' hb'
 . obtain ⟨b0,h0,_⟩:=same k b hb;obtain ⟨b1,h1,_⟩:=same k' b' hb';exact hs.inj k k' b0 b1 g g' z z' h0 h1 hz hz'
 . obtain ⟨b0,h0,h1,_⟩:=same k b hb;rw [<- h1];exact hs.own k b0 g z h0 hz
 . by_cases hk:k=h
   . subst hk;rw [A9];rfl
   . rw [Ac _ _ hk];exact hs.dom k x hx
 . obtain ⟨b0,h0,h1,_⟩:=same k b hb;exact hs.fzn k b0 g z h0 hz (h1.trans hf)
theorem Yi {Γ:Ctx} {w:World} {E:Env} {s:St} {tmps:Array Value} (hs:A8 Γ w E s tmps) {h k row col len:Nat} {b bk:Box} {r:List C} {ys:List (List I)} {hf':Bool}
  (hb:A1 h s.boxes=some b) (htr:b.tr=true) (hne:h ≠ k) (hk:k<1000 \/ 2000<=k) (hbk:A1 k s.boxes=some bk) (hktr:bk.tr=false) (hkfz:bk.fz=false)
  (hr:b.rows[row]? = some r) (hc:r[col]? = some (.hs k 0 len)) (hlen:len=bk.rows.length) (hrows:bk.rows=ys.map (·.map .i)) (hlit:∀ (i:Nat) (q:List I) (j:Nat) (y:I),ys[i]? = some q->q[j]? = some y->∃ v,y = .lit v) (hie:bk.e=Dh) (hsz1:bk.sz=1)
  (hslots:∀ t x,A1 t s.slots=some x->x.men k=false) (hboxes:∀ i b',i ≠ k->i ≠ h->A1 i s.boxes=some b'->∀ (i:Nat) (r:List C) (j:Nat) (c:C),b'.rows[i]? = some r->r[j]? = some c->c.men k=false)
  (hrest:∀ (i:Nat) (q:List C) (j:Nat) (c:C),b.rows[i]? = some q->q[j]? = some c->¬ (i=row/\j=col)->c.men k=false)
  (hhf:hf'=true->∀ (i:Nat) (q:List C) (j:Nat) (c:C),(b.rows.set row (r.set col (.i (.sl 0 false bk.sz ys))))[i]? = some q->q[j]? = some c->∃ x,c = .i x) :
  ∃ E',A8 Γ w E' { s with boxes:=Ak h { b with hf:=hf',rows:=b.rows.set row (r.set col (.i (.sl 0 false bk.sz ys))) } (C1 k s.boxes) } tmps:=by
 obtain ⟨g,cap,hβ,⟨arr,a1,a2,a3,a4,a5,a6,a7,a8,a9⟩,hω,hS⟩:=hs.boxes h b hb;obtain ⟨gk,capk,hβk,hatk,hωk,_⟩:=hs.boxes k bk hbk;rw [hktr] at hatk;obtain ⟨arrk,k1,k2,k3,k4,k5,k6,k7,k8,k9⟩:=hatk;have hS:=hS htr;have hgne:∀ j b' gj z,j ≠ k->A1 j s.boxes=some b'->E.β j=some (gj,z)->gj ≠ gk:=λj b' gj z hj hb' hz=>hs.inj j k b' bk gj gk z _ hb' hbk hz hβk hj
 let E':Env:={ A:=E.A,τ:=E.τ,β:=λj=>if j=k then none else E.β j,ω:=λx=>if x=gk then some h else E.ω x }
 have β':∀ j,j ≠ k->E'.β j=E.β j:=λj hj=>QJ hj;have ωn:∀ x,x ≠ gk->E'.ω x=E.ω x:=λx hx=>QJ hx;have ωg:E'.ω gk=some h:=QL rfl
 have kb:Ci k w w E E':=⟨QY _,λ_ _ _ h=>h,λj x hj hx=>by rw [β' j hj];exact hx,λ_ _ _ _ _ h=>h⟩
 have kbr:∀ j tr,j ≠ k->Ci k w w (E.rd j tr) (E'.rd j tr):=by
  intro j tr hj
  cases tr with
  | false=>exact kb
  | true =>
   refine ⟨QY _,λtag x _ hx=>?_,kb.β,λ_ _ _ _ _ h=>h⟩;unfold Env.blk at hx ⊢;split
   . rename_i e;rw [QL e] at hx
     rintro ⟨h1,h2⟩
     refine hx ⟨h1,λh3=>h2 ?_⟩;by_cases hxg:x=gk
     . subst hxg;rw [hωk] at h3;cases h3
     . rw [ωn x hxg];exact h3
   . rename_i e;rw [QJ e] at hx;exact hx
 have lk:∀ j b',A1 j (Ak h { b with hf:=hf',rows:=b.rows.set row (r.set col (.i (.sl 0 false bk.sz ys))) } (C1 k s.boxes))=some b'->j ≠ k/\((j=h/\b'={ b with hf:=hf',rows:=b.rows.set row (r.set col (.i (.sl 0 false bk.sz ys))) }) \/ (j ≠ h/\A1 j s.boxes=some b')):=by
  intro j b' hj;by_cases e:j=h
  . subst e;rw [A9] at hj;exact ⟨hne,.inl ⟨rfl,(QA hj).symm⟩⟩
  . rw [Ac _ _ e] at hj;by_cases e2:j=k
    . subst e2;rw [Bj] at hj;cases hj
    . rw [Az e2] at hj;exact ⟨e2,.inr ⟨e,hj⟩⟩
 have lko:∀ j b',A1 j (Ak h { b with hf:=hf',rows:=b.rows.set row (r.set col (.i (.sl 0 false bk.sz ys))) } (C1 k s.boxes))=some b'->j ≠ k /\ ∃ b0,A1 j s.boxes=some b0/\b0.fz=b'.fz/\b0.sz=b'.sz:=by
  intro j b' hj;obtain ⟨h1,⟨rfl,rfl⟩ | ⟨_,h2⟩⟩:=lk j b' hj
  . exact ⟨h1,b,hb,rfl,rfl⟩
  . exact ⟨h1,b',h2,rfl,rfl⟩
 have hrl:row<b.rows.length:=(QP.1 hr).1;have hcl:col<r.length:=(QP.1 hc).1
 have newc:∀ (i:Nat) (q:List C) (j:Nat) (c:C),(b.rows.set row (r.set col (.i (.sl 0 false bk.sz ys))))[i]? = some q->q[j]? = some c->(i=row/\j=col/\c = .i (.sl 0 false bk.sz ys)) \/ (¬ (i=row/\j=col) /\ ∃ q0,b.rows[i]? = some q0/\q0[j]? = some c):=by
  intro i q j c hi hj;by_cases e:i=row
  . subst e;rw [ZQ hrl] at hi;obtain rfl:=QA hi;by_cases e2:j=col
    . subst e2;rw [ZQ hcl] at hj;exact .inl ⟨rfl,rfl,(QA hj).symm⟩
    . rw [ZW (Ne.symm e2)] at hj;exact .inr ⟨λh=>e2 h.2,r,hr,hj⟩
  . rw [ZW (Ne.symm e)] at hi;exact .inr ⟨λh=>e h.1,q,hi,hj⟩
 obtain ⟨v0,hv0,hrv0⟩:=a6 row r col _ hr hc
 have hval:∃ ad,v0 = .slice (some ad) len (capk-0)/\ad=⟨gk,0,none⟩:=by
  rw [htr] at hrv0
  cases hrv0 with
  | hs _ _ _ g1 sz1 cap1 ad hb1 hle1 had1 =>
   have hb1:E.β k=some (g1,sz1,cap1):=hb1;rw [hβk] at hb1
   obtain ⟨rfl,rfl,rfl⟩:gk=g1/\bk.sz=sz1/\capk=cap1:=by simpa using hb1
   exact ⟨ad,rfl,by simpa using had1 (.inr rfl)⟩
 obtain ⟨ad,rfl,rfl⟩:=hval
 have hyl:ys.length=len:=by rw [hlen,hrows];simp
 have gkA:E.A gk:=k8 hkfz
 have hnewRead:Ri w (E'.rd h true) (.slice (some ⟨gk,0,none⟩) len (capk-0)) (.sl 0 false bk.sz ys):=by
  by_cases h0:len=0
  . subst h0;obtain rfl:=XL hyl
    exact .nil _ _ _ _ _ (λe=>by cases e) (λe=>by cases e)
  . have := Ri.sl (w := w) (E := E'.rd h true) 0 bk.sz gk 0 (capk - 0) ys (fun i j => (arrk[i * bk.sz + j]?).getD undef) (fun e => by subst e; simp at hyl; omega) (by omega) (ZI.1 k1).1 (by
     unfold Env.blk;rw [QL rfl]
     exact λh3=>h3.2 ωg)
     (λi q hi=>by have:=k5 i (q.map .i) (by rw [hrows,QK,hi];rfl);simpa using this)
     (λi q j y hi hj=>by
      obtain ⟨u,hu,_⟩:=k6 i (q.map .i) j (.i y) (by rw [hrows,QK,hi];rfl) (by rw [QK,hj];rfl)
      simp [World.cell?,k1,hu])
     (λi q j y hi hj=>by
      obtain ⟨u,hu,hru⟩:=k6 i (q.map .i) j (.i y) (by rw [hrows,QK,hi];rfl) (by rw [QK,hj];rfl)
      obtain ⟨z,rfl⟩:=hlit i q j y hi hj;rw [hu]
      cases hru with | i hru=>cases hru with | lit _ h=>exact .lit _ h)
    rw [hyl] at this;exact this
 have hω':E'.ω g=none:=by rw [ωn g (hgne h b g _ hne hb hβ)];exact hω
 have cellOf:∀ i j v,w.cell? ⟨g,i*b.sz+j,none⟩=some v->arr[i*b.sz+j]? = some v:=λi j v h=>by simpa [World.cell?,a1] using h
 refine ⟨E',hs.fr,⟨hs.wf.alt,hs.wf.tag,hs.wf.inj,λx j hx=>?_⟩,hs.old,hs.nt,hs.tag,hs.new,λj b' hj=>?_,λj j' b1 b2 g1 g2 z1 z2 h1 h2 hz1 hz2=>?_,λj b1 g1 z1 h1 hz1=>?_,λt x hx=>(hs.slots t x hx).keepBut kb (hslots t x hx),hs.tsize,λj x hx=>?_,λj hj hj2 hm=>?_,λj b1 g1 z1 h1 hz1 hf=>?_,hs.held,λx j hx=>?_⟩
 . by_cases e:x=gk
   . subst e;exact ⟨gkA,k9,_,k1,rfl⟩
   . rw [ωn x e] at hx;exact hs.wf.om x j hx
 . obtain ⟨hjk,⟨rfl,rfl⟩ | ⟨hjh,hj⟩⟩:=lk j b' hj
   . refine ⟨g,cap,(β' j hjk).trans hβ,⟨arr,a1,a2,by simpa using a3,a4,λi q hi=>?_,λi q j' c hi hj'=>?_,hhf,λe=>(Env.rd_A hω').2 ((Env.rd_A hω).1 (a8 e)),by rw [Env.rd_τ] at a9 ⊢;exact a9⟩,hω',λ_=>?_⟩
     . by_cases e:i=row
       . subst e;simp only at hi;rw [ZQ hrl] at hi;obtain rfl:=QA hi;rw [JN];exact a5 i r hr
       . simp only at hi;rw [ZW (Ne.symm e)] at hi;exact a5 i q hi
     . show ∃ v,arr[i*b.sz+j']? = some v/\Rc w (E'.rd j b.tr) v c;rcases newc i q j' c hi hj' with ⟨rfl,rfl,rfl⟩ | ⟨hn,q0,h1,h2⟩
       . refine ⟨_,hv0,?_⟩;rw [htr];exact .i hnewRead
       . obtain ⟨v,hv1,hv2⟩:=a6 i q0 j' c h1 h2;exact ⟨v,hv1,hv2.keepBut (kbr j b.tr hjk) (hrest i q0 j' c h1 h2 hn)⟩
     . have one : ∀ (i : Nat) (q : List C) (j' : Nat) (y : I) (len' cp : Nat) (a : Addr), (b.rows.set row (r.set col (.i (.sl 0 false bk.sz ys))))[i]? = some q -> q[j']? = some (.i y) -> y.isSl = true -> w.cell? ⟨g, i * b.sz + j', none⟩ = some (.slice (some a) len' cp) -> 0 < len' ->
         (i=row/\j'=col/\a.block=gk) \/ (E.ω a.block=some j /\ ∃ q0,b.rows[i]? = some q0/\q0[j']? = some (.i y)):=by
        intro i q j' y len' cp a h1 h2 h3 h4 h5;rcases newc i q j' _ h1 h2 with ⟨rfl,rfl,_⟩ | ⟨hn,q0,q1,q2⟩
        . have h6:=cellOf _ _ _ h4;rw [hv0] at h6;simp only [QD,Value.slice.injEq] at h6
          exact .inl ⟨rfl,rfl,by rw [<- h6.1]⟩
        . exact .inr ⟨hS.1 i q0 j' y len' cp a q1 q2 h3 h4 h5,q0,q1,q2⟩
       refine ⟨λi q j' y len' cp a h1 h2 h3 h4 h5=>?_,λi q j1 y i' q' j2 y' len1 len2 cp cp' a a' h1 h2 h3 h1' h2' h3' hn h4 h4' h5 h5'=>?_,λi q j' y len' cp a h1 h2 h3 h4 h5=>?_⟩
       rotate_left 2
       . rcases newc i q j' _ h1 h2 with ⟨rfl,rfl,_⟩ | ⟨hn,q0,q1,q2⟩
         . have h6:=cellOf _ _ _ h4;rw [hv0] at h6;simp only [QD,Value.slice.injEq] at h6;obtain ⟨rfl,rfl,rfl⟩:=h6
           exact ⟨arrk,rfl,by rw [<- hie];exact k1,by rw [k2,hsz1];omega,by omega⟩
         . exact hS.2.2 i q0 j' y len' cp a q1 q2 h3 h4 h5
       . rcases one i q j' y len' cp a h1 h2 h3 h4 h5 with ⟨_,_,e⟩ | ⟨e,_⟩
         . rw [e];exact ωg
         . by_cases e2:a.block=gk
           . rw [e2];exact ωg
           . rw [ωn _ e2];exact e
       . rcases one i q j1 y len1 cp a h1 h2 h3 h4 h5 with ⟨e1,e2,e⟩ | ⟨e,q0,p1,p2⟩ <;> rcases one i' q' j2 y' len2 cp' a' h1' h2' h3' h4' h5' with ⟨e1',e2',e'⟩ | ⟨e',q0',p1',p2'⟩
         . exact absurd ⟨e1.trans e1'.symm,e2.trans e2'.symm⟩ hn
         . intro e3;rw [<- e3,e,hωk] at e';cases e'
         . intro e3;rw [e3,e',hωk] at e;cases e
         . exact hS.2.1 i q0 j1 y i' q0' j2 y' len1 len2 cp cp' a a' p1 p2 h3 p1' p2' h3' hn h4 h4' h5 h5'
   . obtain ⟨gj,capj,hβj,⟨arr',c1,c2,c3,c4,c5,c6,c7,c8,c9⟩,hωj,hSj⟩:=hs.boxes j b' hj
     have hωj':E'.ω gj=none:=by rw [ωn gj (hgne j b' gj _ hjk hj hβj)];exact hωj
     refine ⟨gj,capj,(β' j hjk).trans hβj,⟨arr',c1,c2,c3,c4,c5,λi q j' c hi hj'=>?_,c7,λe=>(Env.rd_A hωj').2 ((Env.rd_A hωj).1 (c8 e)),by rw [Env.rd_τ] at c9 ⊢;exact c9⟩,hωj',λe=>(hSj e).keep rfl λb2 hb2=>⟨?_,rfl⟩⟩
     . obtain ⟨v,hv1,hv2⟩:=c6 i q j' c hi hj';exact ⟨v,hv1,hv2.keepBut (kbr j b'.tr hjk) (hboxes j b' hjk hjh hj i q j' c hi hj')⟩
     . by_cases e2:b2=gk
       . subst e2;rw [hωk] at hb2;cases hb2
       . rw [ωn b2 e2];exact hb2
 . obtain ⟨n1,b3,l1,_⟩:=lko j b1 h1;obtain ⟨n2,b4,l2,_⟩:=lko j' b2 h2;exact hs.inj j j' b3 b4 g1 g2 z1 z2 l1 l2 ((β' j n1).symm.trans hz1) ((β' j' n2).symm.trans hz2)
 . obtain ⟨n1,b3,l1,l2,_⟩:=lko j b1 h1;rw [<- l2];exact hs.own j b3 g1 z1 l1 ((β' j n1).symm.trans hz1)
 . have hjk : j ≠ k := by
    rintro rfl
    have:E'.β j=none:=QL rfl;rw [this] at hx;cases hx
   by_cases e:j=h
   . subst e;rw [A9];rfl
   . rw [Ac _ _ e,Az hjk];exact hs.dom j x ((β' j hjk).symm.trans hx)
 . rw [β' j (by omega)];exact hs.stay j hj hj2 hm
 . obtain ⟨n1,b3,l1,l2,_⟩:=lko j b1 h1;exact hs.fzn j b3 g1 z1 l1 ((β' j n1).symm.trans hz1) (l2.trans hf)
 . by_cases e:x=gk
   . subst e;rcases hs.own k bk x _ hbk hβk with h' | h'
     . exact .inl h'
     . exact .inr h'.1
   . rw [ωn x e] at hx;exact hs.tow x j hx
end Go.Ev

/- DERIVED. Several boxes of the function's own become Hm of a tree. -/
namespace Go.Ev
open Go
variable {P:Program} {T:Ty}
theorem Ch.weak {K:Am} {o:Oper} {s s1 s2:St} (h:Ch P K o s s1) (hw:C3 s1 s2):Ch P K o s s2 :=
 λΓ w E a ro n X hK hX hx hs next Q hn=>h Γ w E a ro n X hK hX hx hs next Q λa' w' hx' ⟨E',hs'⟩=>hn a' w' hx' (hw Γ w' E' a'.tmps hs')
theorem C3.trans {s s1 s2:St} (h:C3 s s1) (h':C3 s1 s2):C3 s s2:=λΓ w E tmps hs=>by
 obtain ⟨E',hs'⟩:=h Γ w E tmps hs;exact h' Γ w E' tmps hs'
theorem Cx {s s':St} (hn:s'.nt=s.nt) (h1:∀ t x,A1 t s'.slots=some x->x = .dead \/ A1 t s.slots=some x) (h2:∀ k,A1 k s'.boxes=A1 k s.boxes):C3 s s':=λΓ w E tmps hs=>by
 have hs1:=hs.relook (bs:=s'.boxes) h2;refine ⟨E,?_⟩;obtain ⟨sl,bx,nt⟩:=s';simp only at hn h1 h2 hs1 ⊢;subst hn
 exact ⟨hs1.fr,hs1.wf,hs1.old,hs1.nt,hs1.tag,hs1.new,hs1.boxes,hs1.inj,hs1.own,λt x hx=>(h1 t x hx).elim (λe=>by subst e;exact .dead) (λe=>hs1.slots t x e),hs1.tsize,hs1.dom,hs1.stay,hs1.fzn,hs1.held,hs1.tow⟩
theorem B85 {s:St} {h:Nat} {b:Box} (hb:A1 h s.boxes=some b) (hi:∀ (i:Nat) (r:List C) (j:Nat) (c:C),b.rows[i]? = some r->r[j]? = some c->∃ x,c = .i x) :
  C3 s { s with boxes:=Ak h { b with hf:=true } s.boxes }:=λΓ w E tmps hs=>by
 have same:∀ k b',A1 k (Ak h { b with hf:=true } s.boxes)=some b'->∃ b0,A1 k s.boxes=some b0/\b0.fz=b'.fz/\b0.sz=b'.sz:=by
  intro k b' hb';by_cases hk:k=h
  . subst hk;rw [A9] at hb';obtain rfl:=QA hb';exact ⟨b,hb,rfl,rfl⟩
  . rw [Ac _ _ hk] at hb';exact ⟨b',hb',rfl,rfl⟩
 refine ⟨E,hs.fr,hs.wf,hs.old,hs.nt,hs.tag,hs.new,λk b' hb'=>?_,λk k' b b' g g' z z' hb hb' hz hz'=>?_,λk b g z hb hz=>?_,hs.slots,hs.tsize,λk x hx=>?_,hs.stay,λk b g z hb hz hf=>?_,hs.held,hs.tow⟩
 . by_cases hk:k=h
   . subst hk;rw [A9] at hb';obtain rfl:=QA hb';obtain ⟨g,cap,hβ,⟨arr,a1,a2,a3,a4,a5,a6,a7,a8,a9⟩,hω,hS⟩:=hs.boxes k b hb;exact ⟨g,cap,hβ,⟨arr,a1,a2,a3,a4,a5,a6,λ_=>hi,a8,a9⟩,hω,hS⟩
   . rw [Ac _ _ hk] at hb';exact hs.boxes k b' hb'
 . obtain ⟨b0,h0,_⟩:=same k b hb;obtain ⟨b1,h1,_⟩:=same k' b' hb';exact hs.inj k k' b0 b1 g g' z z' h0 h1 hz hz'
 . obtain ⟨b0,h0,h1,_⟩:=same k b hb;rw [<- h1];exact hs.own k b0 g z h0 hz
 . by_cases hk:k=h
   . subst hk;rw [A9];rfl
   . rw [Ac _ _ hk];exact hs.dom k x hx
 . obtain ⟨b0,h0,h1,_⟩:=same k b hb;exact hs.fzn k b0 g z h0 hz (h1.trans hf)
theorem Afe {s:St} {h:Nat} (c1:h<1000) (h1:∀ t x,A1 t s.slots=some x->x.men h=false) (h2:∀ k b,k ≠ h->A1 k s.boxes=some b->∀ (i:Nat) (r:List C) (j:Nat) (c:C),b.rows[i]? = some r->r[j]? = some c->c.men h=false) :
  C3 s { s with boxes:=C1 h s.boxes }:=λΓ w E tmps hs=>by
 let E':Env:={ E with β:=λk=>if k=h then Option.none else E.β k }
 have kb:Ci h w w E E':=⟨QY _,λ_ _ _ h=>h,λk x hk hx=>by show (if k=h then Option.none else E.β k)=some x;rw [QJ hk];exact hx,λ_ _ _ _ _ h=>h⟩
 have back:∀ k x,E'.β k=some x->k ≠ h/\E.β k=some x:=by
  intro k x hx
  have hx':(if k=h then Option.none else E.β k)=some x:=hx
  by_cases e:k=h
  . rw [QL e] at hx';cases hx'
  . rw [QJ e] at hx';exact ⟨e,hx'⟩
 have lk:∀ k b,A1 k (C1 h s.boxes)=some b->k ≠ h/\A1 k s.boxes=some b:=by
  intro k b hb;by_cases e:k=h
  . subst e;rw [Bj] at hb;cases hb
  . rw [Az e] at hb;exact ⟨e,hb⟩
 refine ⟨E',hs.fr,⟨hs.wf.alt,hs.wf.tag,hs.wf.inj,hs.wf.om⟩,hs.old,hs.nt,hs.tag,hs.new,λk b hb=>?_,λk k' b b' g g' z z' hb hb' hz hz'=>?_,λk b g z hb hz=>?_,λt x hx=>?_,hs.tsize,λk x hx=>?_,λk hk hk2 hm=>?_,λk b g z hb hz=>?_,hs.held,hs.tow⟩
 . obtain ⟨hne,hb0⟩:=lk k b hb;obtain ⟨g,cap,hβ,⟨arr,a1,a2,a3,a4,a5,a6,a7,a8,a9⟩,hω,hS⟩:=hs.boxes k b hb0;have kb:=kb.rd k b.tr λ_ _ h=>⟨h,rfl⟩
   refine ⟨g,cap,by have:=kb.β _ _ hne (by rw [Env.rd_β];exact hβ);rwa [Env.rd_β] at this,⟨arr,a1,a2,a3,a4,a5,λi r j c hi hj=>?_,a7,λe=>(Env.rd_A (E:=E') hω).2 ((Env.rd_A (E:=E) hω).1 (a8 e)),by rw [Env.rd_τ] at a9 ⊢;exact a9⟩,hω,hS⟩
   obtain ⟨v,hv,hr⟩:=a6 i r j c hi hj;refine ⟨v,hv,hr.keepBut kb ?_⟩;exact h2 k b hne hb0 i r j c hi hj
 . obtain ⟨_,h1⟩:=lk k b hb;obtain ⟨_,h2⟩:=lk k' b' hb';exact hs.inj k k' b b' g g' z z' h1 h2 (back _ _ hz).2 (back _ _ hz').2
 . exact hs.own k b g z (lk k b hb).2 (back _ _ hz).2
 . exact (hs.slots t x hx).keepBut kb (h1 t x hx)
 . obtain ⟨hne,hx0⟩:=back _ _ hx;rw [Az hne];exact hs.dom k x hx0
 . show (if k=h then Option.none else E.β k)=_
   rw [QJ (by omega)]
   exact hs.stay k hk hk2 hm
 . exact hs.fzn k b g z (lk k b hb).2 (back _ _ hz).2
def Qf (ks:List Nat) (g:Nat->I):C->C
 | .hs k o len=>bif ks.any (Nat.beq k) then .i (g k) else .hs k o len
 | c=>c
def I3 {β:Type}:List Nat->List (Nat × β)->List (Nat × β)
 | [],l=>l
 | k::r,l=>I3 r (C1 k l)
theorem E8 {β:Type}:∀ (ks:List Nat) (l:List (Nat × β)) (j:Nat),A1 j (I3 ks l)=bif ks.any (Nat.beq j) then none else A1 j l
 | [],l,j=>rfl
 | k::r,l,j=>by
  simp only [I3,E8 r,YW]
  cases hb:Nat.beq j k with
  | true =>
   obtain rfl:=QC hb;rw [Bj]
   cases r.any (Nat.beq j) <;> rfl
  | false =>
   rw [Az (λe=>by subst e;simp at hb)]
   rfl
structure Auf (s:St) (h row:Nat) (b:Box) (r:List C) (ks:List Nat) (g:Nat->I):Prop where
 hb:A1 h s.boxes=some b
 tr:b.tr=true
 hr:b.rows[row]? = some r
 oth:∀ (i:Nat) (q:List C) (j:Nat) (c:C),i ≠ row->b.rows[i]? = some q->q[j]? = some c->∃ y,c = .i y
 nd:ks.Nodup
 each:∀ k ∈ ks,k ≠ h/\k<1000 /\ ∃ bk ys col len,A1 k s.boxes=some bk/\bk.tr=false/\bk.fz=false/\r[col]? = some (.hs k 0 len)/\len=bk.rows.length/\bk.rows=ys.map (·.map .i) /\
  (∀ (i:Nat) (q:List I) (j:Nat) (y:I),ys[i]? = some q->q[j]? = some y->∃ v,y = .lit v)/\g k = .sl 0 false bk.sz ys/\(∀ (j:Nat) (c:C),r[j]? = some c->j ≠ col->c.men k=false)/\bk.e=Dh/\bk.sz=1
 slots:∀ k ∈ ks,∀ t x,A1 t s.slots=some x->x.men k=false
 boxes:∀ k ∈ ks,∀ i b',i ≠ k->i ≠ h->A1 i s.boxes=some b'->∀ (i:Nat) (r:List C) (j:Nat) (c:C),b'.rows[i]? = some r->r[j]? = some c->c.men k=false
theorem Aq7 {h row:Nat} {g:Nat->I}:∀ (ks:List Nat) {s:St} {b:Box} {r:List C},Auf s h row b r ks g ->
  C3 s { s with boxes:=Ak h { b with hf:=bif ks.isEmpty then b.hf else false,rows:=b.rows.set row (r.map (Qf ks g)) } (I3 ks s.boxes) }
 | [],s,b,r,ok=>by
  refine Cx rfl (λt x hx=>.inr hx) λk=>?_;simp only [I3];by_cases e:k=h
  . subst e;rw [A9,ok.hb];congr 1
    have e1:r.map (Qf [] g)=r:=by
     refine (ZH λc _=>?_).trans (List.map_id r)
     cases c <;> rfl
    have e2:b.rows.set row r=b.rows:=by
     have:=(QP.1 ok.hr);obtain ⟨h1,h2⟩:=this;rw [<- h2];exact List.set_getElem_self h1
    rw [e1,e2];rfl
  . rw [Ac _ _ e]
 | k::ks,s,b,r,ok=>by
  obtain ⟨c1,c2,bk,ys,col,len,c3,c4,c5,c6,c7,c8,c9,c10,c11,c12,c13⟩:=ok.each k (by simp)
  have hrl:row<b.rows.length:=(QP.1 ok.hr).1;have hcl:col<r.length:=(QP.1 c6).1
  let r1:=r.set col (.i (.sl 0 false bk.sz ys))
  let b1:Box:={ b with hf:=false,rows:=b.rows.set row r1 }
  let s1:St:={ s with boxes:=Ak h b1 (C1 k s.boxes) }
  have w1:C3 s s1:=λΓ w E tmps hs=>Yi hs ok.hb ok.tr (Ne.symm c1) (.inl c2) c3 c4 c5 ok.hr c6 c7 c8 c9 c12 c13 (ok.slots k (by simp)) (ok.boxes k (by simp)) (λi q j c hi hj hn=>by
   by_cases e:i=row
   . subst e;rw [ok.hr] at hi;obtain rfl:=QA hi;exact c11 j c hj (λe2=>hn ⟨rfl,e2⟩)
   . obtain ⟨y,rfl⟩:=ok.oth i q j c e hi hj
     rfl) (λe=>by cases e)
  have hnk:k ∉ ks:=(KC.1 ok.nd).1
  have l1:∀ j,A1 j s1.boxes=if j=h then some b1 else if j=k then none else A1 j s.boxes:=by
   intro j;show A1 j (Ak h b1 (C1 k s.boxes))=_;by_cases e:j=h
   . subst e;rw [A9,QL rfl]
   . rw [Ac _ _ e,QJ e];by_cases e2:j=k
     . subst e2;rw [Bj,QL rfl]
     . rw [Az e2,QJ e2]
  have ok1:Auf s1 h row b1 r1 ks g:=by
   refine ⟨by rw [l1,QL rfl],ok.tr,by show (b.rows.set row r1)[row]? = _;rw [ZQ hrl],λi q j c hi hq hc=>?_,(KC.1 ok.nd).2,λk2 hk2=>?_,λk2 hk2=>ok.slots k2 (by simp [hk2]),λk2 hk2 i b' h1 h2 hl=>?_⟩
   . have hq:(b.rows.set row r1)[i]? = some q:=hq;rw [ZW (Ne.symm hi)] at hq;exact ok.oth i q j c hi hq hc
   . obtain ⟨d1,d2,bk2,ys2,col2,len2,d3,d4,d5,d6,d7,d8,d9,d10,d11,d12,d13⟩:=ok.each k2 (by simp [hk2])
     have hne:k2 ≠ k:=λe=>hnk (e ▸ hk2)
     have hcc:col2 ≠ col:=by
      intro e;rw [e,c6] at d6;simp only [QD,C.hs.injEq] at d6;exact hne d6.1.symm
     refine ⟨d1,d2,bk2,ys2,col2,len2,by rw [l1,QJ d1,QJ hne];exact d3,d4,d5,by show (r.set col _)[col2]? = _;rw [ZW (Ne.symm hcc)];exact d6,d7,d8,d9,d10,(λj c hj hn=>?_),d12,d13⟩
     have hj:(r.set col (.i (.sl 0 false bk.sz ys)))[j]? = some c:=hj;by_cases e:j=col
     . subst e;rw [ZQ hcl] at hj;obtain rfl:=QA hj;rfl
     . rw [ZW (Ne.symm e)] at hj;exact d11 j c hj hn
   . rw [l1,QJ h2] at hl;by_cases e:i=k
     . rw [QL e] at hl;cases hl
     . rw [QJ e] at hl
       exact ok.boxes k2 (by simp [hk2]) i b' h1 h2 hl
  refine w1.trans ((Aq7 ks ok1).trans (Cx rfl (λt x hx=>.inr hx) λj=>?_))
  have er:r1.map (Qf ks g)=r.map (Qf (k::ks) g):=by
   apply JD;intro j;rw [QK,QK];show ((r.set col (.i (.sl 0 false bk.sz ys)))[j]?).map _=_;by_cases e:j=col
   . subst e;rw [ZQ hcl,c6];simp only [QQ,Qf,YW,XF,Qav,cond,c10]
   . rw [ZW (Ne.symm e)]
     cases hj:r[j]? with
     | none=>rfl
     | some c =>
      have hm:=c11 j c hj e;simp only [QQ];congr 1
      cases c with
      | hs k' o l =>
       have hm:Nat.beq k' k=false:=hm;simp only [Qf,YW,hm,YO]
      | i=>rfl
      | hp=>rfl
  by_cases e:j=h
  . subst e;rw [A9,A9];congr 1
    show ({ b with hf:=_,rows:=_ }:Box)={ b with hf:=(bif ks.isEmpty then false else false),rows:=(b.rows.set row r1).set row (r1.map (Qf ks g)) }
    rw [Qaw,er]
    cases ks <;> rfl
  . rw [Ac _ _ e,Ac _ _ e,E8,E8]
    show _=(bif ks.any (Nat.beq j) then none else A1 j s1.boxes)
    rw [l1,QJ e];simp only [YW]
    cases hb:Nat.beq j k with
    | true =>
     rw [QL (QC hb)]
     cases ks.any (Nat.beq j) <;> rfl
    | false =>
     rw [QJ (λe=>by subst e;simp at hb)]
     rfl
end Go.Ev

/- DERIVED. A row with the function's own boxes is appended to a tree. -/
namespace Go.Ev
open Go
variable {P:Program} {T:Ty}
theorem B6n (hT:Aw P T) {Γ:Ctx} {w:World} {E:Env} {s:St} {tmps:Array Value} (hs:A8 Γ w E s tmps) {t ty e:TypeId} {ei:TI} (hd:Ty.d T t=some (.slice e)) (hei:T e=some ei) (c1:1<=ei.size) (c2:1<=ei.bytes)
  {hh len tb:Nat} {b bt:Box} {v u:Value} {row:List C} (hv:Rs w E v (.v (.one (.hs hh 0 len)))) (hb:A1 hh s.boxes=some b) (d1:b.sz=ei.size) (d2:b.hf=true) (d3:b.fz=false) (d4:b.e=e) (dtr:b.tr=true) (o1:len=b.rows.length)
  (hu:Rs w E u (.v (.one (.hs tb 0 1)))) (hbt:A1 tb s.boxes=some bt) (t1:bt.sz=ei.size) (t2:bt.tr=false) (t3:bt.rows=[row]) (t4:row.all C.okT=true) (t5:∀ c ∈ row,c.men hh=false)
  (o2:(len+1)*ei.bytes<=140737488355328) (hmv:hh<1000 \/ Γ.K.mv.contains hh=true) :
  ∃ u' w' E',(Builtin.append_ #[t,t] ty #[v,u]).run P w = .ok u' w'/\Rs w' E' u' (.v (.one (.hs hh 0 (len+1))))/\A8 Γ w' E' (s.app hh { b with hf:=row.all C4,rows:=b.rows++[row] }) tmps:=by
 obtain ⟨gt,zt,capt,adt,hβt,hcapt,hadt,rfl⟩:=hu.hs_inv;obtain ⟨rfl,hatt,_,_⟩:=hs.box hbt hβt;obtain ⟨arrt,s1,s2,s3,s4,s5,s6,_,_,_⟩:=hatt t2;obtain rfl:=hadt (.inr rfl)
 have hrl:row.length=ei.size:=by rw [<- t1];exact s5 0 row (by rw [t3];rfl)
 have hin:ei.size<=arrt.size:=by
  rw [s2,<- t1]
  have:1*bt.sz<=capt*bt.sz:=XT _ (by rw [t3] at s3;simpa using s3)
  omega
 let vs:List Value:=arrt.toList.take ei.size
 have hvl:vs.length=[row].length*ei.size:=by simp only [vs,YT,JZ,List.length_singleton];omega
 have hvget:∀ (j:Nat) u,vs[j]? = some u->arrt[j]? = some u:=λj u hj=>by
  simp only [vs] at hj;rw [XG] at hj;split at hj
  . rwa [XZ] at hj
  . cases hj
 have hcellt:∀ (j:Nat) (c:C),row[j]? = some c->∃ u,vs[j]? = some u/\Rc w E u c:=by
  intro j c hj
  obtain ⟨u,hu1,hu2⟩:=s6 0 row j c (by rw [t3];rfl) hj
  refine ⟨u,?_,hu2⟩;have hjl:=(QP.1 hj).1;simp only [vs]
  rw [XG,QL (by omega),XZ]
  simpa using hu1
 have hvc:∀ (j:Nat) u,vs[j]? = some u->w.cell? ((⟨gt,0*bt.sz,none⟩:Addr).add j)=some u:=by
  intro j u hj;have:=hvget j u hj;rw [Ge];simp [World.cell?,s1,this]
 have hone:∀ u ∈ vs,u.oneCell'=true:=by
  intro u hu;obtain ⟨j,hj⟩:=Qar.1 hu
  have hjl:j<row.length:=by have:=(QP.1 hj).1;rw [hvl] at this;simp at this;omega
  obtain ⟨u',h1,h2⟩:=hcellt j _ (QN hjl);rw [hj] at h1;obtain rfl:=QA h1;exact h2.oneCell
 obtain ⟨g,z,cap,ad0,hβ,hcap,had,rfl⟩:=hv.hs_inv;obtain ⟨g',cap',hβ',⟨arr,hg,hsz',hl,hm,hlen,hcell,hhf,hA,hT'⟩,hω,hS⟩:=hs.boxes hh b hb
 have e0:z=b.sz/\g'=g/\cap'=cap:=by rw [hβ] at hβ';simp only [QD,QI] at hβ';exact ⟨hβ'.2.1,hβ'.1.symm,hβ'.2.2.symm⟩
 obtain ⟨rfl,rfl,rfl⟩:=e0;obtain rfl:=had (.inr rfl);obtain ⟨hs0,hmen⟩:=hs.kill hh;have hs1:=hs0.killB hh
 have hbk:A1 hh (killB hh s.boxes)=some b:=by rw [E7,hb];exact XU some (Ju d2)
 have hfull:len*ei.size<=arr.size:=by rw [hsz',d1,o1];exact XT _ hl
 have holdlt:∀ (i:Nat) (r:List C) (j:Nat) (c:C),b.rows[i]? = some r->r[j]? = some c->i*ei.size+j<len*ei.size:=by
  intro i r j c hi hj;have hil:i<b.rows.length:=(QP.1 hi).1
  have hjl:j<b.sz:=by rw [<- hlen i r hi];exact (QP.1 hj).1
  have:(i+1)*ei.size<=len*ei.size:=XT _ (by omega)
  rw [YM,JH] at this;omega
 have hxs:∀ n,n<len*ei.size->(arr.toList.take (len*ei.size))[n]? = arr[n]?:=λn hn=>by rw [XG,QL hn,XZ]
 have hcel:∀ n,w.cell? ⟨g',n,none⟩=arr[n]?:=λn=>by simp [World.cell?,hg]
 have hS':=hS dtr
 obtain ⟨u',w',E',e1,e2,e3⟩:=A5k (ty:=ty) hT hs1 hd hei c1 c2 (h:=hh) (n:=len) (v:=.slice (some ⟨g',0*b.sz,none⟩) len (cap'-0)) (u:=.slice (some ⟨gt,0*bt.sz,none⟩) 1 (capt-0)) (olds:=b.rows) (news:=[row]) (b':={ b with hf:=row.all C4,rows:=b.rows++[row] })
  ⟨d4,d1,λh i r j c hi hj=>by
   by_cases hlt:i<b.rows.length
   . rw [ZA hlt] at hi;exact hhf d2 i r j c hi hj
   . rw [QZ (by omega)] at hi
     have hi0:i-b.rows.length=0:=by have:=(QP.1 hi).1;simp at this;omega
     rw [hi0] at hi;simp at hi;subst hi
     exact Wr h hj,d3,rfl⟩ o1.symm (arr.toList.take (len*ei.size))
  ⟨by simp [hfull],.inr ⟨g',cap',arr,by simp,KG _,by rw [<- d4];exact hg,by omega,hm,by rw [hsz',d1],rfl⟩⟩
  (.inr ⟨g',cap',b,hbk,d3,by rw [<- d1];exact hβ,by simp⟩) (λi r hi=>by rw [<- d1];exact hlen i r hi)
  (λi r j c hi hj=>by
   obtain ⟨u,hu',hr⟩:=hcell i r j c hi hj;obtain ⟨y,rfl⟩:=hhf d2 i r j c hi hj
   exact ⟨u,by rw [hxs _ (holdlt i r j _ hi hj),<- d1];exact hu',hr,rfl⟩)
  (λ_=>⟨λi r j y len' cp a h1 h2 h3 h4 h5=>hS'.1 i r j y len' cp a h1 h2 h3 (by rw [hcel,d1,<- hxs _ (holdlt i r j _ h1 h2)];exact h4) h5,
   λi r j y i' r' j' y' len1 len2 cp cp' a a' h1 h2 h3 h1' h2' h3' hn h4 h4' h5 h5'=>hS'.2.1 i r j y i' r' j' y' len1 len2 cp cp' a a' h1 h2 h3 h1' h2' h3' hn (by rw [hcel,d1,<- hxs _ (holdlt i r j _ h1 h2)];exact h4) (by rw [hcel,d1,<- hxs _ (holdlt i' r' j' _ h1' h2')];exact h4') h5 h5',
   λi r j y len' cp a h1 h2 h3 h4 h5=>hS'.2.2 i r j y len' cp a h1 h2 h3 (by rw [hcel,d1,<- hxs _ (holdlt i r j _ h1 h2)];exact h4) h5⟩)
  ⟨gt,0*bt.sz,none⟩ (capt-0) vs rfl hvl hvc (λi r hi=>by
   have hi0:i=0:=by have:=(QP.1 hi).1;simp at this;omega
   subst hi0;simp at hi;subst hi;exact hrl)
  (λi r j c hi hj=>by
   have hi0:i=0:=by have:=(QP.1 hi).1;simp at this;omega
   subst hi0;simp at hi;subst hi;obtain ⟨u,h1,h2⟩:=hcellt j c hj
   exact ⟨u,by simpa using h1,h2,t5 c (QX hj),λ_=>QM.1 t4 c (QX hj)⟩) hone (by simpa using o2) hmv
  (.inr ⟨hmen,λi b' hi hb'=>by obtain ⟨b0,_,rfl⟩:=QB.1 ((E7 hh i s.boxes) ▸ hb');exact Agn hh b0⟩)
 exact ⟨u',w',E',e1,e2,e3⟩
end Go.Ev

/- DERIVED. Trees: a slice of a tree becomes a box of its own again; what a tree's cells read. -/
namespace Go.Ev
open Go
variable {P:Program} {T:Ty}
def I.flatSl:I->Prop
 | .lit _=>True
 | .sl tag _ _ zs=>tag=0 /\ ∀ (i:Nat) (q:List I) (j:Nat) (y:I),zs[i]? = some q->q[j]? = some y->∃ v,y = .lit v
 | _=>False
theorem A8d {Γ:Ctx} {w:World} {E:Env} {s:St} {tmps:Array Value} (hs:A8 Γ w E s tmps) {h k row col:Nat} {b:Box} {r:List C} {ys:List (List I)}
  (hb:A1 h s.boxes=some b) (htr:b.tr=true) (hfz:b.fz=false) (hk:2000<=k) (hkn:A1 k s.boxes=none)
  (hr:b.rows[row]? = some r) (hc:r[col]? = some (.i (.sl 0 false 1 ys))) (hne:ys ≠ [])
  (hflat:∀ (i:Nat) (q:List C) (j:Nat) (y:I),b.rows[i]? = some q->q[j]? = some (.i y)->y.flatSl) :
  ∃ E',A8 Γ w E' { s with boxes:=Ak k ⟨Dh,1,true,false,ys.map (·.map .i),false⟩ (Ak h { b with hf:=false,rows:=b.rows.set row (r.set col (.hs k 0 ys.length)) } s.boxes) } tmps:=by
 have hlit:=(hflat row r col _ hr hc).2;obtain ⟨g,cap,hβ,⟨arr,a1,a2,a3,a4,a5,a6,a7,a8,a9⟩,hω,hS⟩:=hs.boxes h b hb;have hS:=hS htr
 have hkh:h ≠ k:=λe=>by subst e;rw [hb] at hkn;cases hkn
 have βk:E.β k=none:=by
  cases e:E.β k with
  | none=>rfl
  | some x=>have:=hs.dom k x e;rw [hkn] at this;cases this
 have hrl:row<b.rows.length:=(QP.1 hr).1;have hcl:col<r.length:=(QP.1 hc).1
 have cellOf:∀ i j v,arr[i*b.sz+j]? = some v->w.cell? ⟨g,i*b.sz+j,none⟩=some v:=λi j v h=>by simp [World.cell?,a1,h]
 obtain ⟨v0,hv0,hrv0⟩:=a6 row r col _ hr hc;rw [htr] at hrv0
 have hrv0:Ri w (E.rd h true) v0 (.sl 0 false 1 ys):=by cases hrv0 with | i h=>exact h
 have hsl:∃ g1 cap1 arr1,v0 = .slice (some ⟨g1,0,none⟩) ys.length cap1/\E.ω g1=some h/\w.heap[g1]? = some (.cells arr1 Dh (0,0))/\arr1.size=cap1/\cap1<=maxLen/\ys.length<=cap1 /\
   (∀ (i:Nat) (q:List I),ys[i]? = some q->q.length=1) /\ ∀ (i:Nat) (q:List I) (j:Nat) (y:I),ys[i]? = some q->q[j]? = some y->∃ v,arr1[i*1+j]? = some v/\Ri w E v y:=by
  cases hrv0 with
  | nil=>exact absurd rfl hne
  | sl _ _ g1 o cap1 _ vs hne' hcap hg hbk hlen hcell hrc =>
   have hpos:0<ys.length:=XA.2 hne;have h1:=hS.1 row r col _ _ _ _ hr hc rfl (cellOf _ _ _ hv0) hpos;obtain ⟨ar,e1,e2,e3,e4⟩:=hS.2.2 row r col _ _ _ _ hr hc rfl (cellOf _ _ _ hv0) hpos
   have ho:o=0:=by simpa using e1
   subst ho;refine ⟨g1,cap1,ar,rfl,h1,e2,e3,e4,hcap,hlen,λi q j y hi hj=>?_⟩;have h2:=hcell i q j y hi hj;obtain ⟨u,rfl⟩:=hlit i q j y hi hj;have h3:=hrc i q j _ hi hj;generalize vs i j=u' at h2 h3;refine ⟨u',?_,?_⟩
   . have e2':w.heap[g1]? = some (.cells ar Dh (0,0)):=e2;simpa [World.cell?,e2'] using h2
   . cases h3 with | lit _ hx=>exact .lit _ hx
 obtain ⟨g1,cap1,arr1,rfl,hω1,hh1,hsz1,hmx1,hle1,hlen1,hcell1⟩:=hsl;have hom:=hs.wf.om g1 h hω1
 have gne:∀ j b' gj z,A1 j s.boxes=some b'->E.β j=some (gj,z)->gj ≠ g1:=λj b' gj z hj hz e=>by
  obtain ⟨_,_,_,_,_,_,hω'⟩:=(hs.boxes j b' hj).facts hz;rw [e,hω1] at hω';cases hω'
 let E':Env:={ A:=E.A,τ:=E.τ,β:=λj=>if j=k then some (g1,1,cap1) else E.β j,ω:=λx=>if x=g1 then none else E.ω x }
 have β':∀ j,j ≠ k->E'.β j=E.β j:=λj hj=>QJ hj;have βk':E'.β k=some (g1,1,cap1):=QL rfl;have ωn:∀ x,x ≠ g1->E'.ω x=E.ω x:=λx hx=>QJ hx;have ωg:E'.ω g1=none:=QL rfl
 have ωs:∀ x j,E'.ω x=some j->x ≠ g1/\E.ω x=some j:=λx j hx=>by
  by_cases e:x=g1
  . subst e;rw [ωg] at hx;cases hx
  . exact ⟨e,(ωn x e).symm.trans hx⟩
 have βu:∀ j x,E.β j=some x->E'.β j=some x:=λj x hx=>by
  by_cases e:j=k
  . subst e;rw [βk] at hx;cases hx
  . exact (β' j e).trans hx
 have kk:C0 w w E E':=⟨QY _,λ_ _ _ h=>h,βu,λ_ _ _ _ _ h=>h⟩
 have kr:∀ j tr,j ≠ h->C0 w w (E.rd j tr) (E'.rd j tr):=by
  intro j tr hj
  cases tr with
  | false=>exact kk
  | true =>
   refine ⟨QY _,λtag x _ hx=>?_,βu,λ_ _ _ _ _ h=>h⟩;unfold Env.blk at hx ⊢;split
   . rename_i e;rw [QL e] at hx
     rintro ⟨h1,h2⟩
     refine hx ⟨h1,λh3=>?_⟩;by_cases hxg:x=g1
     . subst hxg;rw [hω1] at h3;exact hj (QA h3).symm
     . exact h2 (by rw [ωn x hxg];exact h3)
   . rename_i e;rw [QJ e] at hx;exact hx
 have hω':E'.ω g=none:=by rw [ωn g (gne h b g _ hb hβ)];exact hω
 have newc:∀ (i:Nat) (q:List C) (j:Nat) (c:C),(b.rows.set row (r.set col (.hs k 0 ys.length)))[i]? = some q->q[j]? = some c->(i=row/\j=col/\c = .hs k 0 ys.length) \/ (¬ (i=row/\j=col) /\ ∃ q0,b.rows[i]? = some q0/\q0[j]? = some c):=by
  intro i q j c hi hj;by_cases e:i=row
  . subst e;rw [ZQ hrl] at hi;obtain rfl:=QA hi;by_cases e2:j=col
    . subst e2;rw [ZQ hcl] at hj;exact .inl ⟨rfl,rfl,(QA hj).symm⟩
    . rw [ZW (Ne.symm e2)] at hj;exact .inr ⟨λh=>e2 h.2,r,hr,hj⟩
  . rw [ZW (Ne.symm e)] at hi;exact .inr ⟨λh=>e h.1,q,hi,hj⟩
 have lk:∀ j b',A1 j (Ak k ⟨Dh,1,true,false,ys.map (·.map .i),false⟩ (Ak h { b with hf:=false,rows:=b.rows.set row (r.set col (.hs k 0 ys.length)) } s.boxes))=some b' ->
   (j=k/\b'=⟨Dh,1,true,false,ys.map (·.map .i),false⟩) \/ (j ≠ k/\((j=h/\b'={ b with hf:=false,rows:=b.rows.set row (r.set col (.hs k 0 ys.length)) }) \/ (j ≠ h/\A1 j s.boxes=some b'))):=by
  intro j b' hj;by_cases e:j=k
  . subst e;rw [A9] at hj;exact .inl ⟨rfl,(QA hj).symm⟩
  . rw [Ac _ _ e] at hj;by_cases e2:j=h
    . subst e2;rw [A9] at hj;exact .inr ⟨e,.inl ⟨rfl,(QA hj).symm⟩⟩
    . rw [Ac _ _ e2] at hj;exact .inr ⟨e,.inr ⟨e2,hj⟩⟩
 have lko:∀ j b',j ≠ k->A1 j (Ak k ⟨Dh,1,true,false,ys.map (·.map .i),false⟩ (Ak h { b with hf:=false,rows:=b.rows.set row (r.set col (.hs k 0 ys.length)) } s.boxes))=some b'->∃ b0,A1 j s.boxes=some b0/\b0.fz=b'.fz:=by
  intro j b' hjk hj;rcases lk j b' hj with ⟨e,_⟩ | ⟨_,⟨rfl,rfl⟩ | ⟨_,h2⟩⟩
  . exact absurd e hjk
  . exact ⟨b,hb,rfl⟩
  . exact ⟨b',h2,rfl⟩
 refine ⟨E',hs.fr,⟨hs.wf.alt,hs.wf.tag,hs.wf.inj,λx j hx=>hs.wf.om x j (ωs x j hx).2⟩,hs.old,hs.nt,hs.tag,hs.new,λj b' hj=>?_,λj j' b1 b2 ga gb z1 z2 h1 h2 hz1 hz2 hjj=>?_,λj b2 g2 z2 h2 hz2=>?_,λt x hx=>(hs.slots t x hx).keep kk,hs.tsize,λj x hx=>?_,λj hj hj2 hm=>(β' j (by omega)).trans (hs.stay j hj hj2 hm),λj b2 g2 z2 h2 hz2 hf=>?_,hs.held,λx j hx=>hs.tow x j (ωs x j hx).2⟩
 . rcases lk j b' hj with ⟨rfl,rfl⟩ | ⟨hjk,⟨rfl,rfl⟩ | ⟨hjh,hj⟩⟩
   . refine ⟨g1,cap1,βk',⟨arr1,hh1,by simpa using hsz1,by simpa using hle1,hmx1,λi q hi=>?_,λi q j' c hi hj'=>?_,λ_ i q j' c hi hj'=>?_,λ_=>hom.1,hom.2.1⟩,ωg,(λe=>by cases e)⟩
     . rw [QK] at hi;obtain ⟨q0,hq,rfl⟩:=QB.1 hi;simpa using hlen1 i q0 hq
     . rw [QK] at hi;obtain ⟨q0,hq,rfl⟩:=QB.1 hi;rw [QK] at hj';obtain ⟨y,hy,rfl⟩:=QB.1 hj';obtain ⟨v,e1,e2⟩:=hcell1 i q0 j' y hq hy;exact ⟨v,e1,(Rc.i e2).keep kk⟩
     . rw [QK] at hi;obtain ⟨q0,hq,rfl⟩:=QB.1 hi;rw [QK] at hj';obtain ⟨y,hy,rfl⟩:=QB.1 hj';exact ⟨y,rfl⟩
   . refine ⟨g,cap,(β' j hjk).trans hβ,⟨arr,a1,a2,by simpa using a3,a4,λi q hi=>?_,λi q j' c hi hj'=>?_,(λe=>by cases e),λe=>(Env.rd_A hω').2 ((Env.rd_A hω).1 (a8 e)),by rw [Env.rd_τ] at a9 ⊢;exact a9⟩,hω',λ_=>?_⟩
     . by_cases e:i=row
       . subst e;simp only at hi;rw [ZQ hrl] at hi;obtain rfl:=QA hi;rw [JN];exact a5 i r hr
       . simp only at hi;rw [ZW (Ne.symm e)] at hi;exact a5 i q hi
     . show ∃ v,arr[i*b.sz+j']? = some v/\Rc w (E'.rd j b.tr) v c;rcases newc i q j' c hi hj' with ⟨rfl,rfl,rfl⟩ | ⟨hn,q0,h1,h2⟩
       . refine ⟨_,hv0,?_⟩
         have:=Rc.hs (w:=w) (E:=E'.rd j b.tr) k 0 ys.length g1 1 cap1 ⟨g1,0,none⟩ (by rw [Env.rd_β];exact βk') (by omega) (λ_=>by simp)
         simpa using this
       . obtain ⟨v,hv1,hv2⟩:=a6 i q0 j' c h1 h2;refine ⟨v,hv1,?_⟩;rw [htr] at hv2 ⊢
         cases hv2 with
         | hs h' off len g2 sz cap2 ad hβ2 hle2 had=>exact .hs h' off len g2 sz cap2 ad (βu _ _ hβ2) hle2 had
         | hp h' row' col' g2 sz cap2 hβ2=>exact .hp h' row' col' g2 sz cap2 (βu _ _ hβ2)
         | i hri =>
          have hfl:=hflat i q0 j' _ h1 h2
          cases hri with
          | lit _ hx=>exact .i (.lit _ hx)
          | nil tag sz cp a nl hn1 hc1=>exact .i (.nil tag sz cp a nl hn1 hc1)
          | sl tag sz g2 o cap2 zs vs hne2 hcap2 hg2 hbk2 hlen2 hcell2 hrc2 =>
           obtain ⟨rfl,hl2⟩:=hfl
           have hg12:g2 ≠ g1:=by
            have:=hS.2.1 i q0 j' _ row r col _ _ _ _ _ _ _ h1 h2 rfl hr hc rfl hn (cellOf _ _ _ hv1) (cellOf _ _ _ hv0) (XA.2 hne2) (XA.2 hne);exact this
           refine .i (.sl 0 sz g2 o cap2 zs vs hne2 hcap2 hg2 ?_ hlen2 hcell2 λi2 q2 j2 y2 e1 e2=>?_)
           . unfold Env.blk at hbk2 ⊢;rw [QL rfl] at hbk2 ⊢
             rintro ⟨x1,x2⟩
             exact hbk2 ⟨x1,λx3=>x2 (by show E'.ω g2=_;rw [ωn g2 hg12];exact x3)⟩
           . obtain ⟨u,rfl⟩:=hl2 i2 q2 j2 y2 e1 e2;have:=hrc2 i2 q2 j2 _ e1 e2;generalize vs i2 j2=u2 at this ⊢
             cases this with | lit _ hx=>exact .lit _ hx
          | ref=>exact hfl.elim
          | fn=>exact hfl.elim
          | any=>exact hfl.elim
     . have back : ∀ (i : Nat) (q : List C) (j' : Nat) (y : I), (b.rows.set row (r.set col (.hs k 0 ys.length)))[i]? = some q -> q[j']? = some (.i y) -> ¬ (i = row /\ j' = col) /\ ∃ q0, b.rows[i]? = some q0 /\ q0[j']? = some (.i y) := by
        intro i q j' y h1 h2;rcases newc i q j' _ h1 h2 with ⟨_,_,e⟩ | e
        . cases e
        . exact e
       refine ⟨λi q j' y len' cp a h1 h2 h3 h4 h5=>?_,λi q j1 y i' q' j2 y' len1 len2 cp cp' a a' h1 h2 h3 h1' h2' h3' hn h4 h4' h5 h5'=>?_,λi q j' y len' cp a h1 h2 h3 h4 h5=>?_⟩
       . obtain ⟨hn,q0,e1,e2⟩:=back i q j' y h1 h2;have hne2:=hS.2.1 i q0 j' _ row r col _ _ _ _ _ _ _ e1 e2 h3 hr hc rfl hn h4 (cellOf _ _ _ hv0) h5 (XA.2 hne);show E'.ω a.block=_;rw [ωn _ hne2];exact hS.1 i q0 j' y len' cp a e1 e2 h3 h4 h5
       . obtain ⟨_,q0,e1,e2⟩:=back i q j1 y h1 h2;obtain ⟨_,q1,e3,e4⟩:=back i' q' j2 y' h1' h2';exact hS.2.1 i q0 j1 y i' q1 j2 y' len1 len2 cp cp' a a' e1 e2 h3 e3 e4 h3' hn h4 h4' h5 h5'
       . obtain ⟨_,q0,e1,e2⟩:=back i q j' y h1 h2;exact hS.2.2 i q0 j' y len' cp a e1 e2 h3 h4 h5
   . obtain ⟨gj,capj,hβj,⟨arr',c1,c2,c3,c4,c5,c6,c7,c8,c9⟩,hωj,hSj⟩:=hs.boxes j b' hj
     have hωj':E'.ω gj=none:=by rw [ωn gj (gne j b' gj _ hj hβj)];exact hωj
     refine ⟨gj,capj,βu _ _ hβj,⟨arr',c1,c2,c3,c4,c5,λi q j' c hi hj'=>?_,c7,λe=>(Env.rd_A hωj').2 ((Env.rd_A hωj).1 (c8 e)),by rw [Env.rd_τ] at c9 ⊢;exact c9⟩,hωj',λe=>(hSj e).keep rfl λb2 hb2=>⟨?_,rfl⟩⟩
     . obtain ⟨v,hv1,hv2⟩:=c6 i q j' c hi hj';exact ⟨v,hv1,hv2.keep (kr j b'.tr hjh)⟩
     . by_cases e2:b2=g1
       . subst e2;rw [hω1] at hb2;exact absurd (QA hb2).symm hjh
       . rw [ωn b2 e2];exact hb2
 . by_cases e:j=k
   . subst e;obtain ⟨rfl,rfl⟩:=KH (QA (βk'.symm.trans hz1));obtain ⟨b4,l2,_⟩:=lko j' b2 (Ne.symm hjj) h2;exact (gne j' b4 gb z2 l2 ((β' j' (Ne.symm hjj)).symm.trans hz2)).symm
   . obtain ⟨b3,l1,_⟩:=lko j b1 e h1;by_cases e':j'=k
     . subst e';obtain ⟨rfl,rfl⟩:=KH (QA (βk'.symm.trans hz2));exact gne j b3 ga z1 l1 ((β' j e).symm.trans hz1)
     . obtain ⟨b4,l2,_⟩:=lko j' b2 e' h2;exact hs.inj j j' b3 b4 ga gb z1 z2 l1 l2 ((β' j e).symm.trans hz1) ((β' j' e').symm.trans hz2) hjj
 . by_cases e:j=k
   . subst e;obtain ⟨rfl,rfl⟩:=KH (QA (βk'.symm.trans hz2));rcases hs.tow g1 h hω1 with x | x
     . exact .inl x
     . refine .inr ⟨x,?_,by omega⟩
       rw [A9] at h2;rw [<- QA h2]
   . obtain ⟨b3,l1,l2⟩:=lko j b2 e h2;rw [<- l2];exact hs.own j b3 g2 z2 l1 ((β' j e).symm.trans hz2)
 . by_cases e:j=k
   . subst e;rw [A9];rfl
   . rw [Ac _ _ e];by_cases e2:j=h
     . subst e2;rw [A9];rfl
     . rw [Ac _ _ e2];exact hs.dom j x ((β' j e).symm.trans hx)
 . by_cases e:j=k
   . subst e;rw [A9] at h2;rw [<- QA h2] at hf
     cases hf
   . obtain ⟨b3,l1,l2⟩:=lko j b2 e h2;exact hs.fzn j b3 g2 z2 l1 ((β' j e).symm.trans hz2) (l2.trans hf)
end Go.Ev

/- DERIVED. A box under another handle. -/
namespace Go.Ev
open Go
def Vc (a b k:Nat):Nat:=bif Nat.beq k a then b else k
theorem Aqc (a b:Nat):Vc a b a=b:=by simp [Vc]
theorem Qj {a b k:Nat} (h:k ≠ a):Vc a b k=k:=by
 have:Nat.beq k a=false:=by cases hb:Nat.beq k a with | false=>rfl | true=>exact absurd (QC hb) h
 simp [Vc,this]
section
variable {w:World} {E E':Env} {σ:Nat->Nat}
theorem Rc.ren2 (kI:∀ v y,Ri w E v y->Ri w E' v y) (hβ:∀ k y,E.β k=some y->E'.β (σ k)=some y) {v:Value} {c:C} (h:Rc w E v c):Rc w E' v (c.ren σ):=by
 cases h with
 | i h=>exact .i (kI _ _ h)
 | hs h off len g sz cap ad hb hle had=>exact .hs (σ h) off len g sz cap ad (hβ _ _ hb) hle had
 | hp h row col g sz cap hb=>exact .hp (σ h) row col g sz cap (hβ _ _ hb)
theorem Rv.ren2 (kI:∀ v y,Ri w E v y->Ri w E' v y) (hβ:∀ k y,E.β k=some y->E'.β (σ k)=some y) {v:Value} {x:V} (h:Rv w E v x):Rv w E' v (x.ren σ):=by
 cases h with
 | one h=>exact .one (h.ren2 kI hβ)
 | @agg vs cs h =>
  refine .agg ⟨by simp [h.1],λj v c hv hc=>?_⟩
  rw [QK,QB] at hc;obtain ⟨c0,hc0,rfl⟩:=hc;exact (h.2 j v c0 hv hc0).ren2 kI hβ
theorem Rs.ren2 (kI:∀ v y,Ri w E v y->Ri w E' v y) (hβ:∀ k y,E.β k=some y->E'.β (σ k)=some y) {v:Value} {x:S} (h:Rs w E v x):Rs w E' v (x.ren σ):=by
 cases h with
 | v h=>exact .v (h.ren2 kI hβ)
 | @tup vs xs h =>
  refine .tup ⟨by simp [h.1],λj v c hv hc=>?_⟩
  rw [QK,QB] at hc;obtain ⟨c0,hc0,rfl⟩:=hc;exact (h.2 j v c0 hv hc0).ren2 kI hβ
 | dead=>exact .dead
end
theorem C.ren_nomen {a b:Nat} {c:C} (h:c.men a=false):c.ren (Vc a b)=c:=by
 cases c with
 | i x=>rfl
 | hs k o l => have : k ≠ a := by intro e; subst e; simp [C.men] at h
               simp [C.ren,Qj this]
 | hp k r q => have : k ≠ a := by intro e; subst e; simp [C.men] at h
               simp [C.ren,Qj this]
theorem B2g {s:St} {a b:Nat} {sl:List (Nat × S)} {bx:List (Nat × Box)} (ha:a<1000) (hb:b<1000) (hne:a ≠ b) (hfree:A1 b s.boxes=none)
  (hsl:∀ t x,A1 t sl=some x->∃ y,A1 t s.slots=some y/\x=y.ren (Vc a b))
  (hbx:∀ k,A1 k bx=if k=b then A1 a s.boxes else if k=a then none else A1 k s.boxes)
  (hno:∀ k x,A1 k s.boxes=some x->∀ (i:Nat) (r:List C) (j:Nat) (c:C),x.rows[i]? = some r->r[j]? = some c->c.men a=false) :
  C3 s { s with slots:=sl,boxes:=bx }:=λΓ w E tmps hs=>by
 let E':Env:={ E with β:=λk=>if k=b then E.β a else if k=a then none else E.β k,ω:=λg=>if E.ω g=some a then some b else E.ω g }
 have eb:E.β b=none:=by
  cases h:E.β b with
  | none=>rfl
  | some x=>have:=hs.dom b x h;rw [hfree] at this;cases this
 have hβ:∀ k y,E.β k=some y->E'.β (Vc a b k)=some y:=by
  intro k y hy;by_cases e:k=a
  . subst e;rw [Aqc];show (if b=b then E.β k else _)=_;rw [QL rfl,hy]
  . rw [Qj e]
    have e2:k ≠ b:=by intro h;subst h;rw [eb] at hy;cases hy
    show (if k=b then _ else if k=a then _ else E.β k)=_
    rw [QJ e2,QJ e,hy]
 have back:∀ k y,E'.β k=some y->(k=b/\E.β a=some y) \/ (k ≠ b/\k ≠ a/\E.β k=some y):=by
  intro k y hy
  have hy:(if k=b then E.β a else if k=a then none else E.β k)=some y:=hy
  by_cases e:k=b
  . rw [QL e] at hy;exact .inl ⟨e,hy⟩
  . rw [QJ e] at hy;by_cases e2:k=a
    . rw [QL e2] at hy;cases hy
    . rw [QJ e2] at hy;exact .inr ⟨e,e2,hy⟩
 have lb:∀ k x,A1 k bx=some x->(k=b/\A1 a s.boxes=some x) \/ (k ≠ b/\k ≠ a/\A1 k s.boxes=some x):=by
  intro k x hx;rw [hbx] at hx;by_cases e:k=b
  . rw [QL e] at hx;exact .inl ⟨e,hx⟩
  . rw [QJ e] at hx;by_cases e2:k=a
    . rw [QL e2] at hx;cases hx
    . rw [QJ e2] at hx;exact .inr ⟨e,e2,hx⟩
 have kI:∀ v y,Ri w E v y->Ri w E' v y:=λv y h=>Ri.keepI (w:=w) (w':=w) (E:=E) (E':=E') (QY _) (λ_ _ _ h=>h) (λ_ _ _ _ _ h=>h) h
 have hω:∀ g h,E'.ω g=some h->∃ h',E.ω g=some h':=by
  intro g h hh
  have hh:(if E.ω g=some a then some b else E.ω g)=some h:=hh
  by_cases e:E.ω g=some a
  . exact ⟨_,e⟩
  . rw [QJ e] at hh;exact ⟨_,hh⟩
 refine ⟨E',hs.fr,⟨hs.wf.alt,hs.wf.tag,hs.wf.inj,λg h hh=>?_⟩,hs.old,hs.nt,hs.tag,hs.new,λk x hx=>?_,λk k' x x' g g' z z' hx hx' hz hz' hkk=>?_,λk x g z hx hz=>?_,λt x hx=>?_,hs.tsize,λk x hx=>?_,λk hk hk2 hm=>?_,λk x g z hx hz hf=>?_,hs.held,λg h hh=>?_⟩
 . obtain ⟨h',e⟩:=hω g h hh;exact hs.wf.om g h' e
 . -- the boxes
   have key:∀ k0,A1 k0 s.boxes=some x->(∀ y,E.β k0=some y->E'.β k=some y)->(∀ g,E.ω g=none->E'.ω g=none) ->
     (∀ g,E.ω g=some k0->E'.ω g=some k)->(∀ g,E'.ω g ≠ some k->E.ω g ≠ some k0)->F4 w E' k x:=by
    intro k0 hk0 h1 h2 h3 h4;obtain ⟨g,cap,hβ0,⟨arr,a1,a2,a3,a4,a5,a6,a7,a8,a9⟩,ho,hS⟩:=hs.boxes k0 x hk0
    have kI2:∀ v y,Ri w (E.rd k0 x.tr) v y->Ri w (E'.rd k x.tr) v y:=λv y h=>by
     cases htr:x.tr with
     | false=>rw [htr] at h;exact kI v y h
     | true =>
      rw [htr] at h
      have kb:∀ tag g,(E.rd k0 true).blk tag g->(E'.rd k true).blk tag g:=λtag g hb=>by
       unfold Env.blk at hb ⊢;by_cases e:tag=0
       . rw [QL e] at hb ⊢;exact λ⟨q1,q2⟩=>hb ⟨q1,h4 g q2⟩
       . rw [QJ e] at hb ⊢;exact hb
      exact h.keepI (QY _) (λtag g _ hb=>kb tag g hb) λtag g o v hb hc=>hc
    have hβ2:∀ k1 y,(E.rd k0 x.tr).β k1=some y->(E'.rd k x.tr).β (Vc a b k1)=some y:=λk1 y hy=>by
     rw [Env.rd_β] at hy ⊢;exact hβ k1 y hy
    refine ⟨g,cap,h1 _ hβ0,⟨arr,a1,a2,a3,a4,a5,λi r j c hi hj=>?_,a7,λe=>?_,?_⟩,h2 g ho,λhtr=>?_⟩
    . obtain ⟨v,hv,hr⟩:=a6 i r j c hi hj;have:=hr.ren2 kI2 hβ2;rw [C.ren_nomen (hno k0 x hk0 i r j c hi hj)] at this;exact ⟨v,hv,this⟩
    . exact (Env.rd_A (E:=E') (h2 g ho)).2 ((Env.rd_A (E:=E) ho).1 (a8 e))
    . rw [Env.rd_τ] at a9 ⊢;exact a9
    . obtain ⟨s1,s2,s3⟩:=hS htr;exact ⟨λi r j y len cap a hi hj hy hc hl=>h3 _ (s1 i r j y len cap a hi hj hy hc hl),s2,s3⟩
   have on:∀ g,E.ω g=none->E'.ω g=none:=λg h=>by
    show (if E.ω g=some a then some b else E.ω g)=none
    rw [h];rfl
   rcases lb k x hx with ⟨rfl,h0⟩ | ⟨h1,h2,h0⟩
   . refine key a h0 (λy hy=>by have:=hβ a y hy;rwa [Aqc] at this) on (λg h=>?_) (λg h e=>h ?_)
     . show (if E.ω g=some a then some k else E.ω g)=some k
       rw [QL h]
     . show (if E.ω g=some a then some k else E.ω g)=some k
       rw [QL e]
   . refine key k h0 (λy hy=>by have:=hβ k y hy;rwa [Qj h2] at this) on (λg h=>?_) (λg h e=>h ?_)
     . show (if E.ω g=some a then some b else E.ω g)=some k
       rw [QJ (by rw [h];intro e;exact h2 (QA e)),h]
     . show (if E.ω g=some a then some b else E.ω g)=some k
       rw [QJ (by rw [e];intro e;exact h2 (QA e)),e]
 . rcases lb k x hx with ⟨rfl,h0⟩ | ⟨h1,h2,h0⟩ <;> rcases lb k' x' hx' with ⟨rfl,h0'⟩ | ⟨h1',h2',h0'⟩ <;> rcases back _ _ hz with ⟨e,b1⟩ | ⟨b1,b2,b3⟩ <;> rcases back _ _ hz' with ⟨e',b1'⟩ | ⟨b1',b2',b3'⟩
   all_goals first
    | (exfalso;exact hkk rfl)
    | (exfalso;exact b1 rfl)
    | (exfalso;exact b1' rfl)
    | (exfalso;exact h1 e)
    | (exfalso;exact h1' e')
    | exact hs.inj _ _ _ _ _ _ _ _ h0 h0' b1 b3' (λe=>h2' e.symm)
    | exact hs.inj _ _ _ _ _ _ _ _ h0 h0' b3 b1' h2
    | exact hs.inj _ _ _ _ _ _ _ _ h0 h0' b3 b3' hkk
 . rcases lb k x hx with ⟨rfl,h0⟩ | ⟨h1,h2,h0⟩ <;> rcases back _ _ hz with ⟨e,b1⟩ | ⟨b1,b2,b3⟩
   . rcases hs.own a x g z h0 b1 with h | ⟨_,_,h⟩
     . exact .inl h
     . omega
   . exact absurd rfl b1
   . exact absurd e h1
   . exact hs.own k x g z h0 b3
 . obtain ⟨y,hy,rfl⟩:=hsl t x hx;exact (hs.slots t y hy).ren2 kI hβ
 . rcases back _ _ hx with ⟨rfl,h⟩ | ⟨h1,h2,h⟩
   . show (A1 k bx).isSome=true;rw [hbx,QL rfl];exact hs.dom a x h
   . show (A1 k bx).isSome=true;rw [hbx,QJ h1,QJ h2];exact hs.dom k x h
 . show (if k=b then E.β a else if k=a then none else E.β k)=_
   rw [QJ (by omega),QJ (by omega)]
   exact hs.stay k hk hk2 hm
 . rcases lb k x hx with ⟨rfl,h0⟩ | ⟨h1,h2,h0⟩ <;> rcases back _ _ hz with ⟨e,b1⟩ | ⟨b1,b2,b3⟩
   . exact hs.fzn a x g z h0 b1 hf
   . exact absurd rfl b1
   . exact absurd e h1
   . exact hs.fzn k x g z h0 b3 hf
 . obtain ⟨h',e⟩:=hω g h hh;exact hs.tow g h' e
theorem A5y {ks:List Nat}:∀ {bs:List (Nat × Box)} {h:Nat},h ∉ ks->A1 h (B1 bs ks)=A1 h bs:=by
 induction ks with
 | nil=>intro bs h _;rfl
 | cons k r ih =>
  intro bs h hk;simp only [QU,not_or] at hk;simp only [B1];rw [ih hk.2]
  cases hl:A1 k bs with
  | none=>rfl
  | some b=>exact Ac _ _ hk.1
theorem B2f {s:St} {h row j:Nat} {b:Box} {r:List C} {c c':C} {obs:List Prop} {ks:List Nat} {hf':Bool} (hb:A1 h s.boxes=some b) (htr:b.tr=false) (hr:b.rows[row]? = some r) (hc:r[j]? = some c)
  (hcv:Mo (A1 · s.boxes) c c'=some (obs,ks)) (ho:∀ p ∈ obs,p) (hz:Gq s.boxes ks=true) (hk:h ∉ ks)
  (hhf:hf'=true->∀ (i:Nat) (q:List C) (l:Nat) (d:C),(b.rows.set row (r.set j c'))[i]? = some q->q[l]? = some d->∃ x,d = .i x) :
  C3 s { s with boxes:=Ak h { b with hf:=hf',rows:=b.rows.set row (r.set j c') } (B1 s.boxes ks) }:=λΓ w E tmps hs=>by
 obtain ⟨E',hs',kk,_,_,hl⟩:=hs.freezes ks hz;obtain ⟨b1,hb1,r1,r2,r3,r4,r5,r6⟩:=hl h b hb
 have hfzn:b1.fz=b.fz:=by
  have:=A5y (ks:=ks) (bs:=s.boxes) hk;rw [this,hb] at hb1;rw [<- QA hb1]
 let nb:Box:={ b with hf:=hf',rows:=b.rows.set row (r.set j c') }
 have same:∀ k b',A1 k (Ak h nb (B1 s.boxes ks))=some b'->∃ b0,A1 k (B1 s.boxes ks)=some b0/\b0.fz=b'.fz/\b0.sz=b'.sz:=by
  intro k b' hb';by_cases e:k=h
  . subst e;rw [A9] at hb';obtain rfl:=QA hb';exact ⟨b1,hb1,hfzn,r2⟩
  . rw [Ac _ _ e] at hb';exact ⟨b',hb',rfl,rfl⟩
 have hcell:∃ g cap arr v,E.β h=some (g,b.sz,cap)/\w.heap[g]? = some (.cells arr b.e (0,0))/\arr[row*b.sz+j]? = some v/\Rc w E' v c':=by
  obtain ⟨g,cap,hβ,⟨arr,a1,a2,a3,a4,a5,a6,a7,a8,a9⟩,hω,hS⟩:=hs.boxes h b hb;obtain ⟨v,hv,hrc⟩:=a6 row r j c hr hc;rw [htr] at hrc
  exact ⟨g,cap,arr,v,hβ,a1,hv,Qd (s:=s) (s':={ s with boxes:=B1 s.boxes ks }) hs' kk hrc hcv ho (λk hk' b0 hb0=>by
   obtain ⟨b',q1,q2,q3,_,_,q6,q7⟩:=hl k b0 hb0
   exact ⟨b',q1,q2,q3,q6 hk',q7⟩)⟩
 obtain ⟨g0,cap0,arr0,v0,z1,z2,z3,z4⟩:=hcell;refine ⟨E',hs'.fr,hs'.wf,hs'.old,hs'.nt,hs'.tag,hs'.new,λk b' hb'=>?_,λk k' b b' g g' z z' hb hb' hz hz'=>?_,λk b g z hb hz=>?_,hs'.slots,hs'.tsize,λk x hx=>?_,hs'.stay,λk b g z hb hz hf=>?_,hs'.held,hs'.tow⟩
 . by_cases e:k=h
   . subst e;rw [A9] at hb';obtain rfl:=QA hb';obtain ⟨g,cap,hβ,⟨arr,a1,a2,a3,a4,a5,a6,a7,a8,a9⟩,hω,hS⟩:=hs'.boxes k b1 hb1;have e1:=kk.β _ _ z1;rw [hβ] at e1
     obtain ⟨rfl,e2,rfl⟩:g=g0/\b1.sz=b.sz/\cap=cap0:=by simpa using QA e1
     have htr1:b1.tr=false:=r6.trans htr;rw [htr1] at a6 a8 a9;have rl:row<b.rows.length:=(QP.1 hr).1;have jl:j<r.length:=(QP.1 hc).1
     have arreq:arr=arr0:=by rw [z2] at a1;exact (by simpa using QA a1:arr0=arr/\_).1.symm
     subst arreq
     refine ⟨g,cap,by rw [hβ,e2],⟨arr,z2,by show arr.size=cap*b.sz;rw [<- e2];exact a2,by show (b.rows.set row (r.set j c')).length<=cap;rw [JN,<- r1];exact a3,a4,λi q hi=>?_,λi q l d hi hd=>?_,hhf,?_,?_⟩,hω,λh'=>by rw [show nb.tr=b.tr from rfl,htr] at h';cases h'⟩
     . show q.length=b.sz;have hi:(b.rows.set row (r.set j c'))[i]? = some q:=hi;by_cases e3:i=row
       . subst e3;rw [ZQ rl] at hi;obtain rfl:=QA hi;rw [JN,<- e2]
         exact a5 i r (by rw [r1];exact hr)
       . rw [ZW (λh=>e3 h.symm)] at hi;rw [<- e2]
         exact a5 i q (by rw [r1];exact hi)
     . rw [show nb.tr=b.tr from rfl,htr];have hi:(b.rows.set row (r.set j c'))[i]? = some q:=hi;show ∃ v,arr[i*b.sz+l]? = some v/\Rc w E' v d;by_cases e3:i=row
       . subst e3;rw [ZQ rl] at hi;obtain rfl:=QA hi;by_cases e4:l=j
         . subst e4;rw [ZQ jl] at hd;obtain rfl:=QA hd;exact ⟨v0,z3,z4⟩
         . rw [ZW (λh=>e4 h.symm)] at hd
           obtain ⟨v,p1,p2⟩:=a6 i r l d (by rw [r1];exact hr) hd
           exact ⟨v,by rw [<- e2];exact p1,p2⟩
       . rw [ZW (λh=>e3 h.symm)] at hi
         obtain ⟨v,p1,p2⟩:=a6 i q l d (by rw [r1];exact hi) hd
         exact ⟨v,by rw [<- e2];exact p1,p2⟩
     . intro hf;rw [show nb.tr=b.tr from rfl,htr];exact a8 (hfzn.trans hf)
     . rw [show nb.tr=b.tr from rfl,htr];exact a9
   . rw [Ac _ _ e] at hb';exact hs'.boxes k b' hb'
 . obtain ⟨b0,h0,_⟩:=same k b hb;obtain ⟨b2,h2,_⟩:=same k' b' hb';exact hs'.inj k k' b0 b2 g g' z z' h0 h2 hz hz'
 . obtain ⟨b0,h0,h1,_⟩:=same k b hb;rw [<- h1];exact hs'.own k b0 g z h0 hz
 . by_cases e:k=h
   . subst e;rw [A9];rfl
   . rw [Ac _ _ e];exact hs'.dom k x hx
 . obtain ⟨b0,h0,h1,_⟩:=same k b hb;exact hs'.fzn k b0 g z h0 hz (h1.trans hf)
end Go.Ev

/- DERIVED. Regions that draw their order: a state for each set of operations that are done. -/
namespace Go.Ev
open Go
variable {P:Program} {T:Ty}
def A0l (P:Program) (K:Am) (o:Oper) (s s':St):Prop:=∃ s0,C3 s s0/\Ch P K o s0 s'
theorem B93 {K:Am} {ops:Array Oper} {S:Nat->St} {Γ:Ctx} {Q:Exit->Act->World->Prop} {ro:Option Nat} {n:Nat} {X:Act->Prop} (hK:Γ.K=K) (hX:∀ (i:Nat) (o:Oper),ops[i]? = some o->∀ b v,X b->X (b.put o.dst v))
  (hlow:∀ (i:Nat) (o:Oper),ops[i]? = some o->∀ e ∈ o.after,Region.binds .any e=true->e.on<i)
  (hstep:∀ (L i:Nat) (o:Oper),(∀ j,ops.size<=j->L.testBit j=false)->Hk ops L.testBit->ops[i]? = some o->L.testBit i=false->(∀ e ∈ o.after,Region.binds .any e=true->L.testBit e.on=true) ->
   o.guard=none/\A0l P K o (S L) (S (L ||| 1 <<< i)))
  (hQ:∀ a' w',X a'->(∃ E',A8 Γ w' E' (S (2 ^ ops.size-1)) a'.tmps)->Q .normal a' w') :
  ∀ (fuel L:Nat) (listed:Array Bool) (a:Act) (w:World) (E:Env),listed.size=ops.size->(∀ j,Bp listed j=L.testBit j)->Ij (Bp listed) (List.range ops.size)=fuel->Hk ops (Bp listed)->X a->A8 Γ w E (S L) a.tmps ->
   wpAnyIn (FR ro) n P .any ops Q fuel listed a w:=by
 intro fuel
 induction fuel with
 | zero =>
  intro L listed a w E hsz hL hf hcl hx hs
  have all:∀ j,j<ops.size->Bp listed j=true:=λj hj=>by
   cases e:Bp listed j with
   | true=>rfl
   | false=>have:=An4 e (YN.2 hj);omega
  refine ⟨List.eq_nil_iff_forall_not_mem.2 λi hi=>?_,?_⟩
  . obtain ⟨h1,h2,_⟩:=H3 hi
    rw [all i (by omega)] at h2;cases h2
  . have : L = 2 ^ ops.size - 1 := by
     refine KR λj=>?_;rw [ZL,<- hL];by_cases hj:j<ops.size
     . rw [all j hj];simp [hj]
     . have : Bp listed j = false := by
        unfold Bp;simp [Array.getD,hsz,hj]
       rw [this];simp [hj]
    subst this;exact hQ a w hx ⟨E,hs⟩
 | succ fuel ih =>
  intro L listed a w E hsz hL hf hcl hx hs
  have hex:∃ i,i<ops.size/\Bp listed i=false:=by
   rcases Classical.em (∃ i,i<ops.size/\Bp listed i=false) with h | h
   . exact h
   . exfalso
     have:Ij (Bp listed) (List.range ops.size)=0:=by
      unfold Ij;rw [List.filter_eq_nil_iff.2 λj hj=>?_];rfl
      cases e:Bp listed j with
      | true=>simp
      | false=>exact absurd ⟨j,YN.1 hj,e⟩ h
     omega
  obtain ⟨k,hkn,hLk,hless⟩:=Y6 hex;have hok':ops[k]? = some ops[k]:=Qac hkn
  have hin:k ∈ Region.ready .any ops listed:=mem_ready.2 ⟨Lp (by omega) hLk,_,hok',λe he hb=>hless e.on (hlow k _ hok' e he hb)⟩
  refine ⟨λe=>(by rw [e] at hin;cases hin),λi hi=>?_⟩
  obtain ⟨h1,h2,o,hoi,hdep⟩:=H3 hi
  have hbig:∀ j,ops.size<=j->L.testBit j=false:=λj hj=>by
   rw [<- hL];unfold Bp
   have:¬ j<ops.size:=by omega
   simp [Array.getD,hsz,this]
  have hclL:Hk ops L.testBit:=λj o hj ho e he hb=>by
   rw [<- hL] at hj ⊢;exact hcl j o hj ho e he hb
  obtain ⟨hg,s0,hw,hden⟩:=hstep L i o hbig hclL hoi (by rw [<- hL];exact h2) (λe he hb=>by rw [<- hL];exact hdep e he hb)
  obtain ⟨E0,hs0⟩:=hw _ _ _ _ hs;unfold Go.wpOpIn;rw [hoi];simp only
  have hwant:Region.wanted o (yielded ops a.tmps)=true:=by unfold Region.wanted;rw [hg]
  rw [QL hwant];refine hden Γ w E0 a ro n X hK (hX i o hoi) hx hs0 _ Q (λa' w' hx' ⟨E',hs'⟩=>?_);have hset:∀ j,Bp (listed.setIfInBounds i true) j=(Nat.beq j i || Bp listed j):=Yr h1
  refine ih (L ||| 1 <<< i) _ a' w' E' (by simpa using hsz) (λj=>?_) ?_ (Uu hset hcl hoi hdep) hx' hs'
  . rw [hset,hL,Qaj,KZ];by_cases e:j=i
    . subst e;simp
    . have hb:Nat.beq j i=false:=by cases h:Nat.beq j i with | false=>rfl | true=>exact absurd (QC h) e
      rw [hb,YO]
      have:(decide (j>=i)&&Nat.testBit 1 (j-i))=false:=by
       by_cases h:i<=j
       . have:j-i ≠ 0:=by omega
         obtain ⟨d,hd⟩:∃ d,j-i=d+1:=⟨j-i-1,by omega⟩
         rw [hd];simp [JV]
       . simp [h]
      rw [this,Qao]
  . have:=A8c hset h2 Qaq (YN.2 (show i<ops.size by omega))
    omega
theorem Ac6 (hfol:P.follows .mixedOrders=true) {K:Am} {id:Nat} {ops:Array Oper} {S:Nat->St} (hlow:∀ (i:Nat) (o:Oper),ops[i]? = some o->∀ e ∈ o.after,Region.binds .any e=true->e.on<i)
  (hstep:∀ (L i:Nat) (o:Oper),(∀ j,ops.size<=j->L.testBit j=false)->Hk ops L.testBit->ops[i]? = some o->L.testBit i=false->(∀ e ∈ o.after,Region.binds .any e=true->L.testBit e.on=true) ->
   o.guard=none/\A0l P K o (S L) (S (L ||| 1 <<< i))):Code.Den P K (.region id ops true) (S 0) .normal (S (2 ^ ops.size-1)):=by
 intro Γ w E a ro n hK _ hs;refine wpIn_region_any hfol ?_
 have hrep:∀ j,Bp (Array.replicate ops.size false) j=false:=by
  intro j;unfold Bp;by_cases e:j<ops.size <;> simp [Array.getD,e]
 refine B93 (X:=λb=>b.defers=a.defers /\ ∀ t,(Code.region id ops true).wr t=false->b.tmps.getD t undef=a.tmps.getD t undef) hK (λi o hi b v hb=>Afc hi hb) hlow hstep (λa' w' hd' he=>⟨rfl,.id hd'.1 hd'.2 he⟩)
  ops.size 0 _ a _ E (by simp) (λj=>by rw [hrep];simp) ?_ (λj o hj=>by rw [hrep] at hj;cases hj) ⟨rfl,λ_ _=>rfl⟩ (hs.still ⟨rfl,rfl,rfl,QY _,λ_ _ _=>rfl⟩)
 unfold Ij
 exact (XU List.length (Qaa.2 λj _=>by rw [hrep];rfl)).trans List.length_range
end Go.Ev
