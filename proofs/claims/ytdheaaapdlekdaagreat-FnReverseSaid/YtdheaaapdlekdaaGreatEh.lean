/- DERIVED. An evaluator of code over abstract states: trees of slices, drawn orders. -/
import Derived.Test.YtdheaaapdlekdaaGreatEb

set_option linter.all false
set_option linter.unusedVariables false
set_option linter.unusedSimpArgs false

/- DERIVED. A range over the function that slices.Backward hands back, over a slice of ints. -/
namespace Go.Ev
open Go
variable {P:Program}
def Bq9 (W:World) (sv:Value) (zs:List Int):Prop :=
 (zs=[] /\ ∃ a cap,sv = .slice a 0 cap) \/ ∃ b off cap,sv = .slice (some ⟨b,off,none⟩) zs.length cap /\ ∀ j,j<zs.length->W.cell? ⟨b,off+j,none⟩=some (.int .i64 (zs.getD j 0))
def Af0 (lb:Array Value) (zs:List Int) (W:World):Prop:=∃ g o sv,lb = #[.pointer (some ⟨g,o,none⟩)]/\W.cell? ⟨g,o,none⟩=some sv/\Bq9 W sv zs
def Atd (P:Program) (fB:Nat):Prop :=
 (∀ args w,(callFunc fB args).run P w = .ok (.enter fB args) w) /\
 ∀ (l:Nat) (lb:Array Value) (zs:List Int) (J Jx:Nat->World->Prop) (W:World),zs.length<=4611686018427387904->(∀ k W,k<=zs.length->J k W->Af0 lb zs W) ->
  (∀ k W1,k<zs.length->J k W1->YieldAt Fence.wide 7 P l #[.int .i64 ((zs.length-1-k:Nat):Int),.int .i64 (zs.getD (zs.length-1-k) 0)] W1 λe W' =>
   (e = .returned (.bool true)/\J (k+1) W') \/ (e = .returned (.bool false)/\Jx (k+1) W')) ->
  J 0 W->CallsIn Fence.wide 8 P fB (#[.func (.yield l) #[] #[]]++lb) W λe W'=>(∃ v,e = .returned v)/\(J zs.length W' \/ ∃ k,Jx k W')
theorem Af0.of {w:World} {E:Env} {v:Value} {f:Nat} {zs:List Int} (h:Ri w E v (.fn f [.ref 0 [.sl 0 false 1 (zs.map λz=>[.lit (.int .i64 z)])]])):∃ lb,v = .func (.func f) #[] lb/\Af0 lb zs w:=by
 cases h with
 | fn _ vs _ hl hrc =>
  match vs,hl with
  | [u],_ =>
   refine ⟨_,rfl,?_⟩;have h1:=hrc 0 u _ rfl rfl
   cases h1 with
   | ref _ g o cs us hg hb hcell hrc2 =>
    refine ⟨g,o,us 0,rfl,hcell 0 _ rfl,?_⟩;have h2:=hrc2 0 _ rfl;generalize us 0=sv at h2
    cases zs with
    | nil =>
     cases h2 with
     | nil=>exact .inl ⟨rfl,_,_,rfl⟩
     | sl _ _ _ _ _ _ _ hne=>exact absurd rfl hne
    | cons z r =>
     generalize hrow:(List.map (λz=>[I.lit (Value.int .i64 z)]) (z::r))=rows at h2
     cases h2 with
     | nil=>simp at hrow
     | sl _ _ g2 o2 cap rows vs2 hne hcap hg2 hb2 hlen2 hcell2 hrc3 =>
      refine .inr ⟨g2,o2,cap,by rw [<- hrow];simp,λj hj=>?_⟩
      have hr:rows[j]? = some [.lit (.int .i64 ((z::r).getD j 0))]:=by
       rw [<- hrow,QQ,QN hj];simp [QJ,QN hj]
      have e1:=hcell2 j _ 0 _ hr rfl;have e2:=hrc3 j _ 0 _ hr rfl;simp only [Nat.mul_one,KE] at e1;rw [e1];generalize vs2 j 0=u at e2
      cases e2 with
      | lit=>rfl
def Ut (wr:Nat->Bool) (p0 p1:Nat) (s:St):St:={ s with slots:=s.slots.filter λp=>!(wr p.1 || (Nat.beq p.1 p0 || Nat.beq p.1 p1)) }
theorem Lj {q:Nat->Bool}:∀ {sl:List (Nat × S)} {t:Nat} {x:S},A1 t (sl.filter λp=>!q p.1)=some x->A1 t sl=some x/\q t=false
 | [],_,_,h=>by cases h
 | (j,y)::r,t,x,h=>by
  simp only [YT] at h;simp only [A1]
  cases hj:Nat.beq j t with
  | true =>
   have e:=QD hj;subst e
   cases hq:q j with
   | true =>
    simp only [hq,ZJ,XG,if_false] at h;have:=(Lj h).2;rw [hq] at this;cases this
   | false =>
    simp only [hq,ZW,if_true,A1,hj,cond] at h ⊢;exact ⟨h,trivial⟩
  | false =>
   simp only [cond];split at h
   . simp only [A1,hj,cond] at h;exact Lj h
   . exact Lj h
theorem A6.frame {Γ:Ctx} {w:World} {E:Env} {s s2:St} {tmps tmps2:Array Value} (hs:A6 Γ w E s tmps) (hb:s2.boxes=s.boxes) (hn:s2.nt=s.nt) (hsz:tmps2.size=tmps.size)
  (h:∀ t x,A1 t s2.slots=some x->A1 t s.slots=some x/\tmps2.getD t undef=tmps.getD t undef):A6 Γ w E s2 tmps2:=by
 refine ⟨hs.fr,by rw [hn];exact hs.wf,hs.old,by rw [hn];exact hs.nt,hs.tag,hs.new,by rw [hb];exact hs.boxes,by rw [hb];exact hs.inj,by rw [hb];exact hs.own,λt x hx=>?_,by rw [hsz];exact hs.tsize,by rw [hb];exact hs.dom,hs.stay,by rw [hb];exact hs.fzn,hs.held,hs.tow⟩
 obtain ⟨h1,h2⟩:=h t x hx;rw [h2];exact hs.slots t x h1
def Tv (p0 p1 i:Nat) (z:Int) (s:St):St:={ s with slots:=B2 p1 (.v (.one (.i (.lit (.int .i64 z))))) (B2 p0 (.v (.one (.i (.lit (.int .i64 (i:Int)))))) s.slots) }
def Ahu (fB:Nat) (zs:List Int):S:=.v (.one (.i (.fn fB [.ref 0 [.sl 0 false 1 (zs.map λz=>[.lit (.int .i64 z)])]])))
def Km (s s2:St):Prop:=∀ (Γ:Ctx) (w:World) (E:Env) (tmps:Array Value),A6 Γ w E s tmps->∃ E',A6 Γ w E' s2 tmps
inductive H6 (P:Program) (K:Aj) (g p0 p1 fB:Nat) (zs:List Int) (asg body:Code):Nat->St->Exit->St->Prop
 | done {s:St} (hg:A1 g s.slots=some (Ahu fB zs)):H6 P K g p0 p1 fB zs asg body 0 s .normal s
 | round {i:Nat} {s sA s1 s2 s':St} {x:Exit} (hg:A1 g s.slots=some (Ahu fB zs)) (hA:Code.Den P K asg (Tv p0 p1 i (zs.getD i 0) s) .normal sA) (hB:Code.Den P K body sA .normal s1) (hw:Km (Ut (λt=>asg.wr t || body.wr t) p0 p1 s1) s2) (k:H6 P K g p0 p1 fB zs asg body i s2 x s'):H6 P K g p0 p1 fB zs asg body (i+1) s x s'
 | stop {i:Nat} {s sA s1:St} {x:Exit} (hg:A1 g s.slots=some (Ahu fB zs)) (hx:x = .ret \/ ∃ id,x = .exit id) (hA:Code.Den P K asg (Tv p0 p1 i (zs.getD i 0) s) .normal sA) (hB:Code.Den P K body sA x s1) :
   H6 P K g p0 p1 fB zs asg body (i+1) s x (Ut (λt=>asg.wr t || body.wr t) p0 p1 s1)
theorem H6.row {K:Aj} {g p0 p1 fB:Nat} {zs:List Int} {asg body:Code} {i:Nat} {s s':St} {x:Exit} (h:H6 P K g p0 p1 fB zs asg body i s x s') :
  ∃ (m:Nat) (S:Nat->St),S 0=s/\m<=i/\(∀ k,k<=m->A1 g (S k).slots=some (Ahu fB zs)) /\
   (∀ k,k<m->∃ sA s1,Code.Den P K asg (Tv p0 p1 (i-1-k) (zs.getD (i-1-k) 0) (S k)) .normal sA/\Code.Den P K body sA .normal s1/\Km (Ut (λt=>asg.wr t || body.wr t) p0 p1 s1) (S (k+1))) /\
   ((m=i/\x = .normal/\s'=S m) \/ (m<i/\(x = .ret \/ ∃ id,x = .exit id) /\ ∃ sA s1,Code.Den P K asg (Tv p0 p1 (i-1-m) (zs.getD (i-1-m) 0) (S m)) .normal sA/\Code.Den P K body sA x s1/\s'=Ut (λt=>asg.wr t || body.wr t) p0 p1 s1)):=by
 induction h with
 | done hg=>exact ⟨0,λ_=>_,rfl,ZF _,λ_ _=>hg,λk hk=>absurd hk (Nat.not_lt_zero _),.inl ⟨rfl,rfl,rfl⟩⟩
 | @round i s sA s1 s2 s' x hg hA hB hw _ ih =>
  obtain ⟨m,S,h0,hm,hgs,hr,hl⟩:=ih
  refine ⟨m+1,λj=>match j with | 0=>s | j+1=>S j,rfl,by omega,λk hk=>?_,λk hk=>?_,?_⟩
  . cases k with
    | zero=>exact hg
    | succ k=>exact hgs k (by omega)
  . cases k with
    | zero=>exact ⟨sA,s1,by simpa using hA,hB,by rw [<- h0] at hw;exact hw⟩
    | succ k =>
     obtain ⟨a,b,q1,q2,q3⟩:=hr k (by omega)
     exact ⟨a,b,by rw [show i+1-1-(k+1)=i-1-k by omega];exact q1,q2,q3⟩
  . rcases hl with ⟨q1,q2,q3⟩ | ⟨q1,q2,a,b,q3,q4,q5⟩
    . exact .inl ⟨by omega,q2,q3⟩
    . exact .inr ⟨by omega,q2,a,b,by rw [show i+1-1-(m+1)=i-1-m by omega];exact q3,q4,q5⟩
 | @stop i s sA s1 x hg hx hA hB =>
  exact ⟨0,λ_=>s,rfl,KJ _,λ_ _=>hg,λk hk=>absurd hk (Nat.not_lt_zero _),.inr ⟨by omega,hx,sA,s1,by simpa using hA,hB,rfl⟩⟩
def B4o:Exit->Option Code
 | .ret=>some Code.ret
 | .exit id=>some (Code.exit id)
 | _=>none
theorem Den.range {K:Aj} {g p0 p1 fB:Nat} {zs:List Int} {asg body:Code} {s s':St} {x:Exit} (hBk:Atd P fB) (hlen:zs.length<=4611686018427387904) (hrA:asg.rf=false) (hrB:body.rf=false)
  (hp0:p0<K.N) (hp1:p1<K.N) (h:H6 P K g p0 p1 fB zs asg body zs.length s x s'):Code.Den P K (.rangeFunc (.tmp g) #[p0,p1] asg body) s x s':=by
 intro Γ w E a ro n hK hr hs
 cases ro with
 | some l=>exact absurd (hr rfl) (by simp [Code.rf])
 | none =>
 refine (wpIn_wide (n:=n)).2 ((wpIn_wide (n:=9)).1 ?_);obtain ⟨m,S,rfl,hm,hgs,hrow,hl⟩:=h.row
 have readB:∀ {hold:Nat->Obj->Prop} {W:World} {E1:Env} {k:Nat},k<=m->A6 (Γ.with hold) W E1 (S k) a.tmps->∃ lb,a.tmps.getD g undef = .func (.func fB) #[] lb/\Af0 lb zs W:=λhk hst=>by
  have:=hst.slots g _ (hgs _ hk);unfold Ahu at this;generalize a.tmps.getD g undef=gv at this ⊢
  cases this with | v h=>cases h with | one h=>cases h with | i h=>exact Af0.of h
 obtain ⟨lb,hv,_⟩:=readB (hold:=Γ.hold) (KJ m) hs;obtain ⟨N,hN⟩:∃ N,N=zs.length:=⟨_,rfl⟩;refine wpIn_rangeFunc ?_;intro fn hfn;obtain ⟨rec,hrec⟩:∃ rec:LoopState->Option Code->Loop,rec=λst pe=>{ state:=st,pending:=pe,fn,tmps:=a.tmps,params:=#[p0,p1],assign:=asg,body,defers:=w.heap.size }:=⟨_,rfl⟩;obtain ⟨H1,hH1⟩:∃ H1:LoopState->Option Code->Nat->Obj->Prop,H1=λst pe b o=>Γ.hold b o \/ (b=w.heap.size+1/\o = .loop (rec st pe)) \/ (b=w.heap.size/\o = .deferred (some [])):=⟨_,rfl⟩;have holdlt:∀ b o,Γ.hold b o->b<w.heap.size:=λb o hb=>(ZU.1 (hs.held b o hb).2).1
 have turn:∀ {hold:Nat->Obj->Prop} {W:World} {E1:Env} {st:St} {tm:Array Value} {o1:Loop} (s2:LoopState) (p2:Option Code),A6 (Γ.with hold) W E1 st tm->W.heap[w.heap.size+1]? = some (.loop o1)->W.heap[w.heap.size]? = some (.deferred (some []))->(∀ b o,Γ.hold b o->hold b o) ->
   A6 (Γ.with (H1 s2 p2)) (W.putObj (w.heap.size+1) (.loop (rec s2 p2))) E1 st tm:=by
  intro hold W E1 st tm o1 s2 p2 hst hL hD hh
  refine A6.grown (Γ:=Γ.with hold) hst (H1 s2 p2) (grownBy_putObj' W _ _) (λr e=>by cases e;exact ⟨ZQ hs.fr.size (by show w.heap.size<=_;omega),_,hL,rfl⟩) (λb o hb=>?_)
  rw [hH1] at hb;rcases hb with hb | ⟨rfl,rfl⟩ | ⟨rfl,rfl⟩
  . have h1:=hst.held b o (hh b o hb)
    exact ⟨h1.1,(World.putObj_heap_other (by have:=holdlt b o hb;omega)).trans h1.2⟩
  . exact ⟨rfl,World.putObj_heap_same (ZU.1 hL).1⟩
  . exact ⟨rfl,(World.putObj_heap_other (by omega)).trans hD⟩
 have heldL:∀ {hold:Nat->Obj->Prop} {W:World} {E1:Env} {st:St} {tm:Array Value} {s2:LoopState} {p2:Option Code},A6 (Γ.with hold) W E1 st tm->(∀ b o,H1 s2 p2 b o->hold b o)->W.heap[w.heap.size+1]? = some (.loop (rec s2 p2))/\W.heap[w.heap.size]? = some (.deferred (some [])):=by
  intro hold W E1 st tm s2 p2 hst hh
  exact ⟨(hst.held _ _ (hh _ _ (by rw [hH1];exact .inr (.inl ⟨rfl,rfl⟩)))).2,(hst.held _ _ (hh _ _ (by rw [hH1];exact .inr (.inr ⟨rfl,rfl⟩)))).2⟩
 have hH1h:∀ s2 p2 b o,Γ.hold b o->H1 s2 p2 b o:=λs2 p2 b o hb=>by rw [hH1];exact .inl hb
 obtain ⟨W1,hW1⟩:∃ W1,(w.alloc (.deferred (some []))).alloc (.loop (rec .ready none))=W1:=⟨_,rfl⟩
 have hst1:A6 (Γ.with (H1 .ready none)) W1 E (S 0) a.tmps:=by
  rw [<- hW1]
  have g1:w.grownBy ((w.alloc (.deferred (some []))).alloc (.loop (rec .ready none))) none:=by
   have a1:=World.grownBy_alloc w (.deferred (some [])) none;have a2:=World.grownBy_alloc (w.alloc (.deferred (some []))) (.loop (rec .ready none)) none
   exact ⟨a2.os.trans a1.os,a2.tape.trans a1.tape,a2.output.trans a1.output,ZQ a1.size a2.size,λk hk _=>(a2.block k (XB hk a1.size) (by simp)).trans (a1.block k hk (by simp))⟩
  refine A6.grown hs (H1 .ready none) g1 (λr e=>by cases e) (λb o hb=>?_)
  rw [hH1] at hb;rcases hb with hb | ⟨rfl,rfl⟩ | ⟨rfl,rfl⟩
  . have h1:=hs.held b o hb
    exact ⟨h1.1,(g1.block b (holdlt b o hb) (by simp)).trans h1.2⟩
  . have:=World.alloc_heap_new (w.alloc (.deferred (some []))) (.loop (rec .ready none));rw [World.size_alloc] at this;exact ⟨rfl,this⟩
  . exact ⟨rfl,((World.grownBy_alloc (w.alloc (.deferred (some []))) (.loop (rec .ready none)) none).block _ (by simp) (by simp)).trans (World.alloc_heap_new w _)⟩
 have callv:({ a with defers:=[({ target:=.collected w.heap.size,args:=#[] }:Deferred)]++a.defers }:Act).defers={ target:=.collected w.heap.size,args:=#[] }::a.defers:=rfl
 refine ⟨w.heap.size+1,[{ target:=.collected w.heap.size,args:=#[] }],W1,{ target:=.fn (.func fB) lb,args:=#[.func (.yield (w.heap.size+1)) #[] #[]] },W1,fB,
  #[.func (.yield (w.heap.size+1)) #[] #[]]++lb,W1,?_,?_,λ_ _=>trivial,?_,λ_=>by omega,?_⟩
 . rw [<- hW1,hrec];exact run_enterLoop_outer _ _ _ _ _
 . simp only [resolve,Act.eval,hv];simp [go_sem]
 . simp [invoke,go_sem,hBk.1]
 have back:∀ {hold:Nat->Obj->Prop} {W:World} {E1:Env} {s1:St} {a2:Act},A6 (Γ.with hold) W E1 s1 a2.tmps->(∀ t,(asg.wr t || body.wr t)=false->t ≠ p0->t ≠ p1->a2.tmps.getD t undef=a.tmps.getD t undef) ->
   A6 (Γ.with hold) W E1 (Ut (λt=>asg.wr t || body.wr t) p0 p1 s1) a.tmps:=by
  intro hold W E1 s1 a2 hst hsame
  refine hst.frame rfl rfl (by rw [hs.tsize,hst.tsize];rfl) (λt y hy=>?_)
  have hy:A1 t (s1.slots.filter λp=>!((λt=>(asg.wr t || body.wr t) || (Nat.beq t p0 || Nat.beq t p1)) p.1))=some y:=hy
  obtain ⟨q1,q2⟩:=Lj (q:=λt=>asg.wr t || body.wr t || (Nat.beq t p0 || Nat.beq t p1)) hy
  obtain ⟨q3,q4⟩:=Dw q2;obtain ⟨q5,q6⟩:=Dw q4
  exact ⟨q1,(hsame t q3 (λe=>by subst e;simp at q5) (λe=>by subst e;simp at q6)).symm⟩
 refine (hBk.2 (w.heap.size+1) lb zs
  (λk W=>k<=m /\ ∃ E1,A6 (Γ.with (H1 .ready none)) W E1 (S k) a.tmps)
  (λ_ W=>m<zs.length /\ ∃ c,((x = .ret/\c = .ret) \/ ∃ id,x = .exit id/\c = .exit id) /\ ∃ E1,A6 (Γ.with (H1 .done (some c))) W E1 s' a.tmps)
  W1 hlen ?_ ?_ ⟨KJ _,E,hst1⟩).mono ?_
 . rintro k W _ ⟨hk,E1,hst⟩
   obtain ⟨lb',e1,e2⟩:=readB hk hst;rw [hv] at e1
   cases e1;exact e2
 . -- ONE ROUND
   rintro k W hkN ⟨hk,E1,hst⟩
   obtain ⟨hL,hD⟩:=heldL hst (λ_ _ h=>h)
   have hy:=run_yield (P:=P) (args:=#[.int .i64 ((zs.length-1-k:Nat):Int),.int .i64 (zs.getD (zs.length-1-k) 0)]) hL (by rw [hrec];rfl)
   rw [hrec] at hy;refine ⟨fn,_,asg,body,hy,roundIn_of_wpIn hfn ?_⟩;clear hy
   have hfold:((#[p0,p1]:Array Tmp).zip #[Value.int .i64 ((zs.length-1-k:Nat):Int),.int .i64 (zs.getD (zs.length-1-k) 0)]).foldl (λt (x:Tmp × Value)=>t.setIfInBounds x.1 x.2) a.tmps=(a.tmps.setIfInBounds p0 (.int .i64 ((zs.length-1-k:Nat):Int))).setIfInBounds p1 (.int .i64 (zs.getD (zs.length-1-k) 0)):=by
    simp
   have hstP:A6 (Γ.with (H1 .ready none)) W E1 (Tv p0 p1 (zs.length-1-k) (zs.getD (zs.length-1-k) 0) (S k)) ((a.tmps.setIfInBounds p0 (.int .i64 ((zs.length-1-k:Nat):Int))).setIfInBounds p1 (.int .i64 (zs.getD (zs.length-1-k) 0))) :=
    (hst.put (by rw [show (Γ.with (H1 .ready none)).K=K from hK];exact hp0) (.v (.one (.i (.lit _ rfl))))).put (by rw [show (Γ.with (H1 .ready none)).K=K from hK];exact hp1) (.v (.one (.i (.lit _ rfl))))
   have tm0:∀ t,t ≠ p0->t ≠ p1->((a.tmps.setIfInBounds p0 (.int .i64 ((zs.length-1-k:Nat):Int))).setIfInBounds p1 (.int .i64 (zs.getD (zs.length-1-k) 0))).getD t undef=a.tmps.getD t undef:=λt h1 h2=>by
    simp [KH,Ne.symm h1,Ne.symm h2]
   show asg.wpIn (Fence.wide.inRound (w.heap.size+1)) 7 P _ { tmps:=(#[p0,p1].zip #[Value.int .i64 ((zs.length-1-k:Nat):Int),.int .i64 (zs.getD (zs.length-1-k) 0)]).foldl (λt (x:Tmp × Value)=>t.setIfInBounds x.1 x.2) a.tmps,defers:=[] } W;rw [hfold]
   have round:∀ {sA s1:St} {y:Exit} (ye:y = .normal \/ y = .ret \/ ∃ id,y = .exit id) (hA:Code.Den P K asg (Tv p0 p1 (zs.length-1-k) (zs.getD (zs.length-1-k) 0) (S k)) .normal sA) (hB:Code.Den P K body sA y s1) (R:Ending->World->Prop)
     (_:∀ c W4 E4,c=B4o y->A6 (Γ.with (H1 (if c.isNone then .ready else .done) c)) W4 E4 (Ut (λt=>asg.wr t || body.wr t) p0 p1 s1) a.tmps->R (.returned (.bool c.isNone)) W4),
     asg.wpIn (FR (some (w.heap.size+1))) 7 P (Exit.then (λa₁ w₁=>∃ w₂,(Instr.beginRound (w.heap.size+1)).run P w₁ = .ok () w₂/\body.wpIn (FR (some (w.heap.size+1))) 7 P (roundPost P (w.heap.size+1) R) a₁ w₂) (λ_ _ _=>False))
      { tmps:=(a.tmps.setIfInBounds p0 (.int .i64 ((zs.length-1-k:Nat):Int))).setIfInBounds p1 (.int .i64 (zs.getD (zs.length-1-k) 0)),defers:=[] } W:=by
    intro sA s1 y ye hA hB R hR;refine wpIn_mono (hA (Γ.with (H1 .ready none)) W E1 _ (some (w.heap.size+1)) 7 hK (λ_=>hrA) hstP) ?_
    rintro e a1 Wa ⟨rfl,⟨h1,q1,_,E2,hst2⟩,q3⟩
    obtain ⟨hL2,hD2⟩:=heldL hst2 q1
    refine ⟨_,run_beginRound hL2 (by rw [hrec]),?_⟩
    have hst3:=turn .busy none hst2 hL2 hD2 (λb o h=>q1 b o (hH1h _ _ b o h));have hbw:=hB (Γ.with (H1 .busy none)) _ E2 a1 (some (w.heap.size+1)) 7 hK (λ_=>hrB) hst3;rw [hrec] at hbw ⊢;refine wpIn_mono hbw ?_
    rintro e a2 Wb ⟨rfl,⟨h2,r1,_,E3,hst4⟩,r3⟩
    obtain ⟨hL4,hD4⟩:=heldL hst4 r1
    have hst5:=back (a2:=a2) hst4 (λt ht n0 n1=>by
     obtain ⟨t1,t2⟩:=Dw ht
     exact ((r3 t t2).trans (q3 t t1)).trans (tm0 t n0 n1))
    have fin:∀ c:Option Code,c=B4o e->∃ v W4,(Instr.endRound (w.heap.size+1) c).run P Wb = .ok v W4/\R (.returned v) W4:=λc hc=>by
     refine ⟨_,_,run_endRound c hL4,hR c _ E3 hc ?_⟩
     have:=turn (if c.isNone then .ready else .done) c hst5 hL4 hD4 (λb o h=>r1 b o (hH1h _ _ b o h))
     rw [hrec] at this ⊢;exact this
    rcases ye with rfl | rfl | ⟨id,rfl⟩
    . exact fin none rfl
    . exact fin (some .ret) rfl
    . exact fin (some (.exit id)) rfl
   by_cases hkm:k<m
   . obtain ⟨sA,s1,hA,hB,hS⟩:=hrow k hkm;refine round (.inl rfl) hA hB _ (λc W4 E4 hc hst4=>?_);subst hc;obtain ⟨E5,hst5⟩:=hS _ _ _ _ hst4
     exact .inl ⟨rfl,by omega,E5,hst5⟩
   . obtain rfl:k=m:=by omega
     rcases hl with ⟨q1,_,_⟩ | ⟨q1,q2,sA,s1,hA,hB,rfl⟩
     . omega
     . rcases q2 with rfl | ⟨id,rfl⟩
       . refine round (.inr (.inl rfl)) hA hB _ (λc W4 E4 hc hst4=>?_);subst hc;exact .inr ⟨rfl,q1,.ret,.inl ⟨rfl,rfl⟩,E4,hst4⟩
       . refine round (.inr (.inr ⟨id,rfl⟩)) hA hB _ (λc W4 E4 hc hst4=>?_);subst hc;exact .inr ⟨rfl,q1,.exit id,.inr ⟨id,rfl,rfl⟩,E4,hst4⟩
 . -- BEHIND THE ITERATOR
   have post:∀ {st:LoopState} {pe:Option Code} {W:World} {E1:Env},A6 (Γ.with (H1 st pe)) W E1 s' a.tmps->Md (Code.rangeFunc (.tmp g) #[p0,p1] asg body).wr Γ a s' { a with defers:={ target:=.collected w.heap.size,args:=#[] }::a.defers } (W.putObj (w.heap.size+1) (.loop (rec .exhausted pe))):=by
    intro st pe W E1 hst;obtain ⟨hL,hD⟩:=heldL hst (λ_ _ h=>h);have hst2:=turn .exhausted pe hst hL hD (hH1h _ _);refine ⟨⟨H1 .exhausted pe,hH1h _ _,λhd=>⟨JB.2 ⟨λhm=>?_,hd.1⟩,λd hd'=>?_⟩,E1,hst2⟩,λ_ _=>rfl⟩
    . obtain ⟨D,e1,_,e3⟩:=hd.2 _ hm
      have e4:D=w.heap.size:=by
       simp only [Deferred.mk.injEq,Target.collected.injEq,and_true] at e1;exact e1.symm
      have:=holdlt _ _ e3;omega
    . rcases QX.1 hd' with rfl | hd'
      . exact ⟨w.heap.size,rfl,hs.fr.size,by show H1 _ _ _ _;rw [hH1];exact .inr (.inr ⟨rfl,rfl⟩)⟩
      . obtain ⟨D,e1,e2,e3⟩:=hd.2 d hd';exact ⟨D,e1,e2,hH1h _ _ _ _ e3⟩
   rintro e W2 ⟨⟨v,rfl⟩,(⟨hNm,E1,hst⟩ | ⟨_,hmN,c,hc,E1,hst⟩)⟩
   . obtain ⟨hL,hD⟩:=heldL hst (λ_ _ h=>h);rcases hl with ⟨q1,rfl,rfl⟩ | ⟨q1,_⟩
     . refine ⟨none,_,by have:=run_endLoop (P:=P) hL (by rw [hrec];simp);rw [hrec] at this;exact this,?_⟩
       have:=post (st:=.ready) (pe:=none) (by rw [q1];exact hst)
       rw [hrec] at this;exact ⟨rfl,this⟩
     . omega
   . obtain ⟨hL,hD⟩:=heldL hst (λ_ _ h=>h)
     refine ⟨some c,_,by have:=run_endLoop (P:=P) hL (by rw [hrec];simp);rw [hrec] at this;exact this,?_⟩
     have:=post hst;rw [hrec] at this;rcases hc with ⟨rfl,rfl⟩ | ⟨id,rfl,rfl⟩
     . exact wpIn_ret ⟨rfl,this⟩
     . exact wpIn_exit ⟨rfl,this⟩
end Go.Ev

/- DERIVED. Regions that draw their order: a state for each set of operations that are done. -/
namespace Go.Ev
open Go
variable {P:Program} {T:Ty}
def A6n (P:Program) (K:Aj) (o:Oper) (s s':St):Prop:=∃ s0,Km s s0/\Fs P K o s0 s'
theorem Bhq {K:Aj} {ops:Array Oper} {S:Nat->St} {Γ:Ctx} {Q:Exit->Act->World->Prop} {ro:Option Nat} {n:Nat} {X:Act->Prop} (hK:Γ.K=K) (hX:∀ (i:Nat) (o:Oper),ops[i]? = some o->∀ b v,X b->X (b.put o.dst v))
  (hlow:∀ (i:Nat) (o:Oper),ops[i]? = some o->∀ e ∈ o.after,Region.binds .any e=true->e.on<i)
  (hstep:∀ (L i:Nat) (o:Oper),(∀ j,ops.size<=j->L.testBit j=false)->Jz ops L.testBit->ops[i]? = some o->L.testBit i=false->(∀ e ∈ o.after,Region.binds .any e=true->L.testBit e.on=true) ->
   o.guard=none/\A6n P K o (S L) (S (L ||| 1 <<< i)))
  (hQ:∀ a' w',X a'->(∃ E',A6 Γ w' E' (S (2 ^ ops.size-1)) a'.tmps)->Q .normal a' w') :
  ∀ (fuel L:Nat) (listed:Array Bool) (a:Act) (w:World) (E:Env),listed.size=ops.size->(∀ j,Cf listed j=L.testBit j)->L8 (Cf listed) (List.range ops.size)=fuel->Jz ops (Cf listed)->X a->A6 Γ w E (S L) a.tmps ->
   wpAnyIn (FR ro) n P .any ops Q fuel listed a w:=by
 intro fuel
 induction fuel with
 | zero =>
  intro L listed a w E hsz hL hf hcl hx hs
  have all:∀ j,j<ops.size->Cf listed j=true:=λj hj=>by
   cases e:Cf listed j with
   | true=>rfl
   | false=>have:=Aus e (XP.2 hj);omega
  refine ⟨List.eq_nil_iff_forall_not_mem.2 λi hi=>?_,?_⟩
  . obtain ⟨h1,h2,_⟩:=Jj hi
    rw [all i (by omega)] at h2;cases h2
  . have : L = 2 ^ ops.size - 1 := by
     refine KR λj=>?_;rw [ZS,<- hL];by_cases hj:j<ops.size
     . rw [all j hj];simp [hj]
     . have : Cf listed j = false := by
        unfold Cf;simp [Array.getD,hsz,hj]
       rw [this];simp [hj]
    subst this;exact hQ a w hx ⟨E,hs⟩
 | succ fuel ih =>
  intro L listed a w E hsz hL hf hcl hx hs
  have hex:∃ i,i<ops.size/\Cf listed i=false:=by
   rcases Classical.em (∃ i,i<ops.size/\Cf listed i=false) with h | h
   . exact h
   . exfalso
     have:L8 (Cf listed) (List.range ops.size)=0:=by
      unfold L8;rw [List.filter_eq_nil_iff.2 λj hj=>?_];rfl
      cases e:Cf listed j with
      | true=>simp
      | false=>exact absurd ⟨j,XP.1 hj,e⟩ h
     omega
  obtain ⟨k,hkn,hLk,hless⟩:=A3u hex;have hok':ops[k]? = some ops[k]:=Qao hkn
  have hin:k ∈ Region.ready .any ops listed:=mem_ready.2 ⟨P6 (by omega) hLk,_,hok',λe he hb=>hless e.on (hlow k _ hok' e he hb)⟩
  refine ⟨λe=>(by rw [e] at hin;cases hin),λi hi=>?_⟩
  obtain ⟨h1,h2,o,hoi,hdep⟩:=Jj hi
  have hbig:∀ j,ops.size<=j->L.testBit j=false:=λj hj=>by
   rw [<- hL];unfold Cf
   have:¬ j<ops.size:=by omega
   simp [Array.getD,hsz,this]
  have hclL:Jz ops L.testBit:=λj o hj ho e he hb=>by
   rw [<- hL] at hj ⊢;exact hcl j o hj ho e he hb
  obtain ⟨hg,s0,hw,hden⟩:=hstep L i o hbig hclL hoi (by rw [<- hL];exact h2) (λe he hb=>by rw [<- hL];exact hdep e he hb)
  obtain ⟨E0,hs0⟩:=hw _ _ _ _ hs;unfold Go.wpOpIn;rw [hoi];simp only
  have hwant:Region.wanted o (yielded ops a.tmps)=true:=by unfold Region.wanted;rw [hg]
  rw [QC hwant];refine hden Γ w E0 a ro n X hK (hX i o hoi) hx hs0 _ Q (λa' w' hx' ⟨E',hs'⟩=>?_);have hset:∀ j,Cf (listed.setIfInBounds i true) j=(Nat.beq j i || Cf listed j):=A4v h1
  refine ih (L ||| 1 <<< i) _ a' w' E' (by simpa using hsz) (λj=>?_) ?_ (Zt hset hcl hoi hdep) hx' hs'
  . rw [hset,hL,Qba,JD];by_cases e:j=i
    . subst e;simp
    . have hb:Nat.beq j i=false:=by cases h:Nat.beq j i with | false=>rfl | true=>exact absurd (QD h) e
      rw [hb,YJ]
      have:(decide (j>=i)&&Nat.testBit 1 (j-i))=false:=by
       by_cases h:i<=j
       . have:j-i ≠ 0:=by omega
         obtain ⟨d,hd⟩:∃ d,j-i=d+1:=⟨j-i-1,by omega⟩
         rw [hd];simp [Qag]
       . simp [h]
      rw [this,Qbz]
  . have:=Afa hset h2 Qbf (XP.2 (show i<ops.size by omega))
    omega
theorem Aiu (hfol:P.follows .mixedOrders=true) {K:Aj} {id:Nat} {ops:Array Oper} {S:Nat->St} (hlow:∀ (i:Nat) (o:Oper),ops[i]? = some o->∀ e ∈ o.after,Region.binds .any e=true->e.on<i)
  (hstep:∀ (L i:Nat) (o:Oper),(∀ j,ops.size<=j->L.testBit j=false)->Jz ops L.testBit->ops[i]? = some o->L.testBit i=false->(∀ e ∈ o.after,Region.binds .any e=true->L.testBit e.on=true) ->
   o.guard=none/\A6n P K o (S L) (S (L ||| 1 <<< i))):Code.Den P K (.region id ops true) (S 0) .normal (S (2 ^ ops.size-1)):=by
 intro Γ w E a ro n hK _ hs;refine wpIn_region_any hfol ?_
 have hrep:∀ j,Cf (Array.replicate ops.size false) j=false:=by
  intro j;unfold Cf;by_cases e:j<ops.size <;> simp [Array.getD,e]
 refine Bhq (X:=λb=>b.defers=a.defers /\ ∀ t,(Code.region id ops true).wr t=false->b.tmps.getD t undef=a.tmps.getD t undef) hK (λi o hi b v hb=>Amr hi hb) hlow hstep (λa' w' hd' he=>⟨rfl,.id hd'.1 hd'.2 he⟩)
  ops.size 0 _ a _ E (by simp) (λj=>by rw [hrep];simp) ?_ (λj o hj=>by rw [hrep] at hj;cases hj) ⟨rfl,λ_ _=>rfl⟩ (hs.still ⟨rfl,rfl,rfl,ZF _,λ_ _ _=>rfl⟩)
 unfold L8
 exact (ZY List.length (Qak.2 λj _=>by rw [hrep];rfl)).trans JI
end Go.Ev
