/- DERIVED. An evaluator of code over abstract states: trees of slices, drawn orders. -/
import Derived.Test.YtaebdcandpfmgaaGreatEb

set_option linter.all false
set_option linter.unusedVariables false
set_option linter.unusedSimpArgs false

/- DERIVED. A range over the function that slices.Backward hands back, over a slice of ints. -/
namespace Go.Ev
open Go
variable {P:Program}
def B7k (W:World) (sv:Value) (zs:List Int):Prop :=
 (zs = [] /\ ∃ a cap,sv = .slice a 0 cap) \/ ∃ b off cap,sv = .slice (some ⟨b,off,none⟩) zs.length cap /\ ∀ j,j < zs.length->W.cell? ⟨b,off + j,none⟩ = some (.int .i64 (zs.getD j 0))
def A46 (lb:Array Value) (zs:List Int) (W:World):Prop:=∃ g o sv,lb = #[.pointer (some ⟨g,o,none⟩)] /\ W.cell? ⟨g,o,none⟩ = some sv /\ B7k W sv zs
def Afi (P:Program) (fB:Nat):Prop :=
 (∀ args w,(callFunc fB args).run P w = .ok (.enter fB args) w) /\
 ∀ (l:Nat) (lb:Array Value) (zs:List Int) (J Jx:Nat->World->Prop) (W:World),zs.length <= 4611686018427387904->(∀ k W,k <= zs.length->J k W->A46 lb zs W) ->
  (∀ k W1,k < zs.length->J k W1->YieldAt Fence.wide 7 P l #[.int .i64 ((zs.length - 1 - k:Nat):Int),.int .i64 (zs.getD (zs.length - 1 - k) 0)] W1 fun e W' =>
   (e = .returned (.bool true) /\ J (k + 1) W') \/ (e = .returned (.bool false) /\ Jx (k + 1) W')) ->
  J 0 W->CallsIn Fence.wide 8 P fB (#[.func (.yield l) #[] #[]] ++ lb) W fun e W'=>(∃ v,e = .returned v) /\ (J zs.length W' \/ ∃ k,Jx k W')
theorem A46.of {w:World} {E:Env} {v:Value} {f:Nat} {zs:List Int} (h:Ri w E v (.fn f [.ref 0 [.sl 0 false 1 (zs.map fun z=>[.lit (.int .i64 z)])]])):∃ lb,v = .func (.func f) #[] lb /\ A46 lb zs w:=by
 cases h with
 | fn _ vs _ hl hrc =>
  match vs,hl with
  | [u],_ =>
   refine ⟨_,rfl,?_⟩;have h1:=hrc 0 u _ rfl rfl
   cases h1 with
   | ref _ g o cs us hg hb hcell hrc2 =>
    refine ⟨g,o,us 0,rfl,hcell 0 _ rfl,?_⟩;have h2:=hrc2 0 _ rfl;generalize us 0 = sv at h2
    cases zs with
    | nil =>
     cases h2 with
     | nil=>exact .inl ⟨rfl,_,_,rfl⟩
     | sl _ _ _ _ _ _ _ hne=>exact absurd rfl hne
    | cons z r =>
     generalize hrow:(List.map (fun z=>[I.lit (Value.int .i64 z)]) (z :: r)) = rows at h2
     cases h2 with
     | nil=>simp at hrow
     | sl _ _ g2 o2 cap rows vs2 hne hcap hg2 hb2 hlen2 hcell2 hrc3 =>
      refine .inr ⟨g2,o2,cap,by rw [<- hrow];simp,fun j hj=>?_⟩
      have hr:rows[j]? = some [.lit (.int .i64 ((z :: r).getD j 0))]:=by
       rw [<- hrow,QJ,QN hj];simp [QH,QN hj]
      have e1:=hcell2 j _ 0 _ hr rfl;have e2:=hrc3 j _ 0 _ hr rfl;simp only [Nat.mul_one,KC] at e1;rw [e1];generalize vs2 j 0 = u at e2
      cases e2 with
      | lit=>rfl
def Nh (wr:Nat->Bool) (p0 p1:Nat) (s:St):St:={ s with slots:=s.slots.filter fun p=>!(wr p.1 || (Nat.beq p.1 p0 || Nat.beq p.1 p1)) }
theorem Hj {q:Nat->Bool}:∀ {sl:List (Nat × S)} {t:Nat} {x:S},A0 t (sl.filter fun p=>!q p.1) = some x->A0 t sl = some x /\ q t = false
 | [],_,_,h=>by cases h
 | (j,y) :: r,t,x,h=>by
  simp only [YR] at h;simp only [A0]
  cases hj:Nat.beq j t with
  | true =>
   have e:=QC hj;subst e
   cases hq:q j with
   | true =>
    simp only [hq,ZX,YB,if_false] at h;have:=(Hj h).2;rw [hq] at this;cases this
   | false =>
    simp only [hq,XI,if_true,A0,hj,cond] at h ⊢;exact ⟨h,trivial⟩
  | false =>
   simp only [cond];split at h
   . simp only [A0,hj,cond] at h;exact Hj h
   . exact Hj h
theorem A6.frame {Γ:Ctx} {w:World} {E:Env} {s s2:St} {tmps tmps2:Array Value} (hs:A6 Γ w E s tmps) (hb:s2.boxes = s.boxes) (hn:s2.nt = s.nt) (hsz:tmps2.size = tmps.size)
  (h:∀ t x,A0 t s2.slots = some x->A0 t s.slots = some x /\ tmps2.getD t undef = tmps.getD t undef):A6 Γ w E s2 tmps2:=by
 refine ⟨hs.fr,by rw [hn];exact hs.wf,hs.old,by rw [hn];exact hs.nt,hs.tag,hs.new,by rw [hb];exact hs.boxes,by rw [hb];exact hs.inj,by rw [hb];exact hs.own,fun t x hx=>?_,by rw [hsz];exact hs.tsize,by rw [hb];exact hs.dom,hs.stay,by rw [hb];exact hs.fzn,hs.held,hs.tow⟩
 obtain ⟨h1,h2⟩:=h t x hx;rw [h2];exact hs.slots t x h1
def Mm (p0 p1 i:Nat) (z:Int) (s:St):St:={ s with slots:=Ag p1 (.v (.one (.i (.lit (.int .i64 z))))) (Ag p0 (.v (.one (.i (.lit (.int .i64 (i:Int)))))) s.slots) }
def A6c (fB:Nat) (zs:List Int):S:=.v (.one (.i (.fn fB [.ref 0 [.sl 0 false 1 (zs.map fun z=>[.lit (.int .i64 z)])]])))
def Bs (s s2:St):Prop:=∀ (Γ:Ctx) (w:World) (E:Env) (tmps:Array Value),A6 Γ w E s tmps->∃ E',A6 Γ w E' s2 tmps
inductive En (P:Program) (K:Ai) (g p0 p1 fB:Nat) (zs:List Int) (asg body:Code):Nat->St->Exit->St->Prop
 | done {s:St} (hg:A0 g s.slots = some (A6c fB zs)):En P K g p0 p1 fB zs asg body 0 s .normal s
 | round {i:Nat} {s sA s1 s2 s':St} {x:Exit} (hg:A0 g s.slots = some (A6c fB zs)) (hA:Code.Den P K asg (Mm p0 p1 i (zs.getD i 0) s) .normal sA) (hB:Code.Den P K body sA .normal s1) (hw:Bs (Nh (fun t=>asg.wr t || body.wr t) p0 p1 s1) s2) (k:En P K g p0 p1 fB zs asg body i s2 x s'):En P K g p0 p1 fB zs asg body (i + 1) s x s'
 | stop {i:Nat} {s sA s1:St} {x:Exit} (hg:A0 g s.slots = some (A6c fB zs)) (hx:x = .ret \/ ∃ id,x = .exit id) (hA:Code.Den P K asg (Mm p0 p1 i (zs.getD i 0) s) .normal sA) (hB:Code.Den P K body sA x s1) :
   En P K g p0 p1 fB zs asg body (i + 1) s x (Nh (fun t=>asg.wr t || body.wr t) p0 p1 s1)
theorem En.row {K:Ai} {g p0 p1 fB:Nat} {zs:List Int} {asg body:Code} {i:Nat} {s s':St} {x:Exit} (h:En P K g p0 p1 fB zs asg body i s x s') :
  ∃ (m:Nat) (S:Nat->St),S 0 = s /\ m <= i /\ (∀ k,k <= m->A0 g (S k).slots = some (A6c fB zs)) /\
   (∀ k,k < m->∃ sA s1,Code.Den P K asg (Mm p0 p1 (i - 1 - k) (zs.getD (i - 1 - k) 0) (S k)) .normal sA /\ Code.Den P K body sA .normal s1 /\ Bs (Nh (fun t=>asg.wr t || body.wr t) p0 p1 s1) (S (k + 1))) /\
   ((m = i /\ x = .normal /\ s' = S m) \/ (m < i /\ (x = .ret \/ ∃ id,x = .exit id) /\ ∃ sA s1,Code.Den P K asg (Mm p0 p1 (i - 1 - m) (zs.getD (i - 1 - m) 0) (S m)) .normal sA /\ Code.Den P K body sA x s1 /\ s' = Nh (fun t=>asg.wr t || body.wr t) p0 p1 s1)):=by
 induction h with
 | done hg=>exact ⟨0,fun _=>_,rfl,QY _,fun _ _=>hg,fun k hk=>absurd hk (Nat.not_lt_zero _),.inl ⟨rfl,rfl,rfl⟩⟩
 | @round i s sA s1 s2 s' x hg hA hB hw _ ih =>
  obtain ⟨m,S,h0,hm,hgs,hr,hl⟩:=ih
  refine ⟨m + 1,fun j=>match j with | 0=>s | j + 1=>S j,rfl,by omega,fun k hk=>?_,fun k hk=>?_,?_⟩
  . cases k with
    | zero=>exact hg
    | succ k=>exact hgs k (by omega)
  . cases k with
    | zero=>exact ⟨sA,s1,by simpa using hA,hB,by rw [<- h0] at hw;exact hw⟩
    | succ k =>
     obtain ⟨a,b,q1,q2,q3⟩:=hr k (by omega)
     exact ⟨a,b,by rw [show i + 1 - 1 - (k + 1) = i - 1 - k by omega];exact q1,q2,q3⟩
  . rcases hl with ⟨q1,q2,q3⟩ | ⟨q1,q2,a,b,q3,q4,q5⟩
    . exact .inl ⟨by omega,q2,q3⟩
    . exact .inr ⟨by omega,q2,a,b,by rw [show i + 1 - 1 - (m + 1) = i - 1 - m by omega];exact q3,q4,q5⟩
 | @stop i s sA s1 x hg hx hA hB =>
  exact ⟨0,fun _=>s,rfl,KD _,fun _ _=>hg,fun k hk=>absurd hk (Nat.not_lt_zero _),.inr ⟨by omega,hx,sA,s1,by simpa using hA,hB,rfl⟩⟩
def Ao9:Exit->Option Code
 | .ret=>some Code.ret
 | .exit id=>some (Code.exit id)
 | _=>none
theorem Den.range {K:Ai} {g p0 p1 fB:Nat} {zs:List Int} {asg body:Code} {s s':St} {x:Exit} (hBk:Afi P fB) (hlen:zs.length <= 4611686018427387904) (hrA:asg.rf = false) (hrB:body.rf = false)
  (hp0:p0 < K.N) (hp1:p1 < K.N) (h:En P K g p0 p1 fB zs asg body zs.length s x s'):Code.Den P K (.rangeFunc (.tmp g) #[p0,p1] asg body) s x s':=by
 intro Γ w E a ro n hK hr hs
 cases ro with
 | some l=>exact absurd (hr rfl) (by simp [Code.rf])
 | none =>
 refine (wpIn_wide (n:=n)).2 ((wpIn_wide (n:=9)).1 ?_);obtain ⟨m,S,rfl,hm,hgs,hrow,hl⟩:=h.row
 have readB:∀ {hold:Nat->Obj->Prop} {W:World} {E1:Env} {k:Nat},k <= m->A6 (Γ.with hold) W E1 (S k) a.tmps->∃ lb,a.tmps.getD g undef = .func (.func fB) #[] lb /\ A46 lb zs W:=fun hk hst=>by
  have:=hst.slots g _ (hgs _ hk);unfold A6c at this;generalize a.tmps.getD g undef = gv at this ⊢
  cases this with | v h=>cases h with | one h=>cases h with | i h=>exact A46.of h
 obtain ⟨lb,hv,_⟩:=readB (hold:=Γ.hold) (KD m) hs;obtain ⟨N,hN⟩:∃ N,N = zs.length:=⟨_,rfl⟩;refine wpIn_rangeFunc ?_;intro fn hfn;obtain ⟨rec,hrec⟩:∃ rec:LoopState->Option Code->Loop,rec = fun st pe=>{ state:=st,pending:=pe,fn,tmps:=a.tmps,params:=#[p0,p1],assign:=asg,body,defers:=w.heap.size }:=⟨_,rfl⟩;obtain ⟨H1,hH1⟩:∃ H1:LoopState->Option Code->Nat->Obj->Prop,H1 = fun st pe b o=>Γ.hold b o \/ (b = w.heap.size + 1 /\ o = .loop (rec st pe)) \/ (b = w.heap.size /\ o = .deferred (some [])):=⟨_,rfl⟩;have holdlt:∀ b o,Γ.hold b o->b < w.heap.size:=fun b o hb=>(ZI.1 (hs.held b o hb).2).1
 have turn:∀ {hold:Nat->Obj->Prop} {W:World} {E1:Env} {st:St} {tm:Array Value} {o1:Loop} (s2:LoopState) (p2:Option Code),A6 (Γ.with hold) W E1 st tm->W.heap[w.heap.size + 1]? = some (.loop o1)->W.heap[w.heap.size]? = some (.deferred (some []))->(∀ b o,Γ.hold b o->hold b o) ->
   A6 (Γ.with (H1 s2 p2)) (W.putObj (w.heap.size + 1) (.loop (rec s2 p2))) E1 st tm:=by
  intro hold W E1 st tm o1 s2 p2 hst hL hD hh
  refine A6.grown (Γ:=Γ.with hold) hst (H1 s2 p2) (grownBy_putObj' W _ _) (fun r e=>by cases e;exact ⟨ZK hs.fr.size (by show w.heap.size <= _;omega),_,hL,rfl⟩) (fun b o hb=>?_)
  rw [hH1] at hb;rcases hb with hb | ⟨rfl,rfl⟩ | ⟨rfl,rfl⟩
  . have h1:=hst.held b o (hh b o hb)
    exact ⟨h1.1,(World.putObj_heap_other (by have:=holdlt b o hb;omega)).trans h1.2⟩
  . exact ⟨rfl,World.putObj_heap_same (ZI.1 hL).1⟩
  . exact ⟨rfl,(World.putObj_heap_other (by omega)).trans hD⟩
 have heldL:∀ {hold:Nat->Obj->Prop} {W:World} {E1:Env} {st:St} {tm:Array Value} {s2:LoopState} {p2:Option Code},A6 (Γ.with hold) W E1 st tm->(∀ b o,H1 s2 p2 b o->hold b o)->W.heap[w.heap.size + 1]? = some (.loop (rec s2 p2)) /\ W.heap[w.heap.size]? = some (.deferred (some [])):=by
  intro hold W E1 st tm s2 p2 hst hh
  exact ⟨(hst.held _ _ (hh _ _ (by rw [hH1];exact .inr (.inl ⟨rfl,rfl⟩)))).2,(hst.held _ _ (hh _ _ (by rw [hH1];exact .inr (.inr ⟨rfl,rfl⟩)))).2⟩
 have hH1h:∀ s2 p2 b o,Γ.hold b o->H1 s2 p2 b o:=fun s2 p2 b o hb=>by rw [hH1];exact .inl hb
 obtain ⟨W1,hW1⟩:∃ W1,(w.alloc (.deferred (some []))).alloc (.loop (rec .ready none)) = W1:=⟨_,rfl⟩
 have hst1:A6 (Γ.with (H1 .ready none)) W1 E (S 0) a.tmps:=by
  rw [<- hW1]
  have g1:w.grownBy ((w.alloc (.deferred (some []))).alloc (.loop (rec .ready none))) none:=by
   have a1:=World.grownBy_alloc w (.deferred (some [])) none;have a2:=World.grownBy_alloc (w.alloc (.deferred (some []))) (.loop (rec .ready none)) none
   exact ⟨a2.os.trans a1.os,a2.tape.trans a1.tape,a2.output.trans a1.output,ZK a1.size a2.size,fun k hk _=>(a2.block k (ZQ hk a1.size) (by simp)).trans (a1.block k hk (by simp))⟩
  refine A6.grown hs (H1 .ready none) g1 (fun r e=>by cases e) (fun b o hb=>?_)
  rw [hH1] at hb;rcases hb with hb | ⟨rfl,rfl⟩ | ⟨rfl,rfl⟩
  . have h1:=hs.held b o hb
    exact ⟨h1.1,(g1.block b (holdlt b o hb) (by simp)).trans h1.2⟩
  . have:=World.alloc_heap_new (w.alloc (.deferred (some []))) (.loop (rec .ready none));rw [World.size_alloc] at this;exact ⟨rfl,this⟩
  . exact ⟨rfl,((World.grownBy_alloc (w.alloc (.deferred (some []))) (.loop (rec .ready none)) none).block _ (by simp) (by simp)).trans (World.alloc_heap_new w _)⟩
 have callv:({ a with defers:=[({ target:=.collected w.heap.size,args:=#[] }:Deferred)] ++ a.defers }:Act).defers = { target:=.collected w.heap.size,args:=#[] } :: a.defers:=rfl
 refine ⟨w.heap.size + 1,[{ target:=.collected w.heap.size,args:=#[] }],W1,{ target:=.fn (.func fB) lb,args:=#[.func (.yield (w.heap.size + 1)) #[] #[]] },W1,fB,
  #[.func (.yield (w.heap.size + 1)) #[] #[]] ++ lb,W1,?_,?_,fun _ _=>trivial,?_,fun _=>by omega,?_⟩
 . rw [<- hW1,hrec];exact run_enterLoop_outer _ _ _ _ _
 . simp only [resolve,Act.eval,hv];simp [go_sem]
 . simp [invoke,go_sem,hBk.1]
 have back:∀ {hold:Nat->Obj->Prop} {W:World} {E1:Env} {s1:St} {a2:Act},A6 (Γ.with hold) W E1 s1 a2.tmps->(∀ t,(asg.wr t || body.wr t) = false->t ≠ p0->t ≠ p1->a2.tmps.getD t undef = a.tmps.getD t undef) ->
   A6 (Γ.with hold) W E1 (Nh (fun t=>asg.wr t || body.wr t) p0 p1 s1) a.tmps:=by
  intro hold W E1 s1 a2 hst hsame
  refine hst.frame rfl rfl (by rw [hs.tsize,hst.tsize];rfl) (fun t y hy=>?_)
  have hy:A0 t (s1.slots.filter fun p=>!((fun t=>(asg.wr t || body.wr t) || (Nat.beq t p0 || Nat.beq t p1)) p.1)) = some y:=hy
  obtain ⟨q1,q2⟩:=Hj (q:=fun t=>asg.wr t || body.wr t || (Nat.beq t p0 || Nat.beq t p1)) hy
  obtain ⟨q3,q4⟩:=Cg q2;obtain ⟨q5,q6⟩:=Cg q4
  exact ⟨q1,(hsame t q3 (fun e=>by subst e;simp at q5) (fun e=>by subst e;simp at q6)).symm⟩
 refine (hBk.2 (w.heap.size + 1) lb zs
  (fun k W=>k <= m /\ ∃ E1,A6 (Γ.with (H1 .ready none)) W E1 (S k) a.tmps)
  (fun _ W=>m < zs.length /\ ∃ c,((x = .ret /\ c = .ret) \/ ∃ id,x = .exit id /\ c = .exit id) /\ ∃ E1,A6 (Γ.with (H1 .done (some c))) W E1 s' a.tmps)
  W1 hlen ?_ ?_ ⟨KD _,E,hst1⟩).mono ?_
 . rintro k W _ ⟨hk,E1,hst⟩
   obtain ⟨lb',e1,e2⟩:=readB hk hst;rw [hv] at e1
   cases e1;exact e2
 . -- ONE ROUND
   rintro k W hkN ⟨hk,E1,hst⟩
   obtain ⟨hL,hD⟩:=heldL hst (fun _ _ h=>h)
   have hy:=run_yield (P:=P) (args:=#[.int .i64 ((zs.length - 1 - k:Nat):Int),.int .i64 (zs.getD (zs.length - 1 - k) 0)]) hL (by rw [hrec];rfl)
   rw [hrec] at hy;refine ⟨fn,_,asg,body,hy,roundIn_of_wpIn hfn ?_⟩;clear hy
   have hfold:((#[p0,p1]:Array Tmp).zip #[Value.int .i64 ((zs.length - 1 - k:Nat):Int),.int .i64 (zs.getD (zs.length - 1 - k) 0)]).foldl (fun t (x:Tmp × Value)=>t.setIfInBounds x.1 x.2) a.tmps = (a.tmps.setIfInBounds p0 (.int .i64 ((zs.length - 1 - k:Nat):Int))).setIfInBounds p1 (.int .i64 (zs.getD (zs.length - 1 - k) 0)):=by
    simp
   have hstP:A6 (Γ.with (H1 .ready none)) W E1 (Mm p0 p1 (zs.length - 1 - k) (zs.getD (zs.length - 1 - k) 0) (S k)) ((a.tmps.setIfInBounds p0 (.int .i64 ((zs.length - 1 - k:Nat):Int))).setIfInBounds p1 (.int .i64 (zs.getD (zs.length - 1 - k) 0))) :=
    (hst.put (by rw [show (Γ.with (H1 .ready none)).K = K from hK];exact hp0) (.v (.one (.i (.lit _ rfl))))).put (by rw [show (Γ.with (H1 .ready none)).K = K from hK];exact hp1) (.v (.one (.i (.lit _ rfl))))
   have tm0:∀ t,t ≠ p0->t ≠ p1->((a.tmps.setIfInBounds p0 (.int .i64 ((zs.length - 1 - k:Nat):Int))).setIfInBounds p1 (.int .i64 (zs.getD (zs.length - 1 - k) 0))).getD t undef = a.tmps.getD t undef:=fun t h1 h2=>by
    simp [KG,Ne.symm h1,Ne.symm h2]
   show asg.wpIn (Fence.wide.inRound (w.heap.size + 1)) 7 P _ { tmps:=(#[p0,p1].zip #[Value.int .i64 ((zs.length - 1 - k:Nat):Int),.int .i64 (zs.getD (zs.length - 1 - k) 0)]).foldl (fun t (x:Tmp × Value)=>t.setIfInBounds x.1 x.2) a.tmps,defers:=[] } W;rw [hfold]
   have round:∀ {sA s1:St} {y:Exit} (ye:y = .normal \/ y = .ret \/ ∃ id,y = .exit id) (hA:Code.Den P K asg (Mm p0 p1 (zs.length - 1 - k) (zs.getD (zs.length - 1 - k) 0) (S k)) .normal sA) (hB:Code.Den P K body sA y s1) (R:Ending->World->Prop)
     (_:∀ c W4 E4,c = Ao9 y->A6 (Γ.with (H1 (if c.isNone then .ready else .done) c)) W4 E4 (Nh (fun t=>asg.wr t || body.wr t) p0 p1 s1) a.tmps->R (.returned (.bool c.isNone)) W4),
     asg.wpIn (FR (some (w.heap.size + 1))) 7 P (Exit.then (fun a₁ w₁=>∃ w₂,(Instr.beginRound (w.heap.size + 1)).run P w₁ = .ok () w₂ /\ body.wpIn (FR (some (w.heap.size + 1))) 7 P (roundPost P (w.heap.size + 1) R) a₁ w₂) (fun _ _ _=>False))
      { tmps:=(a.tmps.setIfInBounds p0 (.int .i64 ((zs.length - 1 - k:Nat):Int))).setIfInBounds p1 (.int .i64 (zs.getD (zs.length - 1 - k) 0)),defers:=[] } W:=by
    intro sA s1 y ye hA hB R hR;refine wpIn_mono (hA (Γ.with (H1 .ready none)) W E1 _ (some (w.heap.size + 1)) 7 hK (fun _=>hrA) hstP) ?_
    rintro e a1 Wa ⟨rfl,⟨h1,q1,_,E2,hst2⟩,q3⟩
    obtain ⟨hL2,hD2⟩:=heldL hst2 q1
    refine ⟨_,run_beginRound hL2 (by rw [hrec]),?_⟩
    have hst3:=turn .busy none hst2 hL2 hD2 (fun b o h=>q1 b o (hH1h _ _ b o h));have hbw:=hB (Γ.with (H1 .busy none)) _ E2 a1 (some (w.heap.size + 1)) 7 hK (fun _=>hrB) hst3;rw [hrec] at hbw ⊢;refine wpIn_mono hbw ?_
    rintro e a2 Wb ⟨rfl,⟨h2,r1,_,E3,hst4⟩,r3⟩
    obtain ⟨hL4,hD4⟩:=heldL hst4 r1
    have hst5:=back (a2:=a2) hst4 (fun t ht n0 n1=>by
     obtain ⟨t1,t2⟩:=Cg ht
     exact ((r3 t t2).trans (q3 t t1)).trans (tm0 t n0 n1))
    have fin:∀ c:Option Code,c = Ao9 e->∃ v W4,(Instr.endRound (w.heap.size + 1) c).run P Wb = .ok v W4 /\ R (.returned v) W4:=fun c hc=>by
     refine ⟨_,_,run_endRound c hL4,hR c _ E3 hc ?_⟩
     have:=turn (if c.isNone then .ready else .done) c hst5 hL4 hD4 (fun b o h=>r1 b o (hH1h _ _ b o h))
     rw [hrec] at this ⊢;exact this
    rcases ye with rfl | rfl | ⟨id,rfl⟩
    . exact fin none rfl
    . exact fin (some .ret) rfl
    . exact fin (some (.exit id)) rfl
   by_cases hkm:k < m
   . obtain ⟨sA,s1,hA,hB,hS⟩:=hrow k hkm;refine round (.inl rfl) hA hB _ (fun c W4 E4 hc hst4=>?_);subst hc;obtain ⟨E5,hst5⟩:=hS _ _ _ _ hst4
     exact .inl ⟨rfl,by omega,E5,hst5⟩
   . obtain rfl:k = m:=by omega
     rcases hl with ⟨q1,_,_⟩ | ⟨q1,q2,sA,s1,hA,hB,rfl⟩
     . omega
     . rcases q2 with rfl | ⟨id,rfl⟩
       . refine round (.inr (.inl rfl)) hA hB _ (fun c W4 E4 hc hst4=>?_);subst hc;exact .inr ⟨rfl,q1,.ret,.inl ⟨rfl,rfl⟩,E4,hst4⟩
       . refine round (.inr (.inr ⟨id,rfl⟩)) hA hB _ (fun c W4 E4 hc hst4=>?_);subst hc;exact .inr ⟨rfl,q1,.exit id,.inr ⟨id,rfl,rfl⟩,E4,hst4⟩
 . -- BEHIND THE ITERATOR
   have post:∀ {st:LoopState} {pe:Option Code} {W:World} {E1:Env},A6 (Γ.with (H1 st pe)) W E1 s' a.tmps->I1 (Code.rangeFunc (.tmp g) #[p0,p1] asg body).wr Γ a s' { a with defers:={ target:=.collected w.heap.size,args:=#[] } :: a.defers } (W.putObj (w.heap.size + 1) (.loop (rec .exhausted pe))):=by
    intro st pe W E1 hst;obtain ⟨hL,hD⟩:=heldL hst (fun _ _ h=>h);have hst2:=turn .exhausted pe hst hL hD (hH1h _ _);refine ⟨⟨H1 .exhausted pe,hH1h _ _,fun hd=>⟨YZ.2 ⟨fun hm=>?_,hd.1⟩,fun d hd'=>?_⟩,E1,hst2⟩,fun _ _=>rfl⟩
    . obtain ⟨D,e1,_,e3⟩:=hd.2 _ hm
      have e4:D = w.heap.size:=by
       simp only [Deferred.mk.injEq,Target.collected.injEq,and_true] at e1;exact e1.symm
      have:=holdlt _ _ e3;omega
    . rcases QT.1 hd' with rfl | hd'
      . exact ⟨w.heap.size,rfl,hs.fr.size,by show H1 _ _ _ _;rw [hH1];exact .inr (.inr ⟨rfl,rfl⟩)⟩
      . obtain ⟨D,e1,e2,e3⟩:=hd.2 d hd';exact ⟨D,e1,e2,hH1h _ _ _ _ e3⟩
   rintro e W2 ⟨⟨v,rfl⟩,(⟨hNm,E1,hst⟩ | ⟨_,hmN,c,hc,E1,hst⟩)⟩
   . obtain ⟨hL,hD⟩:=heldL hst (fun _ _ h=>h);rcases hl with ⟨q1,rfl,rfl⟩ | ⟨q1,_⟩
     . refine ⟨none,_,by have:=run_endLoop (P:=P) hL (by rw [hrec];simp);rw [hrec] at this;exact this,?_⟩
       have:=post (st:=.ready) (pe:=none) (by rw [q1];exact hst)
       rw [hrec] at this;exact ⟨rfl,this⟩
     . omega
   . obtain ⟨hL,hD⟩:=heldL hst (fun _ _ h=>h)
     refine ⟨some c,_,by have:=run_endLoop (P:=P) hL (by rw [hrec];simp);rw [hrec] at this;exact this,?_⟩
     have:=post hst;rw [hrec] at this;rcases hc with ⟨rfl,rfl⟩ | ⟨id,rfl,rfl⟩
     . exact wpIn_ret ⟨rfl,this⟩
     . exact wpIn_exit ⟨rfl,this⟩
end Go.Ev

/- DERIVED. Trees: a box of rows of cells of which some are slices that lie each in a block of its own; how a box of the function's own becomes part of one. -/
namespace Go.Ev
open Go
theorem A99 {Γ:Ctx} {w:World} {E:Env} {s:St} {tmps:Array Value} (hs:A6 Γ w E s tmps) {h:Nat} {b:Box} (hb:A0 h s.boxes = some b) (htr:b.tr = false)
  (hv:∀ (i:Nat) (r:List C) (j:Nat) (c:C),b.rows[i]? = some r->r[j]? = some c->c.okT = true):A6 Γ w E { s with boxes:=Ag h { b with tr:=true } s.boxes } tmps:=by
 have same:∀ k b',A0 k (Ag h { b with tr:=true } s.boxes) = some b'->∃ b0,A0 k s.boxes = some b0 /\ b0.fz = b'.fz /\ b0.sz = b'.sz:=by
  intro k b' hb';by_cases hk:k = h
  . subst hk;rw [A7] at hb';obtain rfl:=QA hb';exact ⟨b,hb,rfl,rfl⟩
  . rw [A8 _ _ hk] at hb';exact ⟨b',hb',rfl,rfl⟩
 refine ⟨hs.fr,hs.wf,hs.old,hs.nt,hs.tag,hs.new,fun k b' hb'=>?_,fun k k' b b' g g' z z' hb hb' hz hz'=>?_,fun k b g z hb hz=>?_,hs.slots,hs.tsize,fun k x hx=>?_,hs.stay,fun k b g z hb hz hf=>?_,hs.held,hs.tow⟩
 . by_cases hk:k = h
   . subst hk;rw [A7] at hb';obtain rfl:=QA hb';obtain ⟨g,cap,hβ,⟨arr,a1,a2,a3,a4,a5,a6,a7,a8,a9⟩,hω,_⟩:=hs.boxes k b hb;rw [htr] at a6 a8 a9;refine ⟨g,cap,hβ,⟨arr,a1,a2,a3,a4,a5,fun i r j c hi hj=>?_,a7,fun e=>(Env.rd_A hω).2 (a8 e),a9⟩,hω,fun _=>⟨fun i r j y len cp a h1 h2 h3 h4 h5=>?_,fun i r j y i' r' j' y' len len' cp cp' a a' h1 h2 h3 h1' h2' h3' hn h4 h4' h5 h5'=>?_,fun i r j y len cp a h1 h2 h3 h4 h5=>?_⟩⟩
     rotate_left 3
     . obtain ⟨v,hv1,hv2⟩:=a6 i r j _ h1 h2
       have e:w.cell? ⟨g,i * b.sz + j,none⟩ = some v:=by simp [World.cell?,a1,hv1]
       rw [e] at h4;obtain rfl:=QA h4;have:=Dy (hv i r j _ h1 h2) h3 hv2;omega
     . obtain ⟨v,hv1,hv2⟩:=a6 i r j c hi hj;exact ⟨v,hv1,hv2.okT (E:=E) (E':=E.rd k true) rfl (hv i r j c hi hj)⟩
     . obtain ⟨v,hv1,hv2⟩:=a6 i r j _ h1 h2
       have e:w.cell? ⟨g,i * b.sz + j,none⟩ = some v:=by simp [World.cell?,a1,hv1]
       rw [e] at h4;obtain rfl:=QA h4;have:=Dy (hv i r j _ h1 h2) h3 hv2;omega
     . obtain ⟨v,hv1,hv2⟩:=a6 i r j _ h1 h2
       have e:w.cell? ⟨g,i * b.sz + j,none⟩ = some v:=by simp [World.cell?,a1,hv1]
       rw [e] at h4;obtain rfl:=QA h4;have:=Dy (hv i r j _ h1 h2) h3 hv2;omega
   . rw [A8 _ _ hk] at hb';exact hs.boxes k b' hb'
 . obtain ⟨b0,h0,_⟩:=same k b hb;obtain ⟨b1,h1,_⟩:=same k' b' hb';exact hs.inj k k' b0 b1 g g' z z' h0 h1 hz hz'
 . obtain ⟨b0,h0,h1,_⟩:=same k b hb;rw [<- h1];exact hs.own k b0 g z h0 hz
 . by_cases hk:k = h
   . subst hk;rw [A7];rfl
   . rw [A8 _ _ hk];exact hs.dom k x hx
 . obtain ⟨b0,h0,h1,_⟩:=same k b hb;exact hs.fzn k b0 g z h0 hz (h1.trans hf)
theorem Vc {Γ:Ctx} {w:World} {E:Env} {s:St} {tmps:Array Value} (hs:A6 Γ w E s tmps) {h k row col len:Nat} {b bk:Box} {r:List C} {ys:List (List I)} {hf':Bool}
  (hb:A0 h s.boxes = some b) (htr:b.tr = true) (hne:h ≠ k) (hk:k < 1000 \/ 2000 <= k) (hbk:A0 k s.boxes = some bk) (hktr:bk.tr = false) (hkfz:bk.fz = false)
  (hr:b.rows[row]? = some r) (hc:r[col]? = some (.hs k 0 len)) (hlen:len = bk.rows.length) (hrows:bk.rows = ys.map (·.map .i)) (hlit:∀ (i:Nat) (q:List I) (j:Nat) (y:I),ys[i]? = some q->q[j]? = some y->∃ v,y = .lit v) (hie:bk.e = Ct) (hsz1:bk.sz = 1)
  (hslots:∀ t x,A0 t s.slots = some x->x.men k = false) (hboxes:∀ i b',i ≠ k->i ≠ h->A0 i s.boxes = some b'->∀ (i:Nat) (r:List C) (j:Nat) (c:C),b'.rows[i]? = some r->r[j]? = some c->c.men k = false)
  (hrest:∀ (i:Nat) (q:List C) (j:Nat) (c:C),b.rows[i]? = some q->q[j]? = some c->¬ (i = row /\ j = col)->c.men k = false)
  (hhf:hf' = true->∀ (i:Nat) (q:List C) (j:Nat) (c:C),(b.rows.set row (r.set col (.i (.sl 0 false bk.sz ys))))[i]? = some q->q[j]? = some c->∃ x,c = .i x) :
  ∃ E',A6 Γ w E' { s with boxes:=Ag h { b with hf:=hf',rows:=b.rows.set row (r.set col (.i (.sl 0 false bk.sz ys))) } (Bp k s.boxes) } tmps:=by
 obtain ⟨g,cap,hβ,⟨arr,a1,a2,a3,a4,a5,a6,a7,a8,a9⟩,hω,hS⟩:=hs.boxes h b hb;obtain ⟨gk,capk,hβk,hatk,hωk,_⟩:=hs.boxes k bk hbk;rw [hktr] at hatk;obtain ⟨arrk,k1,k2,k3,k4,k5,k6,k7,k8,k9⟩:=hatk;have hS:=hS htr;have hgne:∀ j b' gj z,j ≠ k->A0 j s.boxes = some b'->E.β j = some (gj,z)->gj ≠ gk:=fun j b' gj z hj hb' hz=>hs.inj j k b' bk gj gk z _ hb' hbk hz hβk hj
 let E':Env:={ A:=E.A,τ:=E.τ,β:=fun j=>if j = k then none else E.β j,ω:=fun x=>if x = gk then some h else E.ω x }
 have β':∀ j,j ≠ k->E'.β j = E.β j:=fun j hj=>QK hj;have ωn:∀ x,x ≠ gk->E'.ω x = E.ω x:=fun x hx=>QK hx;have ωg:E'.ω gk = some h:=QL rfl
 have kb:C3 k w w E E':=⟨QY _,fun _ _ _ h=>h,fun j x hj hx=>by rw [β' j hj];exact hx,fun _ _ _ _ _ h=>h⟩
 have kbr:∀ j tr,j ≠ k->C3 k w w (E.rd j tr) (E'.rd j tr):=by
  intro j tr hj
  cases tr with
  | false=>exact kb
  | true =>
   refine ⟨QY _,fun tag x _ hx=>?_,kb.β,fun _ _ _ _ _ h=>h⟩;unfold Env.blk at hx ⊢;split
   . rename_i e;rw [QL e] at hx
     rintro ⟨h1,h2⟩
     refine hx ⟨h1,fun h3=>h2 ?_⟩;by_cases hxg:x = gk
     . subst hxg;rw [hωk] at h3;cases h3
     . rw [ωn x hxg];exact h3
   . rename_i e;rw [QK e] at hx;exact hx
 have lk:∀ j b',A0 j (Ag h { b with hf:=hf',rows:=b.rows.set row (r.set col (.i (.sl 0 false bk.sz ys))) } (Bp k s.boxes)) = some b'->j ≠ k /\ ((j = h /\ b' = { b with hf:=hf',rows:=b.rows.set row (r.set col (.i (.sl 0 false bk.sz ys))) }) \/ (j ≠ h /\ A0 j s.boxes = some b')):=by
  intro j b' hj;by_cases e:j = h
  . subst e;rw [A7] at hj;exact ⟨hne,.inl ⟨rfl,(QA hj).symm⟩⟩
  . rw [A8 _ _ e] at hj;by_cases e2:j = k
    . subst e2;rw [B9] at hj;cases hj
    . rw [Ap e2] at hj;exact ⟨e2,.inr ⟨e,hj⟩⟩
 have lko:∀ j b',A0 j (Ag h { b with hf:=hf',rows:=b.rows.set row (r.set col (.i (.sl 0 false bk.sz ys))) } (Bp k s.boxes)) = some b'->j ≠ k /\ ∃ b0,A0 j s.boxes = some b0 /\ b0.fz = b'.fz /\ b0.sz = b'.sz:=by
  intro j b' hj;obtain ⟨h1,⟨rfl,rfl⟩ | ⟨_,h2⟩⟩:=lk j b' hj
  . exact ⟨h1,b,hb,rfl,rfl⟩
  . exact ⟨h1,b',h2,rfl,rfl⟩
 have hrl:row < b.rows.length:=(QO.1 hr).1;have hcl:col < r.length:=(QO.1 hc).1
 have newc:∀ (i:Nat) (q:List C) (j:Nat) (c:C),(b.rows.set row (r.set col (.i (.sl 0 false bk.sz ys))))[i]? = some q->q[j]? = some c->(i = row /\ j = col /\ c = .i (.sl 0 false bk.sz ys)) \/ (¬ (i = row /\ j = col) /\ ∃ q0,b.rows[i]? = some q0 /\ q0[j]? = some c):=by
  intro i q j c hi hj;by_cases e:i = row
  . subst e;rw [ZP hrl] at hi;obtain rfl:=QA hi;by_cases e2:j = col
    . subst e2;rw [ZP hcl] at hj;exact .inl ⟨rfl,rfl,(QA hj).symm⟩
    . rw [ZT (Ne.symm e2)] at hj;exact .inr ⟨fun h=>e2 h.2,r,hr,hj⟩
  . rw [ZT (Ne.symm e)] at hi;exact .inr ⟨fun h=>e h.1,q,hi,hj⟩
 obtain ⟨v0,hv0,hrv0⟩:=a6 row r col _ hr hc
 have hval:∃ ad,v0 = .slice (some ad) len (capk - 0) /\ ad = ⟨gk,0,none⟩:=by
  rw [htr] at hrv0
  cases hrv0 with
  | hs _ _ _ g1 sz1 cap1 ad hb1 hle1 had1 =>
   have hb1:E.β k = some (g1,sz1,cap1):=hb1;rw [hβk] at hb1
   obtain ⟨rfl,rfl,rfl⟩:gk = g1 /\ bk.sz = sz1 /\ capk = cap1:=by simpa using hb1
   exact ⟨ad,rfl,by simpa using had1 (.inr rfl)⟩
 obtain ⟨ad,rfl,rfl⟩:=hval
 have hyl:ys.length = len:=by rw [hlen,hrows];simp
 have gkA:E.A gk:=k8 hkfz
 have hnewRead:Ri w (E'.rd h true) (.slice (some ⟨gk,0,none⟩) len (capk - 0)) (.sl 0 false bk.sz ys):=by
  by_cases h0:len = 0
  . subst h0;obtain rfl:=XJ hyl
    exact .nil _ _ _ _ _ (fun e=>by cases e) (fun e=>by cases e)
  . have := Ri.sl (w := w) (E := E'.rd h true) 0 bk.sz gk 0 (capk - 0) ys (fun i j => (arrk[i * bk.sz + j]?).getD undef) (fun e => by subst e; simp at hyl; omega) (by omega) (ZI.1 k1).1 (by
     unfold Env.blk;rw [QL rfl]
     exact fun h3=>h3.2 ωg)
     (fun i q hi=>by have:=k5 i (q.map .i) (by rw [hrows,QJ,hi];rfl);simpa using this)
     (fun i q j y hi hj=>by
      obtain ⟨u,hu,_⟩:=k6 i (q.map .i) j (.i y) (by rw [hrows,QJ,hi];rfl) (by rw [QJ,hj];rfl)
      simp [World.cell?,k1,hu])
     (fun i q j y hi hj=>by
      obtain ⟨u,hu,hru⟩:=k6 i (q.map .i) j (.i y) (by rw [hrows,QJ,hi];rfl) (by rw [QJ,hj];rfl)
      obtain ⟨z,rfl⟩:=hlit i q j y hi hj;rw [hu]
      cases hru with | i hru=>cases hru with | lit _ h=>exact .lit _ h)
    rw [hyl] at this;exact this
 have hω':E'.ω g = none:=by rw [ωn g (hgne h b g _ hne hb hβ)];exact hω
 have cellOf:∀ i j v,w.cell? ⟨g,i * b.sz + j,none⟩ = some v->arr[i * b.sz + j]? = some v:=fun i j v h=>by simpa [World.cell?,a1] using h
 refine ⟨E',hs.fr,⟨hs.wf.alt,hs.wf.tag,hs.wf.inj,fun x j hx=>?_⟩,hs.old,hs.nt,hs.tag,hs.new,fun j b' hj=>?_,fun j j' b1 b2 g1 g2 z1 z2 h1 h2 hz1 hz2=>?_,fun j b1 g1 z1 h1 hz1=>?_,fun t x hx=>(hs.slots t x hx).keepBut kb (hslots t x hx),hs.tsize,fun j x hx=>?_,fun j hj hj2 hm=>?_,fun j b1 g1 z1 h1 hz1 hf=>?_,hs.held,fun x j hx=>?_⟩
 . by_cases e:x = gk
   . subst e;exact ⟨gkA,k9,_,k1,rfl⟩
   . rw [ωn x e] at hx;exact hs.wf.om x j hx
 . obtain ⟨hjk,⟨rfl,rfl⟩ | ⟨hjh,hj⟩⟩:=lk j b' hj
   . refine ⟨g,cap,(β' j hjk).trans hβ,⟨arr,a1,a2,by simpa using a3,a4,fun i q hi=>?_,fun i q j' c hi hj'=>?_,hhf,fun e=>(Env.rd_A hω').2 ((Env.rd_A hω).1 (a8 e)),by rw [Env.rd_τ] at a9 ⊢;exact a9⟩,hω',fun _=>?_⟩
     . by_cases e:i = row
       . subst e;simp only at hi;rw [ZP hrl] at hi;obtain rfl:=QA hi;rw [JK];exact a5 i r hr
       . simp only at hi;rw [ZT (Ne.symm e)] at hi;exact a5 i q hi
     . show ∃ v,arr[i * b.sz + j']? = some v /\ Rc w (E'.rd j b.tr) v c;rcases newc i q j' c hi hj' with ⟨rfl,rfl,rfl⟩ | ⟨hn,q0,h1,h2⟩
       . refine ⟨_,hv0,?_⟩;rw [htr];exact .i hnewRead
       . obtain ⟨v,hv1,hv2⟩:=a6 i q0 j' c h1 h2;exact ⟨v,hv1,hv2.keepBut (kbr j b.tr hjk) (hrest i q0 j' c h1 h2 hn)⟩
     . have one : ∀ (i : Nat) (q : List C) (j' : Nat) (y : I) (len' cp : Nat) (a : Addr), (b.rows.set row (r.set col (.i (.sl 0 false bk.sz ys))))[i]? = some q -> q[j']? = some (.i y) -> y.isSl = true -> w.cell? ⟨g, i * b.sz + j', none⟩ = some (.slice (some a) len' cp) -> 0 < len' ->
         (i = row /\ j' = col /\ a.block = gk) \/ (E.ω a.block = some j /\ ∃ q0,b.rows[i]? = some q0 /\ q0[j']? = some (.i y)):=by
        intro i q j' y len' cp a h1 h2 h3 h4 h5;rcases newc i q j' _ h1 h2 with ⟨rfl,rfl,_⟩ | ⟨hn,q0,q1,q2⟩
        . have h6:=cellOf _ _ _ h4;rw [hv0] at h6;simp only [QD,Value.slice.injEq] at h6
          exact .inl ⟨rfl,rfl,by rw [<- h6.1]⟩
        . exact .inr ⟨hS.1 i q0 j' y len' cp a q1 q2 h3 h4 h5,q0,q1,q2⟩
       refine ⟨fun i q j' y len' cp a h1 h2 h3 h4 h5=>?_,fun i q j1 y i' q' j2 y' len1 len2 cp cp' a a' h1 h2 h3 h1' h2' h3' hn h4 h4' h5 h5'=>?_,fun i q j' y len' cp a h1 h2 h3 h4 h5=>?_⟩
       rotate_left 2
       . rcases newc i q j' _ h1 h2 with ⟨rfl,rfl,_⟩ | ⟨hn,q0,q1,q2⟩
         . have h6:=cellOf _ _ _ h4;rw [hv0] at h6;simp only [QD,Value.slice.injEq] at h6;obtain ⟨rfl,rfl,rfl⟩:=h6
           exact ⟨arrk,rfl,by rw [<- hie];exact k1,by rw [k2,hsz1];omega,by omega⟩
         . exact hS.2.2 i q0 j' y len' cp a q1 q2 h3 h4 h5
       . rcases one i q j' y len' cp a h1 h2 h3 h4 h5 with ⟨_,_,e⟩ | ⟨e,_⟩
         . rw [e];exact ωg
         . by_cases e2:a.block = gk
           . rw [e2];exact ωg
           . rw [ωn _ e2];exact e
       . rcases one i q j1 y len1 cp a h1 h2 h3 h4 h5 with ⟨e1,e2,e⟩ | ⟨e,q0,p1,p2⟩ <;> rcases one i' q' j2 y' len2 cp' a' h1' h2' h3' h4' h5' with ⟨e1',e2',e'⟩ | ⟨e',q0',p1',p2'⟩
         . exact absurd ⟨e1.trans e1'.symm,e2.trans e2'.symm⟩ hn
         . intro e3;rw [<- e3,e,hωk] at e';cases e'
         . intro e3;rw [e3,e',hωk] at e;cases e
         . exact hS.2.1 i q0 j1 y i' q0' j2 y' len1 len2 cp cp' a a' p1 p2 h3 p1' p2' h3' hn h4 h4' h5 h5'
   . obtain ⟨gj,capj,hβj,⟨arr',c1,c2,c3,c4,c5,c6,c7,c8,c9⟩,hωj,hSj⟩:=hs.boxes j b' hj
     have hωj':E'.ω gj = none:=by rw [ωn gj (hgne j b' gj _ hjk hj hβj)];exact hωj
     refine ⟨gj,capj,(β' j hjk).trans hβj,⟨arr',c1,c2,c3,c4,c5,fun i q j' c hi hj'=>?_,c7,fun e=>(Env.rd_A hωj').2 ((Env.rd_A hωj).1 (c8 e)),by rw [Env.rd_τ] at c9 ⊢;exact c9⟩,hωj',fun e=>(hSj e).keep rfl fun b2 hb2=>⟨?_,rfl⟩⟩
     . obtain ⟨v,hv1,hv2⟩:=c6 i q j' c hi hj';exact ⟨v,hv1,hv2.keepBut (kbr j b'.tr hjk) (hboxes j b' hjk hjh hj i q j' c hi hj')⟩
     . by_cases e2:b2 = gk
       . subst e2;rw [hωk] at hb2;cases hb2
       . rw [ωn b2 e2];exact hb2
 . obtain ⟨n1,b3,l1,_⟩:=lko j b1 h1;obtain ⟨n2,b4,l2,_⟩:=lko j' b2 h2;exact hs.inj j j' b3 b4 g1 g2 z1 z2 l1 l2 ((β' j n1).symm.trans hz1) ((β' j' n2).symm.trans hz2)
 . obtain ⟨n1,b3,l1,l2,_⟩:=lko j b1 h1;rw [<- l2];exact hs.own j b3 g1 z1 l1 ((β' j n1).symm.trans hz1)
 . have hjk : j ≠ k := by
    rintro rfl
    have:E'.β j = none:=QL rfl;rw [this] at hx;cases hx
   by_cases e:j = h
   . subst e;rw [A7];rfl
   . rw [A8 _ _ e,Ap hjk];exact hs.dom j x ((β' j hjk).symm.trans hx)
 . rw [β' j (by omega)];exact hs.stay j hj hj2 hm
 . obtain ⟨n1,b3,l1,l2,_⟩:=lko j b1 h1;exact hs.fzn j b3 g1 z1 l1 ((β' j n1).symm.trans hz1) (l2.trans hf)
 . by_cases e:x = gk
   . subst e;rcases hs.own k bk x _ hbk hβk with h' | h'
     . exact .inl h'
     . exact .inr h'.1
   . rw [ωn x e] at hx;exact hs.tow x j hx
end Go.Ev

/- DERIVED. Several boxes of the function's own become Gf of a tree. -/
namespace Go.Ev
open Go
variable {P:Program} {T:Ty}
theorem C2.weak {K:Ai} {o:Oper} {s s1 s2:St} (h:C2 P K o s s1) (hw:Bs s1 s2):C2 P K o s s2 :=
 fun Γ w E a ro n X hK hX hx hs next Q hn=>h Γ w E a ro n X hK hX hx hs next Q fun a' w' hx' ⟨E',hs'⟩=>hn a' w' hx' (hw Γ w' E' a'.tmps hs')
theorem Bs.trans {s s1 s2:St} (h:Bs s s1) (h':Bs s1 s2):Bs s s2:=fun Γ w E tmps hs=>by
 obtain ⟨E',hs'⟩:=h Γ w E tmps hs;exact h' Γ w E' tmps hs'
theorem Cf {s s':St} (hn:s'.nt = s.nt) (h1:∀ t x,A0 t s'.slots = some x->x = .dead \/ A0 t s.slots = some x) (h2:∀ k,A0 k s'.boxes = A0 k s.boxes):Bs s s':=fun Γ w E tmps hs=>by
 have hs1:=hs.relook (bs:=s'.boxes) h2;refine ⟨E,?_⟩;obtain ⟨sl,bx,nt⟩:=s';simp only at hn h1 h2 hs1 ⊢;subst hn
 exact ⟨hs1.fr,hs1.wf,hs1.old,hs1.nt,hs1.tag,hs1.new,hs1.boxes,hs1.inj,hs1.own,fun t x hx=>(h1 t x hx).elim (fun e=>by subst e;exact .dead) (fun e=>hs1.slots t x e),hs1.tsize,hs1.dom,hs1.stay,hs1.fzn,hs1.held,hs1.tow⟩
theorem Ayi {s:St} {h:Nat} {b:Box} (hb:A0 h s.boxes = some b) (hi:∀ (i:Nat) (r:List C) (j:Nat) (c:C),b.rows[i]? = some r->r[j]? = some c->∃ x,c = .i x) :
  Bs s { s with boxes:=Ag h { b with hf:=true } s.boxes }:=fun Γ w E tmps hs=>by
 have same:∀ k b',A0 k (Ag h { b with hf:=true } s.boxes) = some b'->∃ b0,A0 k s.boxes = some b0 /\ b0.fz = b'.fz /\ b0.sz = b'.sz:=by
  intro k b' hb';by_cases hk:k = h
  . subst hk;rw [A7] at hb';obtain rfl:=QA hb';exact ⟨b,hb,rfl,rfl⟩
  . rw [A8 _ _ hk] at hb';exact ⟨b',hb',rfl,rfl⟩
 refine ⟨E,hs.fr,hs.wf,hs.old,hs.nt,hs.tag,hs.new,fun k b' hb'=>?_,fun k k' b b' g g' z z' hb hb' hz hz'=>?_,fun k b g z hb hz=>?_,hs.slots,hs.tsize,fun k x hx=>?_,hs.stay,fun k b g z hb hz hf=>?_,hs.held,hs.tow⟩
 . by_cases hk:k = h
   . subst hk;rw [A7] at hb';obtain rfl:=QA hb';obtain ⟨g,cap,hβ,⟨arr,a1,a2,a3,a4,a5,a6,a7,a8,a9⟩,hω,hS⟩:=hs.boxes k b hb;exact ⟨g,cap,hβ,⟨arr,a1,a2,a3,a4,a5,a6,fun _=>hi,a8,a9⟩,hω,hS⟩
   . rw [A8 _ _ hk] at hb';exact hs.boxes k b' hb'
 . obtain ⟨b0,h0,_⟩:=same k b hb;obtain ⟨b1,h1,_⟩:=same k' b' hb';exact hs.inj k k' b0 b1 g g' z z' h0 h1 hz hz'
 . obtain ⟨b0,h0,h1,_⟩:=same k b hb;rw [<- h1];exact hs.own k b0 g z h0 hz
 . by_cases hk:k = h
   . subst hk;rw [A7];rfl
   . rw [A8 _ _ hk];exact hs.dom k x hx
 . obtain ⟨b0,h0,h1,_⟩:=same k b hb;exact hs.fzn k b0 g z h0 hz (h1.trans hf)
theorem Aa7 {s:St} {h:Nat} (c1:h < 1000) (h1:∀ t x,A0 t s.slots = some x->x.men h = false) (h2:∀ k b,k ≠ h->A0 k s.boxes = some b->∀ (i:Nat) (r:List C) (j:Nat) (c:C),b.rows[i]? = some r->r[j]? = some c->c.men h = false) :
  Bs s { s with boxes:=Bp h s.boxes }:=fun Γ w E tmps hs=>by
 let E':Env:={ E with β:=fun k=>if k = h then Option.none else E.β k }
 have kb:C3 h w w E E':=⟨QY _,fun _ _ _ h=>h,fun k x hk hx=>by show (if k = h then Option.none else E.β k) = some x;rw [QK hk];exact hx,fun _ _ _ _ _ h=>h⟩
 have back:∀ k x,E'.β k = some x->k ≠ h /\ E.β k = some x:=by
  intro k x hx
  have hx':(if k = h then Option.none else E.β k) = some x:=hx
  by_cases e:k = h
  . rw [QL e] at hx';cases hx'
  . rw [QK e] at hx';exact ⟨e,hx'⟩
 have lk:∀ k b,A0 k (Bp h s.boxes) = some b->k ≠ h /\ A0 k s.boxes = some b:=by
  intro k b hb;by_cases e:k = h
  . subst e;rw [B9] at hb;cases hb
  . rw [Ap e] at hb;exact ⟨e,hb⟩
 refine ⟨E',hs.fr,⟨hs.wf.alt,hs.wf.tag,hs.wf.inj,hs.wf.om⟩,hs.old,hs.nt,hs.tag,hs.new,fun k b hb=>?_,fun k k' b b' g g' z z' hb hb' hz hz'=>?_,fun k b g z hb hz=>?_,fun t x hx=>?_,hs.tsize,fun k x hx=>?_,fun k hk hk2 hm=>?_,fun k b g z hb hz=>?_,hs.held,hs.tow⟩
 . obtain ⟨hne,hb0⟩:=lk k b hb;obtain ⟨g,cap,hβ,⟨arr,a1,a2,a3,a4,a5,a6,a7,a8,a9⟩,hω,hS⟩:=hs.boxes k b hb0;have kb:=kb.rd k b.tr fun _ _ h=>⟨h,rfl⟩
   refine ⟨g,cap,by have:=kb.β _ _ hne (by rw [Env.rd_β];exact hβ);rwa [Env.rd_β] at this,⟨arr,a1,a2,a3,a4,a5,fun i r j c hi hj=>?_,a7,fun e=>(Env.rd_A (E:=E') hω).2 ((Env.rd_A (E:=E) hω).1 (a8 e)),by rw [Env.rd_τ] at a9 ⊢;exact a9⟩,hω,hS⟩
   obtain ⟨v,hv,hr⟩:=a6 i r j c hi hj;refine ⟨v,hv,hr.keepBut kb ?_⟩;exact h2 k b hne hb0 i r j c hi hj
 . obtain ⟨_,h1⟩:=lk k b hb;obtain ⟨_,h2⟩:=lk k' b' hb';exact hs.inj k k' b b' g g' z z' h1 h2 (back _ _ hz).2 (back _ _ hz').2
 . exact hs.own k b g z (lk k b hb).2 (back _ _ hz).2
 . exact (hs.slots t x hx).keepBut kb (h1 t x hx)
 . obtain ⟨hne,hx0⟩:=back _ _ hx;rw [Ap hne];exact hs.dom k x hx0
 . show (if k = h then Option.none else E.β k) = _
   rw [QK (by omega)]
   exact hs.stay k hk hk2 hm
 . exact hs.fzn k b g z (lk k b hb).2 (back _ _ hz).2
def Ns (ks:List Nat) (g:Nat->I):C->C
 | .hs k o len=>bif ks.any (Nat.beq k) then .i (g k) else .hs k o len
 | c=>c
def Gx {β:Type}:List Nat->List (Nat × β)->List (Nat × β)
 | [],l=>l
 | k :: r,l=>Gx r (Bp k l)
theorem Dd {β:Type}:∀ (ks:List Nat) (l:List (Nat × β)) (j:Nat),A0 j (Gx ks l) = bif ks.any (Nat.beq j) then none else A0 j l
 | [],l,j=>rfl
 | k :: r,l,j=>by
  simp only [Gx,Dd r,YY]
  cases hb:Nat.beq j k with
  | true =>
   obtain rfl:=QC hb;rw [B9]
   cases r.any (Nat.beq j) <;> rfl
  | false =>
   rw [Ap (fun e=>by subst e;simp at hb)]
   rfl
structure Amv (s:St) (h row:Nat) (b:Box) (r:List C) (ks:List Nat) (g:Nat->I):Prop where
 hb:A0 h s.boxes = some b
 tr:b.tr = true
 hr:b.rows[row]? = some r
 oth:∀ (i:Nat) (q:List C) (j:Nat) (c:C),i ≠ row->b.rows[i]? = some q->q[j]? = some c->∃ y,c = .i y
 nd:ks.Nodup
 each:∀ k ∈ ks,k ≠ h /\ k < 1000 /\ ∃ bk ys col len,A0 k s.boxes = some bk /\ bk.tr = false /\ bk.fz = false /\ r[col]? = some (.hs k 0 len) /\ len = bk.rows.length /\ bk.rows = ys.map (·.map .i) /\
  (∀ (i:Nat) (q:List I) (j:Nat) (y:I),ys[i]? = some q->q[j]? = some y->∃ v,y = .lit v) /\ g k = .sl 0 false bk.sz ys /\ (∀ (j:Nat) (c:C),r[j]? = some c->j ≠ col->c.men k = false) /\ bk.e = Ct /\ bk.sz = 1
 slots:∀ k ∈ ks,∀ t x,A0 t s.slots = some x->x.men k = false
 boxes:∀ k ∈ ks,∀ i b',i ≠ k->i ≠ h->A0 i s.boxes = some b'->∀ (i:Nat) (r:List C) (j:Nat) (c:C),b'.rows[i]? = some r->r[j]? = some c->c.men k = false
theorem Aj9 {h row:Nat} {g:Nat->I}:∀ (ks:List Nat) {s:St} {b:Box} {r:List C},Amv s h row b r ks g ->
  Bs s { s with boxes:=Ag h { b with hf:=bif ks.isEmpty then b.hf else false,rows:=b.rows.set row (r.map (Ns ks g)) } (Gx ks s.boxes) }
 | [],s,b,r,ok=>by
  refine Cf rfl (fun t x hx=>.inr hx) fun k=>?_;simp only [Gx];by_cases e:k = h
  . subst e;rw [A7,ok.hb];congr 1
    have e1:r.map (Ns [] g) = r:=by
     refine (ZE fun c _=>?_).trans (List.map_id r)
     cases c <;> rfl
    have e2:b.rows.set row r = b.rows:=by
     have:=(QO.1 ok.hr);obtain ⟨h1,h2⟩:=this;rw [<- h2];exact List.set_getElem_self h1
    rw [e1,e2];rfl
  . rw [A8 _ _ e]
 | k :: ks,s,b,r,ok=>by
  obtain ⟨c1,c2,bk,ys,col,len,c3,c4,c5,c6,c7,c8,c9,c10,c11,c12,c13⟩:=ok.each k (by simp)
  have hrl:row < b.rows.length:=(QO.1 ok.hr).1;have hcl:col < r.length:=(QO.1 c6).1
  let r1:=r.set col (.i (.sl 0 false bk.sz ys))
  let b1:Box:={ b with hf:=false,rows:=b.rows.set row r1 }
  let s1:St:={ s with boxes:=Ag h b1 (Bp k s.boxes) }
  have w1:Bs s s1:=fun Γ w E tmps hs=>Vc hs ok.hb ok.tr (Ne.symm c1) (.inl c2) c3 c4 c5 ok.hr c6 c7 c8 c9 c12 c13 (ok.slots k (by simp)) (ok.boxes k (by simp)) (fun i q j c hi hj hn=>by
   by_cases e:i = row
   . subst e;rw [ok.hr] at hi;obtain rfl:=QA hi;exact c11 j c hj (fun e2=>hn ⟨rfl,e2⟩)
   . obtain ⟨y,rfl⟩:=ok.oth i q j c e hi hj
     rfl) (fun e=>by cases e)
  have hnk:k ∉ ks:=(YZ.1 ok.nd).1
  have l1:∀ j,A0 j s1.boxes = if j = h then some b1 else if j = k then none else A0 j s.boxes:=by
   intro j;show A0 j (Ag h b1 (Bp k s.boxes)) = _;by_cases e:j = h
   . subst e;rw [A7,QL rfl]
   . rw [A8 _ _ e,QK e];by_cases e2:j = k
     . subst e2;rw [B9,QL rfl]
     . rw [Ap e2,QK e2]
  have ok1:Amv s1 h row b1 r1 ks g:=by
   refine ⟨by rw [l1,QL rfl],ok.tr,by show (b.rows.set row r1)[row]? = _;rw [ZP hrl],fun i q j c hi hq hc=>?_,(YZ.1 ok.nd).2,fun k2 hk2=>?_,fun k2 hk2=>ok.slots k2 (by simp [hk2]),fun k2 hk2 i b' h1 h2 hl=>?_⟩
   . have hq:(b.rows.set row r1)[i]? = some q:=hq;rw [ZT (Ne.symm hi)] at hq;exact ok.oth i q j c hi hq hc
   . obtain ⟨d1,d2,bk2,ys2,col2,len2,d3,d4,d5,d6,d7,d8,d9,d10,d11,d12,d13⟩:=ok.each k2 (by simp [hk2])
     have hne:k2 ≠ k:=fun e=>hnk (e ▸ hk2)
     have hcc:col2 ≠ col:=by
      intro e;rw [e,c6] at d6;simp only [QD,C.hs.injEq] at d6;exact hne d6.1.symm
     refine ⟨d1,d2,bk2,ys2,col2,len2,by rw [l1,QK d1,QK hne];exact d3,d4,d5,by show (r.set col _)[col2]? = _;rw [ZT (Ne.symm hcc)];exact d6,d7,d8,d9,d10,(fun j c hj hn=>?_),d12,d13⟩
     have hj:(r.set col (.i (.sl 0 false bk.sz ys)))[j]? = some c:=hj;by_cases e:j = col
     . subst e;rw [ZP hcl] at hj;obtain rfl:=QA hj;rfl
     . rw [ZT (Ne.symm e)] at hj;exact d11 j c hj hn
   . rw [l1,QK h2] at hl;by_cases e:i = k
     . rw [QL e] at hl;cases hl
     . rw [QK e] at hl
       exact ok.boxes k2 (by simp [hk2]) i b' h1 h2 hl
  refine w1.trans ((Aj9 ks ok1).trans (Cf rfl (fun t x hx=>.inr hx) fun j=>?_))
  have er:r1.map (Ns ks g) = r.map (Ns (k :: ks) g):=by
   apply JB;intro j;rw [QJ,QJ];show ((r.set col (.i (.sl 0 false bk.sz ys)))[j]?).map _ = _;by_cases e:j = col
   . subst e;rw [ZP hcl,c6];simp only [QP,Ns,YY,XD,Bool.true_or,cond,c10]
   . rw [ZT (Ne.symm e)]
     cases hj:r[j]? with
     | none=>rfl
     | some c =>
      have hm:=c11 j c hj e;simp only [QP];congr 1
      cases c with
      | hs k' o l =>
       have hm:Nat.beq k' k = false:=hm;simp only [Ns,YY,hm,YN]
      | i=>rfl
      | hp=>rfl
  by_cases e:j = h
  . subst e;rw [A7,A7];congr 1
    show ({ b with hf:=_,rows:=_ }:Box) = { b with hf:=(bif ks.isEmpty then false else false),rows:=(b.rows.set row r1).set row (r1.map (Ns ks g)) }
    rw [Qar,er]
    cases ks <;> rfl
  . rw [A8 _ _ e,A8 _ _ e,Dd,Dd]
    show _ = (bif ks.any (Nat.beq j) then none else A0 j s1.boxes)
    rw [l1,QK e];simp only [YY]
    cases hb:Nat.beq j k with
    | true =>
     rw [QL (QC hb)]
     cases ks.any (Nat.beq j) <;> rfl
    | false =>
     rw [QK (fun e=>by subst e;simp at hb)]
     rfl
end Go.Ev

/- DERIVED. A row with the function's own boxes is appended to a tree. -/
namespace Go.Ev
open Go
variable {P:Program} {T:Ty}
theorem Ax9 (hT:Ao P T) {Γ:Ctx} {w:World} {E:Env} {s:St} {tmps:Array Value} (hs:A6 Γ w E s tmps) {t ty e:TypeId} {ei:TI} (hd:Ty.d T t = some (.slice e)) (hei:T e = some ei) (c1:1 <= ei.size) (c2:1 <= ei.bytes)
  {hh len tb:Nat} {b bt:Box} {v u:Value} {row:List C} (hv:Rs w E v (.v (.one (.hs hh 0 len)))) (hb:A0 hh s.boxes = some b) (d1:b.sz = ei.size) (d2:b.hf = true) (d3:b.fz = false) (d4:b.e = e) (dtr:b.tr = true) (o1:len = b.rows.length)
  (hu:Rs w E u (.v (.one (.hs tb 0 1)))) (hbt:A0 tb s.boxes = some bt) (t1:bt.sz = ei.size) (t2:bt.tr = false) (t3:bt.rows = [row]) (t4:row.all C.okT = true) (t5:∀ c ∈ row,c.men hh = false)
  (o2:(len + 1) * ei.bytes <= 140737488355328) (hmv:hh < 1000 \/ Γ.K.mv.contains hh = true) :
  ∃ u' w' E',(Builtin.append_ #[t,t] ty #[v,u]).run P w = .ok u' w' /\ Rs w' E' u' (.v (.one (.hs hh 0 (len + 1)))) /\ A6 Γ w' E' (s.app hh { b with hf:=row.all Bt,rows:=b.rows ++ [row] }) tmps:=by
 obtain ⟨gt,zt,capt,adt,hβt,hcapt,hadt,rfl⟩:=hu.hs_inv;obtain ⟨rfl,hatt,_,_⟩:=hs.box hbt hβt;obtain ⟨arrt,s1,s2,s3,s4,s5,s6,_,_,_⟩:=hatt t2;obtain rfl:=hadt (.inr rfl)
 have hrl:row.length = ei.size:=by rw [<- t1];exact s5 0 row (by rw [t3];rfl)
 have hin:ei.size <= arrt.size:=by
  rw [s2,<- t1]
  have:1 * bt.sz <= capt * bt.sz:=XQ _ (by rw [t3] at s3;simpa using s3)
  omega
 let vs:List Value:=arrt.toList.take ei.size
 have hvl:vs.length = [row].length * ei.size:=by simp only [vs,YQ,JX,List.length_singleton];omega
 have hvget:∀ (j:Nat) u,vs[j]? = some u->arrt[j]? = some u:=fun j u hj=>by
  simp only [vs] at hj;rw [XC] at hj;split at hj
  . rwa [XX] at hj
  . cases hj
 have hcellt:∀ (j:Nat) (c:C),row[j]? = some c->∃ u,vs[j]? = some u /\ Rc w E u c:=by
  intro j c hj
  obtain ⟨u,hu1,hu2⟩:=s6 0 row j c (by rw [t3];rfl) hj
  refine ⟨u,?_,hu2⟩;have hjl:=(QO.1 hj).1;simp only [vs]
  rw [XC,QL (by omega),XX]
  simpa using hu1
 have hvc:∀ (j:Nat) u,vs[j]? = some u->w.cell? ((⟨gt,0 * bt.sz,none⟩:Addr).add j) = some u:=by
  intro j u hj;have:=hvget j u hj;rw [Fh];simp [World.cell?,s1,this]
 have hone:∀ u ∈ vs,u.oneCell' = true:=by
  intro u hu;obtain ⟨j,hj⟩:=Qan.1 hu
  have hjl:j < row.length:=by have:=(QO.1 hj).1;rw [hvl] at this;simp at this;omega
  obtain ⟨u',h1,h2⟩:=hcellt j _ (QN hjl);rw [hj] at h1;obtain rfl:=QA h1;exact h2.oneCell
 obtain ⟨g,z,cap,ad0,hβ,hcap,had,rfl⟩:=hv.hs_inv;obtain ⟨g',cap',hβ',⟨arr,hg,hsz',hl,hm,hlen,hcell,hhf,hA,hT'⟩,hω,hS⟩:=hs.boxes hh b hb
 have e0:z = b.sz /\ g' = g /\ cap' = cap:=by rw [hβ] at hβ';simp only [QD,QG] at hβ';exact ⟨hβ'.2.1,hβ'.1.symm,hβ'.2.2.symm⟩
 obtain ⟨rfl,rfl,rfl⟩:=e0;obtain rfl:=had (.inr rfl);obtain ⟨hs0,hmen⟩:=hs.kill hh;have hs1:=hs0.killB hh
 have hbk:A0 hh (killB hh s.boxes) = some b:=by rw [Dc,hb];exact XR some (Ib d2)
 have hfull:len * ei.size <= arr.size:=by rw [hsz',d1,o1];exact XQ _ hl
 have holdlt:∀ (i:Nat) (r:List C) (j:Nat) (c:C),b.rows[i]? = some r->r[j]? = some c->i * ei.size + j < len * ei.size:=by
  intro i r j c hi hj;have hil:i < b.rows.length:=(QO.1 hi).1
  have hjl:j < b.sz:=by rw [<- hlen i r hi];exact (QO.1 hj).1
  have:(i + 1) * ei.size <= len * ei.size:=XQ _ (by omega)
  rw [YK,JE] at this;omega
 have hxs:∀ n,n < len * ei.size->(arr.toList.take (len * ei.size))[n]? = arr[n]?:=fun n hn=>by rw [XC,QL hn,XX]
 have hcel:∀ n,w.cell? ⟨g',n,none⟩ = arr[n]?:=fun n=>by simp [World.cell?,hg]
 have hS':=hS dtr
 obtain ⟨u',w',E',e1,e2,e3⟩:=A20 (ty:=ty) hT hs1 hd hei c1 c2 (h:=hh) (n:=len) (v:=.slice (some ⟨g',0 * b.sz,none⟩) len (cap' - 0)) (u:=.slice (some ⟨gt,0 * bt.sz,none⟩) 1 (capt - 0)) (olds:=b.rows) (news:=[row]) (b':={ b with hf:=row.all Bt,rows:=b.rows ++ [row] })
  ⟨d4,d1,fun h i r j c hi hj=>by
   by_cases hlt:i < b.rows.length
   . rw [QW hlt] at hi;exact hhf d2 i r j c hi hj
   . rw [QZ (by omega)] at hi
     have hi0:i - b.rows.length = 0:=by have:=(QO.1 hi).1;simp at this;omega
     rw [hi0] at hi;simp at hi;subst hi
     exact Tu h hj,d3,rfl⟩ o1.symm (arr.toList.take (len * ei.size))
  ⟨by simp [hfull],.inr ⟨g',cap',arr,by simp,KD _,by rw [<- d4];exact hg,by omega,hm,by rw [hsz',d1],rfl⟩⟩
  (.inr ⟨g',cap',b,hbk,d3,by rw [<- d1];exact hβ,by simp⟩) (fun i r hi=>by rw [<- d1];exact hlen i r hi)
  (fun i r j c hi hj=>by
   obtain ⟨u,hu',hr⟩:=hcell i r j c hi hj;obtain ⟨y,rfl⟩:=hhf d2 i r j c hi hj
   exact ⟨u,by rw [hxs _ (holdlt i r j _ hi hj),<- d1];exact hu',hr,rfl⟩)
  (fun _=>⟨fun i r j y len' cp a h1 h2 h3 h4 h5=>hS'.1 i r j y len' cp a h1 h2 h3 (by rw [hcel,d1,<- hxs _ (holdlt i r j _ h1 h2)];exact h4) h5,
   fun i r j y i' r' j' y' len1 len2 cp cp' a a' h1 h2 h3 h1' h2' h3' hn h4 h4' h5 h5'=>hS'.2.1 i r j y i' r' j' y' len1 len2 cp cp' a a' h1 h2 h3 h1' h2' h3' hn (by rw [hcel,d1,<- hxs _ (holdlt i r j _ h1 h2)];exact h4) (by rw [hcel,d1,<- hxs _ (holdlt i' r' j' _ h1' h2')];exact h4') h5 h5',
   fun i r j y len' cp a h1 h2 h3 h4 h5=>hS'.2.2 i r j y len' cp a h1 h2 h3 (by rw [hcel,d1,<- hxs _ (holdlt i r j _ h1 h2)];exact h4) h5⟩)
  ⟨gt,0 * bt.sz,none⟩ (capt - 0) vs rfl hvl hvc (fun i r hi=>by
   have hi0:i = 0:=by have:=(QO.1 hi).1;simp at this;omega
   subst hi0;simp at hi;subst hi;exact hrl)
  (fun i r j c hi hj=>by
   have hi0:i = 0:=by have:=(QO.1 hi).1;simp at this;omega
   subst hi0;simp at hi;subst hi;obtain ⟨u,h1,h2⟩:=hcellt j c hj
   exact ⟨u,by simpa using h1,h2,t5 c (QU hj),fun _=>QM.1 t4 c (QU hj)⟩) hone (by simpa using o2) hmv
  (.inr ⟨hmen,fun i b' hi hb'=>by obtain ⟨b0,_,rfl⟩:=QB.1 ((Dc hh i s.boxes) ▸ hb');exact Abd hh b0⟩)
 exact ⟨u',w',E',e1,e2,e3⟩
end Go.Ev

/- DERIVED. Trees: a slice of a tree becomes a box of its own again; what a tree's cells read. -/
namespace Go.Ev
open Go
variable {P:Program} {T:Ty}
def I.flatSl:I->Prop
 | .lit _=>True
 | .sl tag _ _ zs=>tag = 0 /\ ∀ (i:Nat) (q:List I) (j:Nat) (y:I),zs[i]? = some q->q[j]? = some y->∃ v,y = .lit v
 | _=>False
theorem A49 {Γ:Ctx} {w:World} {E:Env} {s:St} {tmps:Array Value} (hs:A6 Γ w E s tmps) {h k row col:Nat} {b:Box} {r:List C} {ys:List (List I)}
  (hb:A0 h s.boxes = some b) (htr:b.tr = true) (hfz:b.fz = false) (hk:2000 <= k) (hkn:A0 k s.boxes = none)
  (hr:b.rows[row]? = some r) (hc:r[col]? = some (.i (.sl 0 false 1 ys))) (hne:ys ≠ [])
  (hflat:∀ (i:Nat) (q:List C) (j:Nat) (y:I),b.rows[i]? = some q->q[j]? = some (.i y)->y.flatSl) :
  ∃ E',A6 Γ w E' { s with boxes:=Ag k ⟨Ct,1,true,false,ys.map (·.map .i),false⟩ (Ag h { b with hf:=false,rows:=b.rows.set row (r.set col (.hs k 0 ys.length)) } s.boxes) } tmps:=by
 have hlit:=(hflat row r col _ hr hc).2;obtain ⟨g,cap,hβ,⟨arr,a1,a2,a3,a4,a5,a6,a7,a8,a9⟩,hω,hS⟩:=hs.boxes h b hb;have hS:=hS htr
 have hkh:h ≠ k:=fun e=>by subst e;rw [hb] at hkn;cases hkn
 have βk:E.β k = none:=by
  cases e:E.β k with
  | none=>rfl
  | some x=>have:=hs.dom k x e;rw [hkn] at this;cases this
 have hrl:row < b.rows.length:=(QO.1 hr).1;have hcl:col < r.length:=(QO.1 hc).1
 have cellOf:∀ i j v,arr[i * b.sz + j]? = some v->w.cell? ⟨g,i * b.sz + j,none⟩ = some v:=fun i j v h=>by simp [World.cell?,a1,h]
 obtain ⟨v0,hv0,hrv0⟩:=a6 row r col _ hr hc;rw [htr] at hrv0
 have hrv0:Ri w (E.rd h true) v0 (.sl 0 false 1 ys):=by cases hrv0 with | i h=>exact h
 have hsl:∃ g1 cap1 arr1,v0 = .slice (some ⟨g1,0,none⟩) ys.length cap1 /\ E.ω g1 = some h /\ w.heap[g1]? = some (.cells arr1 Ct (0,0)) /\ arr1.size = cap1 /\ cap1 <= maxLen /\ ys.length <= cap1 /\
   (∀ (i:Nat) (q:List I),ys[i]? = some q->q.length = 1) /\ ∀ (i:Nat) (q:List I) (j:Nat) (y:I),ys[i]? = some q->q[j]? = some y->∃ v,arr1[i * 1 + j]? = some v /\ Ri w E v y:=by
  cases hrv0 with
  | nil=>exact absurd rfl hne
  | sl _ _ g1 o cap1 _ vs hne' hcap hg hbk hlen hcell hrc =>
   have hpos:0 < ys.length:=ZY.2 hne;have h1:=hS.1 row r col _ _ _ _ hr hc rfl (cellOf _ _ _ hv0) hpos;obtain ⟨ar,e1,e2,e3,e4⟩:=hS.2.2 row r col _ _ _ _ hr hc rfl (cellOf _ _ _ hv0) hpos
   have ho:o = 0:=by simpa using e1
   subst ho;refine ⟨g1,cap1,ar,rfl,h1,e2,e3,e4,hcap,hlen,fun i q j y hi hj=>?_⟩;have h2:=hcell i q j y hi hj;obtain ⟨u,rfl⟩:=hlit i q j y hi hj;have h3:=hrc i q j _ hi hj;generalize vs i j = u' at h2 h3;refine ⟨u',?_,?_⟩
   . have e2':w.heap[g1]? = some (.cells ar Ct (0,0)):=e2;simpa [World.cell?,e2'] using h2
   . cases h3 with | lit _ hx=>exact .lit _ hx
 obtain ⟨g1,cap1,arr1,rfl,hω1,hh1,hsz1,hmx1,hle1,hlen1,hcell1⟩:=hsl;have hom:=hs.wf.om g1 h hω1
 have gne:∀ j b' gj z,A0 j s.boxes = some b'->E.β j = some (gj,z)->gj ≠ g1:=fun j b' gj z hj hz e=>by
  obtain ⟨_,_,_,_,_,_,hω'⟩:=(hs.boxes j b' hj).facts hz;rw [e,hω1] at hω';cases hω'
 let E':Env:={ A:=E.A,τ:=E.τ,β:=fun j=>if j = k then some (g1,1,cap1) else E.β j,ω:=fun x=>if x = g1 then none else E.ω x }
 have β':∀ j,j ≠ k->E'.β j = E.β j:=fun j hj=>QK hj;have βk':E'.β k = some (g1,1,cap1):=QL rfl;have ωn:∀ x,x ≠ g1->E'.ω x = E.ω x:=fun x hx=>QK hx;have ωg:E'.ω g1 = none:=QL rfl
 have ωs:∀ x j,E'.ω x = some j->x ≠ g1 /\ E.ω x = some j:=fun x j hx=>by
  by_cases e:x = g1
  . subst e;rw [ωg] at hx;cases hx
  . exact ⟨e,(ωn x e).symm.trans hx⟩
 have βu:∀ j x,E.β j = some x->E'.β j = some x:=fun j x hx=>by
  by_cases e:j = k
  . subst e;rw [βk] at hx;cases hx
  . exact (β' j e).trans hx
 have kk:Bo w w E E':=⟨QY _,fun _ _ _ h=>h,βu,fun _ _ _ _ _ h=>h⟩
 have kr:∀ j tr,j ≠ h->Bo w w (E.rd j tr) (E'.rd j tr):=by
  intro j tr hj
  cases tr with
  | false=>exact kk
  | true =>
   refine ⟨QY _,fun tag x _ hx=>?_,βu,fun _ _ _ _ _ h=>h⟩;unfold Env.blk at hx ⊢;split
   . rename_i e;rw [QL e] at hx
     rintro ⟨h1,h2⟩
     refine hx ⟨h1,fun h3=>?_⟩;by_cases hxg:x = g1
     . subst hxg;rw [hω1] at h3;exact hj (QA h3).symm
     . exact h2 (by rw [ωn x hxg];exact h3)
   . rename_i e;rw [QK e] at hx;exact hx
 have hω':E'.ω g = none:=by rw [ωn g (gne h b g _ hb hβ)];exact hω
 have newc:∀ (i:Nat) (q:List C) (j:Nat) (c:C),(b.rows.set row (r.set col (.hs k 0 ys.length)))[i]? = some q->q[j]? = some c->(i = row /\ j = col /\ c = .hs k 0 ys.length) \/ (¬ (i = row /\ j = col) /\ ∃ q0,b.rows[i]? = some q0 /\ q0[j]? = some c):=by
  intro i q j c hi hj;by_cases e:i = row
  . subst e;rw [ZP hrl] at hi;obtain rfl:=QA hi;by_cases e2:j = col
    . subst e2;rw [ZP hcl] at hj;exact .inl ⟨rfl,rfl,(QA hj).symm⟩
    . rw [ZT (Ne.symm e2)] at hj;exact .inr ⟨fun h=>e2 h.2,r,hr,hj⟩
  . rw [ZT (Ne.symm e)] at hi;exact .inr ⟨fun h=>e h.1,q,hi,hj⟩
 have lk:∀ j b',A0 j (Ag k ⟨Ct,1,true,false,ys.map (·.map .i),false⟩ (Ag h { b with hf:=false,rows:=b.rows.set row (r.set col (.hs k 0 ys.length)) } s.boxes)) = some b' ->
   (j = k /\ b' = ⟨Ct,1,true,false,ys.map (·.map .i),false⟩) \/ (j ≠ k /\ ((j = h /\ b' = { b with hf:=false,rows:=b.rows.set row (r.set col (.hs k 0 ys.length)) }) \/ (j ≠ h /\ A0 j s.boxes = some b'))):=by
  intro j b' hj;by_cases e:j = k
  . subst e;rw [A7] at hj;exact .inl ⟨rfl,(QA hj).symm⟩
  . rw [A8 _ _ e] at hj;by_cases e2:j = h
    . subst e2;rw [A7] at hj;exact .inr ⟨e,.inl ⟨rfl,(QA hj).symm⟩⟩
    . rw [A8 _ _ e2] at hj;exact .inr ⟨e,.inr ⟨e2,hj⟩⟩
 have lko:∀ j b',j ≠ k->A0 j (Ag k ⟨Ct,1,true,false,ys.map (·.map .i),false⟩ (Ag h { b with hf:=false,rows:=b.rows.set row (r.set col (.hs k 0 ys.length)) } s.boxes)) = some b'->∃ b0,A0 j s.boxes = some b0 /\ b0.fz = b'.fz:=by
  intro j b' hjk hj;rcases lk j b' hj with ⟨e,_⟩ | ⟨_,⟨rfl,rfl⟩ | ⟨_,h2⟩⟩
  . exact absurd e hjk
  . exact ⟨b,hb,rfl⟩
  . exact ⟨b',h2,rfl⟩
 refine ⟨E',hs.fr,⟨hs.wf.alt,hs.wf.tag,hs.wf.inj,fun x j hx=>hs.wf.om x j (ωs x j hx).2⟩,hs.old,hs.nt,hs.tag,hs.new,fun j b' hj=>?_,fun j j' b1 b2 ga gb z1 z2 h1 h2 hz1 hz2 hjj=>?_,fun j b2 g2 z2 h2 hz2=>?_,fun t x hx=>(hs.slots t x hx).keep kk,hs.tsize,fun j x hx=>?_,fun j hj hj2 hm=>(β' j (by omega)).trans (hs.stay j hj hj2 hm),fun j b2 g2 z2 h2 hz2 hf=>?_,hs.held,fun x j hx=>hs.tow x j (ωs x j hx).2⟩
 . rcases lk j b' hj with ⟨rfl,rfl⟩ | ⟨hjk,⟨rfl,rfl⟩ | ⟨hjh,hj⟩⟩
   . refine ⟨g1,cap1,βk',⟨arr1,hh1,by simpa using hsz1,by simpa using hle1,hmx1,fun i q hi=>?_,fun i q j' c hi hj'=>?_,fun _ i q j' c hi hj'=>?_,fun _=>hom.1,hom.2.1⟩,ωg,(fun e=>by cases e)⟩
     . rw [QJ] at hi;obtain ⟨q0,hq,rfl⟩:=QB.1 hi;simpa using hlen1 i q0 hq
     . rw [QJ] at hi;obtain ⟨q0,hq,rfl⟩:=QB.1 hi;rw [QJ] at hj';obtain ⟨y,hy,rfl⟩:=QB.1 hj';obtain ⟨v,e1,e2⟩:=hcell1 i q0 j' y hq hy;exact ⟨v,e1,(Rc.i e2).keep kk⟩
     . rw [QJ] at hi;obtain ⟨q0,hq,rfl⟩:=QB.1 hi;rw [QJ] at hj';obtain ⟨y,hy,rfl⟩:=QB.1 hj';exact ⟨y,rfl⟩
   . refine ⟨g,cap,(β' j hjk).trans hβ,⟨arr,a1,a2,by simpa using a3,a4,fun i q hi=>?_,fun i q j' c hi hj'=>?_,(fun e=>by cases e),fun e=>(Env.rd_A hω').2 ((Env.rd_A hω).1 (a8 e)),by rw [Env.rd_τ] at a9 ⊢;exact a9⟩,hω',fun _=>?_⟩
     . by_cases e:i = row
       . subst e;simp only at hi;rw [ZP hrl] at hi;obtain rfl:=QA hi;rw [JK];exact a5 i r hr
       . simp only at hi;rw [ZT (Ne.symm e)] at hi;exact a5 i q hi
     . show ∃ v,arr[i * b.sz + j']? = some v /\ Rc w (E'.rd j b.tr) v c;rcases newc i q j' c hi hj' with ⟨rfl,rfl,rfl⟩ | ⟨hn,q0,h1,h2⟩
       . refine ⟨_,hv0,?_⟩
         have:=Rc.hs (w:=w) (E:=E'.rd j b.tr) k 0 ys.length g1 1 cap1 ⟨g1,0,none⟩ (by rw [Env.rd_β];exact βk') (by omega) (fun _=>by simp)
         simpa using this
       . obtain ⟨v,hv1,hv2⟩:=a6 i q0 j' c h1 h2;refine ⟨v,hv1,?_⟩;rw [htr] at hv2 ⊢
         cases hv2 with
         | hs h' off len g2 sz cap2 ad hβ2 hle2 had=>exact .hs h' off len g2 sz cap2 ad (βu _ _ hβ2) hle2 had
         | hp h' row' col' g2 sz cap2 hβ2=>exact .hp h' row' col' g2 sz cap2 (βu _ _ hβ2)
         | i hri =>
          have hfl:=hflat i q0 j' _ h1 h2
          cases hri with
          | lit _ hx=>exact .i (.lit _ hx)
          | nil tag sz cp a nl hn1 hc1=>exact .i (.nil tag sz cp a nl hn1 hc1)
          | sl tag sz g2 o cap2 zs vs hne2 hcap2 hg2 hbk2 hlen2 hcell2 hrc2 =>
           obtain ⟨rfl,hl2⟩:=hfl
           have hg12:g2 ≠ g1:=by
            have:=hS.2.1 i q0 j' _ row r col _ _ _ _ _ _ _ h1 h2 rfl hr hc rfl hn (cellOf _ _ _ hv1) (cellOf _ _ _ hv0) (ZY.2 hne2) (ZY.2 hne);exact this
           refine .i (.sl 0 sz g2 o cap2 zs vs hne2 hcap2 hg2 ?_ hlen2 hcell2 fun i2 q2 j2 y2 e1 e2=>?_)
           . unfold Env.blk at hbk2 ⊢;rw [QL rfl] at hbk2 ⊢
             rintro ⟨x1,x2⟩
             exact hbk2 ⟨x1,fun x3=>x2 (by show E'.ω g2 = _;rw [ωn g2 hg12];exact x3)⟩
           . obtain ⟨u,rfl⟩:=hl2 i2 q2 j2 y2 e1 e2;have:=hrc2 i2 q2 j2 _ e1 e2;generalize vs i2 j2 = u2 at this ⊢
             cases this with | lit _ hx=>exact .lit _ hx
          | ref=>exact hfl.elim
          | fn=>exact hfl.elim
          | any=>exact hfl.elim
     . have back : ∀ (i : Nat) (q : List C) (j' : Nat) (y : I), (b.rows.set row (r.set col (.hs k 0 ys.length)))[i]? = some q -> q[j']? = some (.i y) -> ¬ (i = row /\ j' = col) /\ ∃ q0, b.rows[i]? = some q0 /\ q0[j']? = some (.i y) := by
        intro i q j' y h1 h2;rcases newc i q j' _ h1 h2 with ⟨_,_,e⟩ | e
        . cases e
        . exact e
       refine ⟨fun i q j' y len' cp a h1 h2 h3 h4 h5=>?_,fun i q j1 y i' q' j2 y' len1 len2 cp cp' a a' h1 h2 h3 h1' h2' h3' hn h4 h4' h5 h5'=>?_,fun i q j' y len' cp a h1 h2 h3 h4 h5=>?_⟩
       . obtain ⟨hn,q0,e1,e2⟩:=back i q j' y h1 h2;have hne2:=hS.2.1 i q0 j' _ row r col _ _ _ _ _ _ _ e1 e2 h3 hr hc rfl hn h4 (cellOf _ _ _ hv0) h5 (ZY.2 hne);show E'.ω a.block = _;rw [ωn _ hne2];exact hS.1 i q0 j' y len' cp a e1 e2 h3 h4 h5
       . obtain ⟨_,q0,e1,e2⟩:=back i q j1 y h1 h2;obtain ⟨_,q1,e3,e4⟩:=back i' q' j2 y' h1' h2';exact hS.2.1 i q0 j1 y i' q1 j2 y' len1 len2 cp cp' a a' e1 e2 h3 e3 e4 h3' hn h4 h4' h5 h5'
       . obtain ⟨_,q0,e1,e2⟩:=back i q j' y h1 h2;exact hS.2.2 i q0 j' y len' cp a e1 e2 h3 h4 h5
   . obtain ⟨gj,capj,hβj,⟨arr',c1,c2,c3,c4,c5,c6,c7,c8,c9⟩,hωj,hSj⟩:=hs.boxes j b' hj
     have hωj':E'.ω gj = none:=by rw [ωn gj (gne j b' gj _ hj hβj)];exact hωj
     refine ⟨gj,capj,βu _ _ hβj,⟨arr',c1,c2,c3,c4,c5,fun i q j' c hi hj'=>?_,c7,fun e=>(Env.rd_A hωj').2 ((Env.rd_A hωj).1 (c8 e)),by rw [Env.rd_τ] at c9 ⊢;exact c9⟩,hωj',fun e=>(hSj e).keep rfl fun b2 hb2=>⟨?_,rfl⟩⟩
     . obtain ⟨v,hv1,hv2⟩:=c6 i q j' c hi hj';exact ⟨v,hv1,hv2.keep (kr j b'.tr hjh)⟩
     . by_cases e2:b2 = g1
       . subst e2;rw [hω1] at hb2;exact absurd (QA hb2).symm hjh
       . rw [ωn b2 e2];exact hb2
 . by_cases e:j = k
   . subst e;obtain ⟨rfl,rfl⟩:=KE (QA (βk'.symm.trans hz1));obtain ⟨b4,l2,_⟩:=lko j' b2 (Ne.symm hjj) h2;exact (gne j' b4 gb z2 l2 ((β' j' (Ne.symm hjj)).symm.trans hz2)).symm
   . obtain ⟨b3,l1,_⟩:=lko j b1 e h1;by_cases e':j' = k
     . subst e';obtain ⟨rfl,rfl⟩:=KE (QA (βk'.symm.trans hz2));exact gne j b3 ga z1 l1 ((β' j e).symm.trans hz1)
     . obtain ⟨b4,l2,_⟩:=lko j' b2 e' h2;exact hs.inj j j' b3 b4 ga gb z1 z2 l1 l2 ((β' j e).symm.trans hz1) ((β' j' e').symm.trans hz2) hjj
 . by_cases e:j = k
   . subst e;obtain ⟨rfl,rfl⟩:=KE (QA (βk'.symm.trans hz2));rcases hs.tow g1 h hω1 with x | x
     . exact .inl x
     . refine .inr ⟨x,?_,by omega⟩
       rw [A7] at h2;rw [<- QA h2]
   . obtain ⟨b3,l1,l2⟩:=lko j b2 e h2;rw [<- l2];exact hs.own j b3 g2 z2 l1 ((β' j e).symm.trans hz2)
 . by_cases e:j = k
   . subst e;rw [A7];rfl
   . rw [A8 _ _ e];by_cases e2:j = h
     . subst e2;rw [A7];rfl
     . rw [A8 _ _ e2];exact hs.dom j x ((β' j e).symm.trans hx)
 . by_cases e:j = k
   . subst e;rw [A7] at h2;rw [<- QA h2] at hf
     cases hf
   . obtain ⟨b3,l1,l2⟩:=lko j b2 e h2;exact hs.fzn j b3 g2 z2 l1 ((β' j e).symm.trans hz2) (l2.trans hf)
end Go.Ev

/- DERIVED. A box under another handle. -/
namespace Go.Ev
open Go
def Sk (a b k:Nat):Nat:=bif Nat.beq k a then b else k
theorem Aje (a b:Nat):Sk a b a = b:=by simp [Sk]
theorem Nw {a b k:Nat} (h:k ≠ a):Sk a b k = k:=by
 have:Nat.beq k a = false:=by cases hb:Nat.beq k a with | false=>rfl | true=>exact absurd (QC hb) h
 simp [Sk,this]
section
variable {w:World} {E E':Env} {σ:Nat->Nat}
theorem Rc.ren2 (kI:∀ v y,Ri w E v y->Ri w E' v y) (hβ:∀ k y,E.β k = some y->E'.β (σ k) = some y) {v:Value} {c:C} (h:Rc w E v c):Rc w E' v (c.ren σ):=by
 cases h with
 | i h=>exact .i (kI _ _ h)
 | hs h off len g sz cap ad hb hle had=>exact .hs (σ h) off len g sz cap ad (hβ _ _ hb) hle had
 | hp h row col g sz cap hb=>exact .hp (σ h) row col g sz cap (hβ _ _ hb)
theorem Rv.ren2 (kI:∀ v y,Ri w E v y->Ri w E' v y) (hβ:∀ k y,E.β k = some y->E'.β (σ k) = some y) {v:Value} {x:V} (h:Rv w E v x):Rv w E' v (x.ren σ):=by
 cases h with
 | one h=>exact .one (h.ren2 kI hβ)
 | @agg vs cs h =>
  refine .agg ⟨by simp [h.1],fun j v c hv hc=>?_⟩
  rw [QJ,QB] at hc;obtain ⟨c0,hc0,rfl⟩:=hc;exact (h.2 j v c0 hv hc0).ren2 kI hβ
theorem Rs.ren2 (kI:∀ v y,Ri w E v y->Ri w E' v y) (hβ:∀ k y,E.β k = some y->E'.β (σ k) = some y) {v:Value} {x:S} (h:Rs w E v x):Rs w E' v (x.ren σ):=by
 cases h with
 | v h=>exact .v (h.ren2 kI hβ)
 | @tup vs xs h =>
  refine .tup ⟨by simp [h.1],fun j v c hv hc=>?_⟩
  rw [QJ,QB] at hc;obtain ⟨c0,hc0,rfl⟩:=hc;exact (h.2 j v c0 hv hc0).ren2 kI hβ
 | dead=>exact .dead
end
theorem C.ren_nomen {a b:Nat} {c:C} (h:c.men a = false):c.ren (Sk a b) = c:=by
 cases c with
 | i x=>rfl
 | hs k o l => have : k ≠ a := by intro e; subst e; simp [C.men] at h
               simp [C.ren,Nw this]
 | hp k r q => have : k ≠ a := by intro e; subst e; simp [C.men] at h
               simp [C.ren,Nw this]
theorem Au7 {s:St} {a b:Nat} {sl:List (Nat × S)} {bx:List (Nat × Box)} (ha:a < 1000) (hb:b < 1000) (hne:a ≠ b) (hfree:A0 b s.boxes = none)
  (hsl:∀ t x,A0 t sl = some x->∃ y,A0 t s.slots = some y /\ x = y.ren (Sk a b))
  (hbx:∀ k,A0 k bx = if k = b then A0 a s.boxes else if k = a then none else A0 k s.boxes)
  (hno:∀ k x,A0 k s.boxes = some x->∀ (i:Nat) (r:List C) (j:Nat) (c:C),x.rows[i]? = some r->r[j]? = some c->c.men a = false) :
  Bs s { s with slots:=sl,boxes:=bx }:=fun Γ w E tmps hs=>by
 let E':Env:={ E with β:=fun k=>if k = b then E.β a else if k = a then none else E.β k,ω:=fun g=>if E.ω g = some a then some b else E.ω g }
 have eb:E.β b = none:=by
  cases h:E.β b with
  | none=>rfl
  | some x=>have:=hs.dom b x h;rw [hfree] at this;cases this
 have hβ:∀ k y,E.β k = some y->E'.β (Sk a b k) = some y:=by
  intro k y hy;by_cases e:k = a
  . subst e;rw [Aje];show (if b = b then E.β k else _) = _;rw [QL rfl,hy]
  . rw [Nw e]
    have e2:k ≠ b:=by intro h;subst h;rw [eb] at hy;cases hy
    show (if k = b then _ else if k = a then _ else E.β k) = _
    rw [QK e2,QK e,hy]
 have back:∀ k y,E'.β k = some y->(k = b /\ E.β a = some y) \/ (k ≠ b /\ k ≠ a /\ E.β k = some y):=by
  intro k y hy
  have hy:(if k = b then E.β a else if k = a then none else E.β k) = some y:=hy
  by_cases e:k = b
  . rw [QL e] at hy;exact .inl ⟨e,hy⟩
  . rw [QK e] at hy;by_cases e2:k = a
    . rw [QL e2] at hy;cases hy
    . rw [QK e2] at hy;exact .inr ⟨e,e2,hy⟩
 have lb:∀ k x,A0 k bx = some x->(k = b /\ A0 a s.boxes = some x) \/ (k ≠ b /\ k ≠ a /\ A0 k s.boxes = some x):=by
  intro k x hx;rw [hbx] at hx;by_cases e:k = b
  . rw [QL e] at hx;exact .inl ⟨e,hx⟩
  . rw [QK e] at hx;by_cases e2:k = a
    . rw [QL e2] at hx;cases hx
    . rw [QK e2] at hx;exact .inr ⟨e,e2,hx⟩
 have kI:∀ v y,Ri w E v y->Ri w E' v y:=fun v y h=>Ri.keepI (w:=w) (w':=w) (E:=E) (E':=E') (QY _) (fun _ _ _ h=>h) (fun _ _ _ _ _ h=>h) h
 have hω:∀ g h,E'.ω g = some h->∃ h',E.ω g = some h':=by
  intro g h hh
  have hh:(if E.ω g = some a then some b else E.ω g) = some h:=hh
  by_cases e:E.ω g = some a
  . exact ⟨_,e⟩
  . rw [QK e] at hh;exact ⟨_,hh⟩
 refine ⟨E',hs.fr,⟨hs.wf.alt,hs.wf.tag,hs.wf.inj,fun g h hh=>?_⟩,hs.old,hs.nt,hs.tag,hs.new,fun k x hx=>?_,fun k k' x x' g g' z z' hx hx' hz hz' hkk=>?_,fun k x g z hx hz=>?_,fun t x hx=>?_,hs.tsize,fun k x hx=>?_,fun k hk hk2 hm=>?_,fun k x g z hx hz hf=>?_,hs.held,fun g h hh=>?_⟩
 . obtain ⟨h',e⟩:=hω g h hh;exact hs.wf.om g h' e
 . -- the boxes
   have key:∀ k0,A0 k0 s.boxes = some x->(∀ y,E.β k0 = some y->E'.β k = some y)->(∀ g,E.ω g = none->E'.ω g = none) ->
     (∀ g,E.ω g = some k0->E'.ω g = some k)->(∀ g,E'.ω g ≠ some k->E.ω g ≠ some k0)->Eb w E' k x:=by
    intro k0 hk0 h1 h2 h3 h4;obtain ⟨g,cap,hβ0,⟨arr,a1,a2,a3,a4,a5,a6,a7,a8,a9⟩,ho,hS⟩:=hs.boxes k0 x hk0
    have kI2:∀ v y,Ri w (E.rd k0 x.tr) v y->Ri w (E'.rd k x.tr) v y:=fun v y h=>by
     cases htr:x.tr with
     | false=>rw [htr] at h;exact kI v y h
     | true =>
      rw [htr] at h
      have kb:∀ tag g,(E.rd k0 true).blk tag g->(E'.rd k true).blk tag g:=fun tag g hb=>by
       unfold Env.blk at hb ⊢;by_cases e:tag = 0
       . rw [QL e] at hb ⊢;exact fun ⟨q1,q2⟩=>hb ⟨q1,h4 g q2⟩
       . rw [QK e] at hb ⊢;exact hb
      exact h.keepI (QY _) (fun tag g _ hb=>kb tag g hb) fun tag g o v hb hc=>hc
    have hβ2:∀ k1 y,(E.rd k0 x.tr).β k1 = some y->(E'.rd k x.tr).β (Sk a b k1) = some y:=fun k1 y hy=>by
     rw [Env.rd_β] at hy ⊢;exact hβ k1 y hy
    refine ⟨g,cap,h1 _ hβ0,⟨arr,a1,a2,a3,a4,a5,fun i r j c hi hj=>?_,a7,fun e=>?_,?_⟩,h2 g ho,fun htr=>?_⟩
    . obtain ⟨v,hv,hr⟩:=a6 i r j c hi hj;have:=hr.ren2 kI2 hβ2;rw [C.ren_nomen (hno k0 x hk0 i r j c hi hj)] at this;exact ⟨v,hv,this⟩
    . exact (Env.rd_A (E:=E') (h2 g ho)).2 ((Env.rd_A (E:=E) ho).1 (a8 e))
    . rw [Env.rd_τ] at a9 ⊢;exact a9
    . obtain ⟨s1,s2,s3⟩:=hS htr;exact ⟨fun i r j y len cap a hi hj hy hc hl=>h3 _ (s1 i r j y len cap a hi hj hy hc hl),s2,s3⟩
   have on:∀ g,E.ω g = none->E'.ω g = none:=fun g h=>by
    show (if E.ω g = some a then some b else E.ω g) = none
    rw [h];rfl
   rcases lb k x hx with ⟨rfl,h0⟩ | ⟨h1,h2,h0⟩
   . refine key a h0 (fun y hy=>by have:=hβ a y hy;rwa [Aje] at this) on (fun g h=>?_) (fun g h e=>h ?_)
     . show (if E.ω g = some a then some k else E.ω g) = some k
       rw [QL h]
     . show (if E.ω g = some a then some k else E.ω g) = some k
       rw [QL e]
   . refine key k h0 (fun y hy=>by have:=hβ k y hy;rwa [Nw h2] at this) on (fun g h=>?_) (fun g h e=>h ?_)
     . show (if E.ω g = some a then some b else E.ω g) = some k
       rw [QK (by rw [h];intro e;exact h2 (QA e)),h]
     . show (if E.ω g = some a then some b else E.ω g) = some k
       rw [QK (by rw [e];intro e;exact h2 (QA e)),e]
 . rcases lb k x hx with ⟨rfl,h0⟩ | ⟨h1,h2,h0⟩ <;> rcases lb k' x' hx' with ⟨rfl,h0'⟩ | ⟨h1',h2',h0'⟩ <;> rcases back _ _ hz with ⟨e,b1⟩ | ⟨b1,b2,b3⟩ <;> rcases back _ _ hz' with ⟨e',b1'⟩ | ⟨b1',b2',b3'⟩
   all_goals first
    | (exfalso;exact hkk rfl)
    | (exfalso;exact b1 rfl)
    | (exfalso;exact b1' rfl)
    | (exfalso;exact h1 e)
    | (exfalso;exact h1' e')
    | exact hs.inj _ _ _ _ _ _ _ _ h0 h0' b1 b3' (fun e=>h2' e.symm)
    | exact hs.inj _ _ _ _ _ _ _ _ h0 h0' b3 b1' h2
    | exact hs.inj _ _ _ _ _ _ _ _ h0 h0' b3 b3' hkk
 . rcases lb k x hx with ⟨rfl,h0⟩ | ⟨h1,h2,h0⟩ <;> rcases back _ _ hz with ⟨e,b1⟩ | ⟨b1,b2,b3⟩
   . rcases hs.own a x g z h0 b1 with h | ⟨_,_,h⟩
     . exact .inl h
     . omega
   . exact absurd rfl b1
   . exact absurd e h1
   . exact hs.own k x g z h0 b3
 . obtain ⟨y,hy,rfl⟩:=hsl t x hx;exact (hs.slots t y hy).ren2 kI hβ
 . rcases back _ _ hx with ⟨rfl,h⟩ | ⟨h1,h2,h⟩
   . show (A0 k bx).isSome = true;rw [hbx,QL rfl];exact hs.dom a x h
   . show (A0 k bx).isSome = true;rw [hbx,QK h1,QK h2];exact hs.dom k x h
 . show (if k = b then E.β a else if k = a then none else E.β k) = _
   rw [QK (by omega),QK (by omega)]
   exact hs.stay k hk hk2 hm
 . rcases lb k x hx with ⟨rfl,h0⟩ | ⟨h1,h2,h0⟩ <;> rcases back _ _ hz with ⟨e,b1⟩ | ⟨b1,b2,b3⟩
   . exact hs.fzn a x g z h0 b1 hf
   . exact absurd rfl b1
   . exact absurd e h1
   . exact hs.fzn k x g z h0 b3 hf
 . obtain ⟨h',e⟩:=hω g h hh;exact hs.tow g h' e
theorem A2c {ks:List Nat}:∀ {bs:List (Nat × Box)} {h:Nat},h ∉ ks->A0 h (At bs ks) = A0 h bs:=by
 induction ks with
 | nil=>intro bs h _;rfl
 | cons k r ih =>
  intro bs h hk;simp only [QT,not_or] at hk;simp only [At];rw [ih hk.2]
  cases hl:A0 k bs with
  | none=>rfl
  | some b=>exact A8 _ _ hk.1
theorem Au6 {s:St} {h row j:Nat} {b:Box} {r:List C} {c c':C} {obs:List Prop} {ks:List Nat} {hf':Bool} (hb:A0 h s.boxes = some b) (htr:b.tr = false) (hr:b.rows[row]? = some r) (hc:r[j]? = some c)
  (hcv:Ko (A0 · s.boxes) c c' = some (obs,ks)) (ho:∀ p ∈ obs,p) (hz:Fs s.boxes ks = true) (hk:h ∉ ks)
  (hhf:hf' = true->∀ (i:Nat) (q:List C) (l:Nat) (d:C),(b.rows.set row (r.set j c'))[i]? = some q->q[l]? = some d->∃ x,d = .i x) :
  Bs s { s with boxes:=Ag h { b with hf:=hf',rows:=b.rows.set row (r.set j c') } (At s.boxes ks) }:=fun Γ w E tmps hs=>by
 obtain ⟨E',hs',kk,_,_,hl⟩:=hs.freezes ks hz;obtain ⟨b1,hb1,r1,r2,r3,r4,r5,r6⟩:=hl h b hb
 have hfzn:b1.fz = b.fz:=by
  have:=A2c (ks:=ks) (bs:=s.boxes) hk;rw [this,hb] at hb1;rw [<- QA hb1]
 let nb:Box:={ b with hf:=hf',rows:=b.rows.set row (r.set j c') }
 have same:∀ k b',A0 k (Ag h nb (At s.boxes ks)) = some b'->∃ b0,A0 k (At s.boxes ks) = some b0 /\ b0.fz = b'.fz /\ b0.sz = b'.sz:=by
  intro k b' hb';by_cases e:k = h
  . subst e;rw [A7] at hb';obtain rfl:=QA hb';exact ⟨b1,hb1,hfzn,r2⟩
  . rw [A8 _ _ e] at hb';exact ⟨b',hb',rfl,rfl⟩
 have hcell:∃ g cap arr v,E.β h = some (g,b.sz,cap) /\ w.heap[g]? = some (.cells arr b.e (0,0)) /\ arr[row * b.sz + j]? = some v /\ Rc w E' v c':=by
  obtain ⟨g,cap,hβ,⟨arr,a1,a2,a3,a4,a5,a6,a7,a8,a9⟩,hω,hS⟩:=hs.boxes h b hb;obtain ⟨v,hv,hrc⟩:=a6 row r j c hr hc;rw [htr] at hrc
  exact ⟨g,cap,arr,v,hβ,a1,hv,Np (s:=s) (s':={ s with boxes:=At s.boxes ks }) hs' kk hrc hcv ho (fun k hk' b0 hb0=>by
   obtain ⟨b',q1,q2,q3,_,_,q6,q7⟩:=hl k b0 hb0
   exact ⟨b',q1,q2,q3,q6 hk',q7⟩)⟩
 obtain ⟨g0,cap0,arr0,v0,z1,z2,z3,z4⟩:=hcell;refine ⟨E',hs'.fr,hs'.wf,hs'.old,hs'.nt,hs'.tag,hs'.new,fun k b' hb'=>?_,fun k k' b b' g g' z z' hb hb' hz hz'=>?_,fun k b g z hb hz=>?_,hs'.slots,hs'.tsize,fun k x hx=>?_,hs'.stay,fun k b g z hb hz hf=>?_,hs'.held,hs'.tow⟩
 . by_cases e:k = h
   . subst e;rw [A7] at hb';obtain rfl:=QA hb';obtain ⟨g,cap,hβ,⟨arr,a1,a2,a3,a4,a5,a6,a7,a8,a9⟩,hω,hS⟩:=hs'.boxes k b1 hb1;have e1:=kk.β _ _ z1;rw [hβ] at e1
     obtain ⟨rfl,e2,rfl⟩:g = g0 /\ b1.sz = b.sz /\ cap = cap0:=by simpa using QA e1
     have htr1:b1.tr = false:=r6.trans htr;rw [htr1] at a6 a8 a9;have rl:row < b.rows.length:=(QO.1 hr).1;have jl:j < r.length:=(QO.1 hc).1
     have arreq:arr = arr0:=by rw [z2] at a1;exact (by simpa using QA a1:arr0 = arr /\ _).1.symm
     subst arreq
     refine ⟨g,cap,by rw [hβ,e2],⟨arr,z2,by show arr.size = cap * b.sz;rw [<- e2];exact a2,by show (b.rows.set row (r.set j c')).length <= cap;rw [JK,<- r1];exact a3,a4,fun i q hi=>?_,fun i q l d hi hd=>?_,hhf,?_,?_⟩,hω,fun h'=>by rw [show nb.tr = b.tr from rfl,htr] at h';cases h'⟩
     . show q.length = b.sz;have hi:(b.rows.set row (r.set j c'))[i]? = some q:=hi;by_cases e3:i = row
       . subst e3;rw [ZP rl] at hi;obtain rfl:=QA hi;rw [JK,<- e2]
         exact a5 i r (by rw [r1];exact hr)
       . rw [ZT (fun h=>e3 h.symm)] at hi;rw [<- e2]
         exact a5 i q (by rw [r1];exact hi)
     . rw [show nb.tr = b.tr from rfl,htr];have hi:(b.rows.set row (r.set j c'))[i]? = some q:=hi;show ∃ v,arr[i * b.sz + l]? = some v /\ Rc w E' v d;by_cases e3:i = row
       . subst e3;rw [ZP rl] at hi;obtain rfl:=QA hi;by_cases e4:l = j
         . subst e4;rw [ZP jl] at hd;obtain rfl:=QA hd;exact ⟨v0,z3,z4⟩
         . rw [ZT (fun h=>e4 h.symm)] at hd
           obtain ⟨v,p1,p2⟩:=a6 i r l d (by rw [r1];exact hr) hd
           exact ⟨v,by rw [<- e2];exact p1,p2⟩
       . rw [ZT (fun h=>e3 h.symm)] at hi
         obtain ⟨v,p1,p2⟩:=a6 i q l d (by rw [r1];exact hi) hd
         exact ⟨v,by rw [<- e2];exact p1,p2⟩
     . intro hf;rw [show nb.tr = b.tr from rfl,htr];exact a8 (hfzn.trans hf)
     . rw [show nb.tr = b.tr from rfl,htr];exact a9
   . rw [A8 _ _ e] at hb';exact hs'.boxes k b' hb'
 . obtain ⟨b0,h0,_⟩:=same k b hb;obtain ⟨b2,h2,_⟩:=same k' b' hb';exact hs'.inj k k' b0 b2 g g' z z' h0 h2 hz hz'
 . obtain ⟨b0,h0,h1,_⟩:=same k b hb;rw [<- h1];exact hs'.own k b0 g z h0 hz
 . by_cases e:k = h
   . subst e;rw [A7];rfl
   . rw [A8 _ _ e];exact hs'.dom k x hx
 . obtain ⟨b0,h0,h1,_⟩:=same k b hb;exact hs'.fzn k b0 g z h0 hz (h1.trans hf)
end Go.Ev

/- DERIVED. Regions that draw their order: a state for each set of operations that are done. -/
namespace Go.Ev
open Go
variable {P:Program} {T:Ty}
def Xc (P:Program) (K:Ai) (o:Oper) (s s':St):Prop:=∃ s0,Bs s s0 /\ C2 P K o s0 s'
theorem Az6 {K:Ai} {ops:Array Oper} {S:Nat->St} {Γ:Ctx} {Q:Exit->Act->World->Prop} {ro:Option Nat} {n:Nat} {X:Act->Prop} (hK:Γ.K = K) (hX:∀ (i:Nat) (o:Oper),ops[i]? = some o->∀ b v,X b->X (b.put o.dst v))
  (hlow:∀ (i:Nat) (o:Oper),ops[i]? = some o->∀ e ∈ o.after,Region.binds .any e = true->e.on < i)
  (hstep:∀ (L i:Nat) (o:Oper),(∀ j,ops.size <= j->L.testBit j = false)->Gd ops L.testBit->ops[i]? = some o->L.testBit i = false->(∀ e ∈ o.after,Region.binds .any e = true->L.testBit e.on = true) ->
   o.guard = none /\ Xc P K o (S L) (S (L ||| 1 <<< i)))
  (hQ:∀ a' w',X a'->(∃ E',A6 Γ w' E' (S (2 ^ ops.size - 1)) a'.tmps)->Q .normal a' w') :
  ∀ (fuel L:Nat) (listed:Array Bool) (a:Act) (w:World) (E:Env),listed.size = ops.size->(∀ j,Bh listed j = L.testBit j)->H8 (Bh listed) (List.range ops.size) = fuel->Gd ops (Bh listed)->X a->A6 Γ w E (S L) a.tmps ->
   wpAnyIn (FR ro) n P .any ops Q fuel listed a w:=by
 intro fuel
 induction fuel with
 | zero =>
  intro L listed a w E hsz hL hf hcl hx hs
  have all:∀ j,j < ops.size->Bh listed j = true:=fun j hj=>by
   cases e:Bh listed j with
   | true=>rfl
   | false=>have:=Ago e (YL.2 hj);omega
  refine ⟨List.eq_nil_iff_forall_not_mem.2 fun i hi=>?_,?_⟩
  . obtain ⟨h1,h2,_⟩:=Fz hi
    rw [all i (by omega)] at h2;cases h2
  . have : L = 2 ^ ops.size - 1 := by
     refine KO fun j=>?_;rw [ZL,<- hL];by_cases hj:j < ops.size
     . rw [all j hj];simp [hj]
     . have : Bh listed j = false := by
        unfold Bh;simp [Array.getD,hsz,hj]
       rw [this];simp [hj]
    subst this;exact hQ a w hx ⟨E,hs⟩
 | succ fuel ih =>
  intro L listed a w E hsz hL hf hcl hx hs
  have hex:∃ i,i < ops.size /\ Bh listed i = false:=by
   rcases Classical.em (∃ i,i < ops.size /\ Bh listed i = false) with h | h
   . exact h
   . exfalso
     have:H8 (Bh listed) (List.range ops.size) = 0:=by
      unfold H8;rw [List.filter_eq_nil_iff.2 fun j hj=>?_];rfl
      cases e:Bh listed j with
      | true=>simp
      | false=>exact absurd ⟨j,YL.1 hj,e⟩ h
     omega
  obtain ⟨k,hkn,hLk,hless⟩:=V1 hex;have hok':ops[k]? = some ops[k]:=Qaa hkn
  have hin:k ∈ Region.ready .any ops listed:=mem_ready.2 ⟨Ju (by omega) hLk,_,hok',fun e he hb=>hless e.on (hlow k _ hok' e he hb)⟩
  refine ⟨fun e=>(by rw [e] at hin;cases hin),fun i hi=>?_⟩
  obtain ⟨h1,h2,o,hoi,hdep⟩:=Fz hi
  have hbig:∀ j,ops.size <= j->L.testBit j = false:=fun j hj=>by
   rw [<- hL];unfold Bh
   have:¬ j < ops.size:=by omega
   simp [Array.getD,hsz,this]
  have hclL:Gd ops L.testBit:=fun j o hj ho e he hb=>by
   rw [<- hL] at hj ⊢;exact hcl j o hj ho e he hb
  obtain ⟨hg,s0,hw,hden⟩:=hstep L i o hbig hclL hoi (by rw [<- hL];exact h2) (fun e he hb=>by rw [<- hL];exact hdep e he hb)
  obtain ⟨E0,hs0⟩:=hw _ _ _ _ hs;unfold Go.wpOpIn;rw [hoi];simp only
  have hwant:Region.wanted o (yielded ops a.tmps) = true:=by unfold Region.wanted;rw [hg]
  rw [QL hwant];refine hden Γ w E0 a ro n X hK (hX i o hoi) hx hs0 _ Q (fun a' w' hx' ⟨E',hs'⟩=>?_);have hset:∀ j,Bh (listed.setIfInBounds i true) j = (Nat.beq j i || Bh listed j):=Vl h1
  refine ih (L ||| 1 <<< i) _ a' w' E' (by simpa using hsz) (fun j=>?_) ?_ (Rx hset hcl hoi hdep) hx' hs'
  . rw [hset,hL,Qag,KX];by_cases e:j = i
    . subst e;simp
    . have hb:Nat.beq j i = false:=by cases h:Nat.beq j i with | false=>rfl | true=>exact absurd (QC h) e
      rw [hb,YN]
      have:(decide (j >= i) && Nat.testBit 1 (j - i)) = false:=by
       by_cases h:i <= j
       . have:j - i ≠ 0:=by omega
         obtain ⟨d,hd⟩:∃ d,j - i = d + 1:=⟨j - i - 1,by omega⟩
         rw [hd];simp [JR]
       . simp [h]
      rw [this,Qbg]
  . have:=A48 hset h2 Qam (YL.2 (show i < ops.size by omega))
    omega
theorem A7b (hfol:P.follows .mixedOrders = true) {K:Ai} {id:Nat} {ops:Array Oper} {S:Nat->St} (hlow:∀ (i:Nat) (o:Oper),ops[i]? = some o->∀ e ∈ o.after,Region.binds .any e = true->e.on < i)
  (hstep:∀ (L i:Nat) (o:Oper),(∀ j,ops.size <= j->L.testBit j = false)->Gd ops L.testBit->ops[i]? = some o->L.testBit i = false->(∀ e ∈ o.after,Region.binds .any e = true->L.testBit e.on = true) ->
   o.guard = none /\ Xc P K o (S L) (S (L ||| 1 <<< i))):Code.Den P K (.region id ops true) (S 0) .normal (S (2 ^ ops.size - 1)):=by
 intro Γ w E a ro n hK _ hs;refine wpIn_region_any hfol ?_
 have hrep:∀ j,Bh (Array.replicate ops.size false) j = false:=by
  intro j;unfold Bh;by_cases e:j < ops.size <;> simp [Array.getD,e]
 refine Az6 (X:=fun b=>b.defers = a.defers /\ ∀ t,(Code.region id ops true).wr t = false->b.tmps.getD t undef = a.tmps.getD t undef) hK (fun i o hi b v hb=>Aa5 hi hb) hlow hstep (fun a' w' hd' he=>⟨rfl,.id hd'.1 hd'.2 he⟩)
  ops.size 0 _ a _ E (by simp) (fun j=>by rw [hrep];simp) ?_ (fun j o hj=>by rw [hrep] at hj;cases hj) ⟨rfl,fun _ _=>rfl⟩ (hs.still ⟨rfl,rfl,rfl,QY _,fun _ _ _=>rfl⟩)
 unfold H8
 exact (XR List.length (JY.2 fun j _=>by rw [hrep];rfl)).trans List.length_range
end Go.Ev
