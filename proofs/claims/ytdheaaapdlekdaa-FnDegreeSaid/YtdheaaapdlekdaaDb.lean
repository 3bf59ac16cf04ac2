/- DERIVED. The plain laws: what the models compute. -/
import Derived.Test.YtdheaaapdlekdaaDa

set_option linter.all false
set_option linter.unusedVariables false
set_option linter.unusedSimpArgs false

namespace Go.Ev
open Go

theorem Aj {x:Int} (h:-9223372036854775808<=x) (h':x<9223372036854775808):W x=x:=Wu h h'

@[simp] theorem A5 {α β:Type} (r:β) (k:β->Option α):ob (some r) k=k r:=rfl

@[simp] theorem A55 {α β:Type} (k:β->Option α):ob (none:Option β) k=none:=rfl

@[simp] theorem A56 {α:Type} (x:Option α):gd true x=x:=rfl

@[simp] theorem A4w {α:Type} (x:Option α):gd false x=none:=rfl

theorem A6 {α:Type} {g:Bool} (h:g=true) (x:Option α):gd g x=x:=by rw [h];rfl

theorem Sq (l:List Int) (a b:Int):l.foldl max a<=b ↔ a<=b /\ ∀ x ∈ l,x<=b:=by
 induction l generalizing a with
 | nil=>simp
 | cons y r ih =>
  simp only [List.foldl_cons,ih,QP,forall_eq_or_imp];constructor
  . rintro ⟨h,h'⟩;exact ⟨by omega,by omega,h'⟩
  . rintro ⟨h,h',h''⟩;exact ⟨by omega,h''⟩

theorem Ai {α:Type} {l m:List α} {i:Nat} {d:α} (h:i<l.length):(l++m).getD i d=l.getD i d:=by
 simp [ZK,ZC h]

theorem Af {α:Type} {l:List α} {x d:α}:(l++[x]).getD l.length d=x:=by
 simp [ZK]

theorem Bw {α:Type} {l r:List α} {x d:α} {k:Nat} (h:l.drop k=x::r):l.getD k d=x/\k<l.length/\l.drop (k+1)=r:=by
 have hk:k<l.length:=by
  rcases XJ k l.length with h' | h'
  . exact h'
  . rw [List.drop_of_length_le h'] at h;cases h
 have:=List.drop_eq_getElem_cons hk;rw [h] at this;injection this with h1 h2
 exact ⟨by simp [ZK,hk,h1],hk,h2.symm⟩

abbrev Ah:=Int × Int × Int × Int

theorem L8 {n:Nat} {a lo hi:Int}:f25 n a lo hi=some (decide (lo<=a/\a<=hi)):=by
 unfold f25;by_cases h:lo<=a <;> simp [h]

theorem T7 {n:Nat} {a lo hi:Int}:f20 n a lo hi=some (decide (lo<=a/\a<=hi)):=by
 unfold f20;by_cases h:lo<=a <;> simp [h]

def Bn (op:Int):Int:=if op=3 \/ op=4 \/ op=5 \/ op=6 then 2 else if op=7 \/ op=8 then 1 else 0

theorem Sx {n:Nat} {x:Ah}:f31 n x=some (Bn x.1):=by
 unfold f31 Bn;simp only [YH,KJ];grind

def Pj (x:Ah):Prop:=if x.1=1 then 0<=x.2.2.2/\x.2.2.2<=999999999 else if x.1=2 then 0<=x.2.2.2/\x.2.2.2<=3 else if x.1=8 then 0<=x.2.2.2/\x.2.2.2<=8 else x.2.2.2=0

instance (x:Ah):Decidable (Pj x):=by unfold Pj;infer_instance

theorem A2u {n:Nat} {x:Ah}:f33 n x=some (decide (Pj x)):=by
 unfold f33 Pj;simp only [YH,KJ,L8,A5];grind

theorem A2s {n:Nat} {h:Bool} {k i:Int} (hi:0<=i/\i<1152921504606846976):f34 n h k i=some (decide (if h=true then 0<=k/\k<=i-1 else k=0)):=by
 unfold f34
 simp only [L8,A5,Aj (x:=i-1) (by omega) (by omega),YH]
 cases h <;> grind

def Gi (x:Ah) (i:Int):Prop:=(1<=x.1/\x.1<=8)/\Pj x/\(if Bn x.1>0 then 0<=x.2.1/\x.2.1<=i-1 else x.2.1=0)/\(if Bn x.1>1 then 0<=x.2.2.1/\x.2.2.1<=i-1 else x.2.2.1=0)

instance (x:Ah) (i:Int):Decidable (Gi x i):=by unfold Gi;infer_instance

theorem A2w {n:Nat} {x:Ah} {i:Int} (hi:0<=i/\i<1152921504606846976):f32 n x i=some (decide (Gi x i)):=by
 unfold f32 Gi;simp only [L8,A2u,Sx,A5,A2s hi,YH,QR];grind

theorem Ol {n:Nat} {a:Int}:f22 n a=some (decide (3<=a/\a<=6)):=by
 unfold f22;simp [T7]

theorem T5 {n:Nat} {a:Int}:f24 n a=some (decide (a=7 \/ a=8)):=by
 unfold f24;simp only [YH,KJ];grind

theorem Xx {n:Nat} {b:Bool}:f27 n b=some (if b=true then 1 else 0):=by
 unfold f27;cases b <;> rfl

def C9 (x:Ah) (i:Int):Prop:=(1<=x.1/\x.1<=8)/\(if 3<=x.1/\x.1<=6 then (0<=x.2.1/\x.2.1<=i-1)/\(x.2.1+1<=x.2.2.1/\x.2.2.1<=i-1)/\x.2.2.2=0
 else if x.1=7 \/ x.1=8 then x.2.1=i-1/\0<i/\x.2.2.1=0/\0<=x.2.2.2/\x.2.2.2<=(if x.1=8 then 8 else 0)
 else if x.1=2 then x.2.1=0/\x.2.2.1=0/\0<=x.2.2.2/\x.2.2.2<=3 else x.2.1=0/\x.2.2.1=0/\0<=x.2.2.2/\x.2.2.2<=999999999)

instance (x:Ah) (i:Int):Decidable (C9 x i):=by unfold C9;infer_instance

theorem A36 {n:Nat} {x:Ah} {i:Int} (hi:0<=i/\i<1152921504606846976):f21 n x i=some (decide (C9 x i)):=by
 unfold f21 C9
 simp only [T7,Ol,T5,Xx,A5,Aj (x:=i-1) (by omega) (by omega),YH,QR,KJ]
 by_cases h0:1<=x.1/\x.1<=8
 . by_cases h1:3<=x.1/\x.1<=6
   . by_cases h2:0<=x.2.1/\x.2.1<=i-1
     . rw [Aj (x:=x.2.1+1) (by omega) (by omega)]
       simp only [h0,h1,h2];by_cases h3:x.2.1+1<=x.2.2.1/\x.2.2.1<=i-1
       . simp [h3];rfl
       . simp [h3]
     . simp [h0,h1,h2]
   . by_cases h2:x.1=7 \/ x.1=8
     . have e : W (8 * (if (x.1 == 8) = true then 1 else 0)) = if x.1 = 8 then 8 else 0 := by
        by_cases h:x.1=8 <;> simp [h] <;> exact Aj (by omega) (by omega)
       simp only [KJ] at e;simp only [h0,h1,h2,e];grind
     . grind
 . simp [h0]

def okP (bs:List Int) (x:Ah) (i:Int):Prop:=C9 x i/\(3<=x.1/\x.1<=6->x.2.2.1=i-1/\bs.getD x.2.2.1.toNat 0=x.2.1+1)

instance (bs:List Int) (x:Ah) (i:Int):Decidable (okP bs x i):=by unfold okP;infer_instance

def nb (bs:List Int) (x:Ah) (i:Int):Int:=if 3<=x.1/\x.1<=8 then bs.getD x.2.1.toNat 0 else i

def nd (ds:List Int) (x:Ah):Int:=if 3<=x.1/\x.1<=6 then 1+max (ds.getD x.2.1.toNat 0) (ds.getD x.2.2.1.toNat 0) else if x.1=7 \/ x.1=8 then 1+ds.getD x.2.1.toNat 0 else 1

def Bc:List Int->List Int->List Ah->Option (List Int × List Int)
 | bs,ds,[]=>some (bs,ds)
 | bs,ds,x::r=>if okP bs x bs.length then Bc (bs++[nb bs x bs.length]) (ds++[nd ds x]) r else none

structure Io (bs ds:List Int):Prop where
 len:ds.length=bs.length
 small:bs.length<=1048576
 b:∀ j,j<bs.length->0<=bs.getD j 0/\bs.getD j 0<=j
 d:∀ j,j<ds.length->1<=ds.getD j 0/\ds.getD j 0<=j+1

theorem Hl {a:Int} {k:Nat} (h0:0<=a) (h:a<=(k:Int)-1):a.toNat<k:=by omega

theorem Io.step {bs ds:List Int} (h:Io bs ds) {x:Ah} (hx:okP bs x bs.length) (hs:bs.length+1<=1048576):Io (bs++[nb bs x bs.length]) (ds++[nd ds x]):=by
 obtain ⟨h1,h2,h3,h4⟩:=h;have hn:=hx.1;unfold C9 at hn
 refine ⟨by simp [h1],by simpa using hs,λj hj=>?_,λj hj=>?_⟩
 . simp only [ZF,ZI,ZT] at hj;rcases XJ j bs.length with hlt | hge
   . rw [Ai hlt];exact h3 j hlt
   . obtain rfl:j=bs.length:=by omega
     rw [Af];unfold nb;split
     . have ha : 0 <= x.2.1 /\ x.2.1 <= (bs.length : Int) - 1 := by
        split at hn
        . omega
        . split at hn
          . omega
          . omega
       have:=h3 _ (Hl ha.1 ha.2);omega
     . omega
 . simp only [ZF,ZI,ZT] at hj;rcases XJ j ds.length with hlt | hge
   . rw [Ai hlt];exact h4 j hlt
   . obtain rfl:j=ds.length:=by omega
     rw [Af];unfold nd;split
     . rename_i h2';rw [QJ h2'] at hn
       have ha:=h4 _ (by rw [h1];exact Hl (k:=bs.length) (a:=x.2.1) (by omega) (by omega))
       have hb:=h4 _ (by rw [h1];exact Hl (k:=bs.length) (a:=x.2.2.1) (by omega) (by omega))
       omega
     . rename_i h2';rw [QK h2'] at hn;split
       . rename_i h3';rw [QJ h3'] at hn
         have ha:=h4 _ (by rw [h1];exact Hl (k:=bs.length) (a:=x.2.1) (by omega) (by omega))
         omega
       . omega

theorem Zf {bs ds:List Int} (h:Io bs ds) {x:Ah}:okP bs x bs.length ↔ Gi x bs.length/\(Bn x.1=1->x.2.1=(bs.length:Int)-1)/\(Bn x.1=2->x.2.2.1=(bs.length:Int)-1/\x.2.1=bs.getD x.2.2.1.toNat 0-1):=by
 obtain ⟨h1,h2,h3,h4⟩:=h;unfold okP C9 Gi Pj Bn;by_cases h2:3<=x.1/\x.1<=6
 . have e:x.1=3 \/ x.1=4 \/ x.1=5 \/ x.1=6:=by omega
   have e1:¬ x.1=1:=by omega
   have e2:¬ x.1=2:=by omega
   have e3:¬ x.1=8:=by omega
   simp only [QJ e,QJ h2,QK e1,QK e2,QK e3];constructor
   . rintro ⟨⟨ha,hb,hc,hd⟩,hf⟩
     obtain ⟨hf1,hf2⟩:=hf h2
     refine ⟨⟨ha,hd,by rw [QJ (by decide)];omega,by rw [QJ (by decide)];omega⟩,λh=>absurd h (by decide),λ_=>by omega⟩
   . rintro ⟨⟨ha,hb,hc,hd⟩,_,hf⟩
     obtain ⟨hf1,hf2⟩:=hf trivial
     rw [QJ (by decide)] at hc hd
     have:=h3 _ (Hl hd.1 hd.2)
     refine ⟨⟨ha,hc,?_,hb⟩,λ_=>⟨hf1,by omega⟩⟩
     omega
 . have e:¬ (x.1=3 \/ x.1=4 \/ x.1=5 \/ x.1=6):=by omega
   simp only [QK e,QK h2];by_cases h5:x.1=7 \/ x.1=8
   . have e1:¬ x.1=1:=by omega
     have e2:¬ x.1=2:=by omega
     simp only [QJ h5,QK e1,QK e2];constructor
     . rintro ⟨⟨ha,hb,hc,hd,hn⟩,_⟩
       refine ⟨⟨ha,?_,by rw [QJ (by decide)];omega,by rw [QK (by decide)];exact hd⟩,λ_=>hb,λh=>absurd h (by decide)⟩
       split <;> (split at hn <;> omega)
     . rintro ⟨⟨ha,hb,hc,hd⟩,hf,_⟩
       rw [QJ (by decide)] at hc
       rw [QK (by decide)] at hd
       have hf:=hf trivial
       refine ⟨⟨ha,hf,by omega,hd,?_⟩,λh=>absurd h h2⟩
       split at hb <;> split <;> omega
   . have e3:¬ x.1=8:=by omega
     simp only [QK h5,QK e3];constructor
     . rintro ⟨⟨ha,hb⟩,_⟩
       refine ⟨⟨ha,?_,?_,?_⟩,λh=>absurd h (by decide),λh=>absurd h (by decide)⟩
       . have hb1:x.1=1 \/ x.1=2:=by omega
         rcases hb1 with h1' | h1'
         . rw [QK (by omega)] at hb;rw [QJ h1'];omega
         . rw [QJ h1'] at hb;rw [QK (by omega),QJ h1'];omega
       . rw [QK (by decide)];split at hb <;> omega
       . rw [QK (by decide)];split at hb <;> omega
     . rintro ⟨⟨ha,hb,hc,hd⟩,_,_⟩
       rw [QK (by decide)] at hc hd
       refine ⟨⟨ha,?_⟩,λh=>absurd h h2⟩
       have hb1:x.1=1 \/ x.1=2:=by omega
       rcases hb1 with h1' | h1'
       . rw [QJ h1'] at hb;rw [QK (by omega)];omega
       . rw [QK (by omega),QJ h1'] at hb;rw [QJ h1'];omega

theorem Uf {α:Type} {n k:Nat} {e:List Ah} {bs ds:List Int} {f} {k0:Bool->Option α} {k1} (hi:Io bs ds) (hk:bs.length=k) (hlt:k<e.length) (hN:e.length<=1048576) :
  It n e (e.length:Int) (k:Int) bs ds f k0 k1=if okP bs (e.getD k (0,0,0,0)) (bs.length:Nat) then f e (e.length:Int) ((k+1:Nat):Int) (bs++[nb bs (e.getD k (0,0,0,0)) (bs.length:Nat)]) (ds++[nd ds (e.getD k (0,0,0,0))]) else k0 false:=by
 have hp:=Zf hi (x:=e.getD k (0,0,0,0));obtain ⟨h1,h2,h3,h4⟩:=hi;subst hk;unfold It;generalize hx:e.getD bs.length (0,0,0,0)=x at hp ⊢
 rw [ZN,QJ (by omega),A6 (by simp;omega)]
 simp only [YQ,hx,A2w (x:=x) (i:=(bs.length:Int)) (by omega),Sx,A5,Aj (x:=(bs.length:Int)-1) (by omega) (by omega),Aj (x:=(bs.length:Int)+1) (by omega) (by omega)]
 by_cases hpl:Gi x bs.length
 . simp only [hpl,decide_true,XI,ZZ];have hpl':=hpl;unfold Gi at hpl';by_cases k1':Bn x.1=1
   . have hop:x.1=7 \/ x.1=8:=by unfold Bn at k1';grind
     simp only [k1',beq_self_eq_true,XU]
     rw [QJ (by rw [k1'];decide)] at hpl'
     by_cases ha:x.2.1=(bs.length:Int)-1
     . have hok:okP bs x bs.length:=hp.2 ⟨hpl,λ_=>ha,λh=>by omega⟩
       have hd:=h4 x.2.1.toNat (by omega)
       rw [QJ hok]
       have e1:(x.2.1 != (bs.length:Int)-1)=false:=by simp [ha]
       rw [e1,ZZ,A6 (by simp;omega),A6 (by simp;omega),A6 (by simp;omega),A6 (by simp;omega),A6 (by simp;omega),A6 (by simp;omega),Aj (by omega) (by omega)]
       have e2:nb bs x bs.length=bs.getD x.2.1.toNat 0:=by unfold nb;rw [QJ (by omega)]
       have e3:nd ds x=ds.getD x.2.1.toNat 0+1:=by unfold nd;rw [QK (by omega),QJ hop];omega
       rw [e2,e3];rfl
     . have hok:¬ okP bs x bs.length:=λh=>ha ((hp.1 h).2.1 k1');rw [QK hok]
       have e1:(x.2.1 != (bs.length:Int)-1)=true:=by simp [ha]
       rw [e1,XU]
   . have e0:(Bn x.1==1)=false:=by simp [k1']
     rw [e0,ZZ];by_cases k2':Bn x.1=2
     . have hop:3<=x.1/\x.1<=6:=by unfold Bn at k2';grind
       simp only [k2',beq_self_eq_true,XU]
       rw [QJ (by rw [k2'];decide),QJ (by rw [k2'];decide)] at hpl'
       by_cases hb:x.2.2.1=(bs.length:Int)-1
       . have e1:(x.2.2.1 != (bs.length:Int)-1)=false:=by simp [hb]
         have hbb:=h3 x.2.2.1.toNat (by omega)
         rw [e1,ZZ,A6 (by simp;omega),A6 (by simp;omega),Aj (x:=bs.getD x.2.2.1.toNat 0-1) (by omega) (by omega)]
         by_cases ha:x.2.1=bs.getD x.2.2.1.toNat 0-1
         . have hok:okP bs x bs.length:=hp.2 ⟨hpl,λh=>by omega,λ_=>⟨hb,ha⟩⟩
           have hd:=h4 x.2.1.toNat (by omega)
           have hd':=h4 x.2.2.1.toNat (by omega)
           rw [QJ hok]
           have e1:(x.2.1 != bs.getD x.2.2.1.toNat 0-1)=false:=by rw [<- ha];simp
           rw [e1,ZZ,A6 (by simp;omega),A6 (by simp;omega),A6 (by simp;omega),A6 (by simp;omega),A6 (by simp;omega),A6 (by simp;omega),A6 (by simp;omega),A6 (by simp;omega),Aj (by omega) (by omega)]
           have e2:nb bs x bs.length=bs.getD x.2.1.toNat 0:=by unfold nb;rw [QJ (by omega)]
           have e3:nd ds x=max (ds.getD x.2.1.toNat 0) (ds.getD x.2.2.1.toNat 0)+1:=by unfold nd;rw [QJ hop];omega
           rw [e2,e3];rfl
         . have hok:¬ okP bs x bs.length:=λh=>ha ((hp.1 h).2.2 k2').2;rw [QK hok]
           have e1:(x.2.1 != bs.getD x.2.2.1.toNat 0-1)=true:=by simp only [bne_iff_ne,ne_eq];exact ha
           rw [e1,XU]
       . have hok:¬ okP bs x bs.length:=λh=>hb ((hp.1 h).2.2 k2').1;rw [QK hok]
         have e1:(x.2.2.1 != (bs.length:Int)-1)=true:=by simp [hb]
         rw [e1,XU]
     . have e0:(Bn x.1==2)=false:=by simp [k2']
       rw [e0,ZZ];have hok:okP bs x bs.length:=hp.2 ⟨hpl,λh=>absurd h k1',λh=>absurd h k2'⟩
       have hop:x.1=1 \/ x.1=2:=by unfold Bn at k1' k2';grind
       rw [QJ hok,A6 (by simp;omega),A6 (by simp;omega)]
       have e2:nb bs x bs.length=bs.length:=by unfold nb;rw [QK (by omega)]
       have e3:nd ds x=1:=by unfold nd;rw [QK (by omega),QK (by omega)]
       rw [e2,e3];rfl
 . have hok:¬ okP bs x bs.length:=λh=>hpl (hp.1 h).1;rw [QK hok];simp only [hpl,decide_false,ZM,XU]

theorem Hn:∀ (r:List Ah) (bs ds bs' ds':List Int),Io bs ds->bs.length+r.length<=1048576->Bc bs ds r=some (bs',ds')->Io bs' ds'/\bs'.length=bs.length+r.length/\(∀ j,j<bs.length->bs'.getD j 0=bs.getD j 0)/\(∀ j,j<ds.length->ds'.getD j 0=ds.getD j 0)
 | [],bs,ds,bs',ds',hi,_,h=>by
  simp only [Bc,QC,QG] at h;obtain ⟨rfl,rfl⟩:=h
  exact ⟨hi,by simp,λ_ _=>rfl,λ_ _=>rfl⟩
 | x::r,bs,ds,bs',ds',hi,hl,h=>by
  simp only [Bc] at h;simp only [ZI] at hl;split at h
  . rename_i hok
    obtain ⟨h1,h2,h3,h4⟩:=Hn r _ _ bs' ds' (hi.step hok (by omega)) (by simp;omega) h
    refine ⟨h1,by rw [h2];simp;omega,λj hj=>?_,λj hj=>?_⟩
    . rw [h3 j (by simp;omega),Ai hj]
    . rw [h4 j (by simp;omega),Ai hj]
  . cases h

theorem Nx {α:Type} {n:Nat} {e:List Ah} (hN:e.length<=1048576) {k0:Bool->Option α} {k1:List Int->List Int->Option α}:∀ (r:List Ah) (m:Nat) (bs ds:List Int),Io bs ds->e.drop bs.length=r->bs.length+r.length=e.length->r.length<m ->
  Oi n m e (e.length:Int) (bs.length:Int) bs ds k0 k1=match Bc bs ds r with
   | some (bs',ds')=>k1 bs' ds'
   | none=>k0 false
 | [],m+1,bs,ds,hi,hd,hl,hm=>by
  rw [T1];unfold It;simp only [ZT] at hl
  rw [ZN,QK (by omega)]
  rfl
 | x::r,m+1,bs,ds,hi,hd,hl,hm=>by
  obtain ⟨hx,hlt,hd'⟩:=Bw (d:=(0,0,0,0)) hd;rw [T1,Uf hi rfl hlt hN,hx];simp only [Bc];by_cases hok:okP bs x bs.length
  . rw [QJ hok,QJ hok]
    have ih:=Nx hN r m (bs++[nb bs x bs.length]) (ds++[nd ds x]) (hi.step hok (by omega)) (by simpa using hd') (by simp;simp at hl;omega) (by simp at hm;omega) (n:=n) (k0:=k0) (k1:=k1)
    simp only [ZF,ZI,ZT,XR] at ih;exact ih
  . rw [QK hok,QK hok]

theorem Sp:Io [] []:=⟨rfl,by simp,λj hj=>by simp at hj,λj hj=>by simp at hj⟩

theorem A30 {n:Nat} {e:List Ah} (hN:e.length<=1048576) (hn:1048577<=n):f29 n e=some (match Bc [] [] e with
  | some (bs,ds)=>(bs,ds,true)
  | none=>([],[],false)):=by
 unfold f29
 have:=Nx (n:=n) hN (k0:=λz=>some ([],[],z)) (k1:=λa b=>some (a,b,true)) e n [] [] Sp rfl (by simp) (by omega)
 simp only [ZT] at this;refine Eq.trans this ?_
 cases Bc [] [] e with
 | none=>rfl
 | some p=>rfl

theorem Sj {α:Type} {n:Nat} {l:List Int} (hN:l.length<=1048576) {k0:Int->Option α}:∀ (r:List Int) (m k:Nat) (a:Int),l.drop k=r->k+r.length=l.length->r.length<m->Oh n m l a (k:Int) k0=k0 (r.foldl max a)
 | [],m+1,k,a,hd,hl,hm=>by
  rw [Sz];unfold Lz;simp only [ZT] at hl
  rw [ZN,QK (by omega)]
  rfl
 | x::r,m+1,k,a,hd,hl,hm=>by
  obtain ⟨hx,hlt,hd'⟩:=Bw (d:=0) hd;rw [Sz];unfold Lz
  rw [ZN,QJ (by omega),A6 (by simp;omega),Aj (by omega) (by omega)]
  simp only [YQ,hx];simp only [ZI] at hl hm
  exact Sj hN r m (k+1) (max a x) hd' (by omega) (by omega)

theorem A2y {n:Nat} {l:List Int} (hN:l.length<=1048576) (hn:1048577<=n) (h0:0<l.length):∃ r,f30 n l=some r/\(r<=12 ↔ ∀ x ∈ l,x<=12):=by
 cases l with
 | nil=>cases h0
 | cons x r =>
  refine ⟨r.foldl max x,?_,?_⟩
  . unfold f30
    rw [ZN,QK (by simp only [ZI];omega),A6 (by simp)]
    have:=Sj (n:=n) (k0:=λz=>some z) hN r n 1 x rfl (by simp only [ZI];omega) (by simp at hN;omega)
    exact this
  . rw [Sq];simp

def Bt (e:List Ah):Prop:=(1<=e.length/\e.length<=60) /\ ∃ bs ds,Bc [] [] e=some (bs,ds)/\bs.getD (e.length-1) 0=0 /\ ∀ x ∈ ds,x<=12

open Classical in
theorem A3b {n:Nat} {e:List Ah} (hN:e.length<=1048576) (hn:1048577<=n):f18 n e=some (decide (Bt e)):=by
 unfold f18;rw [L8,A5];by_cases h1:(1:Int)<=(e.length:Int)/\(e.length:Int)<=60
 . simp only [h1,and_self,decide_true,XI,ZZ];rw [A30 hN hn,A5]
   cases hr:Bc [] [] e with
   | none =>
    have:¬ Bt e:=λ⟨_,_,_,h,_⟩=>by rw [hr] at h;cases h
    simp [this]
   | some p =>
    obtain ⟨bs,ds⟩:=p
    obtain ⟨hi,hl,_,_⟩:=Hn e [] [] bs ds Sp (by simpa using hN) hr
    simp only [ZT,XR] at hl;simp only [XU]
    rw [Aj (x:=(e.length:Int)-1) (by omega) (by omega),A6 (by simp;omega)]
    have et:((e.length:Int)-1).toNat=e.length-1:=by omega
    rw [et];by_cases hb:bs.getD (e.length-1) 0=0
    . obtain ⟨r,hr1,hr2⟩:=A2y (n:=n) (l:=ds) (by rw [hi.len];omega) hn (by rw [hi.len];omega)
      rw [hr1,A5]
      have e1:(bs.getD (e.length-1) 0==0)=true:=by rw [hb];rfl
      rw [e1,XU];congr 1;rw [decide_eq_decide,hr2];constructor
      . intro h;exact ⟨by omega,bs,ds,hr,hb,h⟩
      . rintro ⟨_,bs',ds',h,_,h'⟩
        rw [hr] at h;simp only [QC,QG] at h;obtain ⟨rfl,rfl⟩:=h;exact h'
    . have e1:(bs.getD (e.length-1) 0==0)=false:=by simp only [beq_eq_false_iff_ne,ne_eq];exact hb
      have:¬ Bt e:=λ⟨_,bs',ds',h,hb',_⟩=>by
       rw [hr] at h;simp only [QC,QG] at h;obtain ⟨rfl,rfl⟩:=h;exact hb hb'
      rw [e1,ZZ];simp [this]
 . have:¬ Bt e:=λ⟨h,_⟩=>h1 (by omega)
   simp only [h1,decide_false,ZM,XU,this]

theorem Vu {α:Type} {n:Nat} {e:List Ah} {bs:List Int} (hN:e.length<=1048576)
  (hb:∀ j,j<bs.length->okP (bs.take j) (e.getD j (0,0,0,0)) j/\bs.getD j 0=nb (bs.take j) (e.getD j (0,0,0,0)) j) (hl:bs.length<=e.length) {k0:Int->Option α} :
  ∀ (j m:Nat),j<bs.length->j<m->Oj n m (j:Int) e (e.getD j (0,0,0,0)).1 (e.getD j (0,0,0,0)).2.1 (e.getD j (0,0,0,0)).2.2.1 (e.getD j (0,0,0,0)).2.2.2 k0=k0 (bs.getD j 0):=by
 intro j
 induction j using Nat.strongRecOn with
 | ind j ih =>
  intro m hj hm
  obtain ⟨m,rfl⟩:∃ m',m=m'+1:=⟨m-1,by omega⟩
  obtain ⟨hok,hv⟩:=hb j hj;rw [A02];unfold Pv;rw [hv];generalize hx:e.getD j (0,0,0,0)=x at hok hv ⊢;have hn:=hok.1;unfold C9 at hn;simp only [Ol,T5,A5,ZN];by_cases h1:3<=x.1/\x.1<=8
  . have ha : 0 <= x.2.1 /\ x.2.1 <= (j : Int) - 1 := by
     split at hn
     . omega
     . split at hn
       . omega
       . omega
    have hlt:x.2.1.toNat<j:=by omega
    have e1:nb (bs.take j) x j=bs.getD x.2.1.toNat 0:=by
     unfold nb;rw [QJ h1];simp [ZK,ZQ,hlt]
    have key:=ih x.2.1.toNat hlt m (by omega) (by omega)
    have et:((x.2.1.toNat:Nat):Int)=x.2.1:=by omega
    rw [et] at key
    rw [e1,A6 (by simp;omega)]
    by_cases h2:3<=x.1/\x.1<=6
    . rw [QJ h2];exact key
    . rw [QK h2,QJ (by omega)];exact key
  . rw [QK (by omega),QK (by omega)]
    unfold nb;rw [QK h1]

def U5 (e:List Ah) (bs:List Int):Prop:=∀ j,j<bs.length->okP (bs.take j) (e.getD j (0,0,0,0)) j/\bs.getD j 0=nb (bs.take j) (e.getD j (0,0,0,0)) j

theorem Y0 {n:Nat} {e:List Ah} {bs:List Int} (hN:e.length<=1048576) (hn:1048577<=n) (hb:U5 e bs) (hl:bs.length<=e.length) {j:Int} (hj:0<=j/\j<(bs.length:Int)):f23 n e j=some (bs.getD j.toNat 0):=by
 unfold f23
 rw [A6 (by simp;omega)]
 have:=Vu (n:=n) hN hb hl (k0:=λz=>some z) j.toNat n (by omega) (by omega)
 rw [show ((j.toNat:Nat):Int)=j by omega] at this
 exact this

theorem U5.step {e:List Ah} {bs:List Int} (h:U5 e bs) {x:Ah} (hx:e.getD bs.length (0,0,0,0)=x) (hok:okP bs x bs.length):U5 e (bs++[nb bs x bs.length]):=by
 intro j hj;simp only [ZF,ZI,ZT] at hj;rcases XJ j bs.length with hlt | hge
 . rw [Ai hlt,List.take_append_of_le_length (by omega)]
   exact h j hlt
 . obtain rfl:j=bs.length:=by omega
   rw [Af,List.take_left',hx]
   . exact ⟨hok,rfl⟩
   . rfl

theorem Qk {α:Type} {n:Nat} {e:List Ah} (hN:e.length<=1048576) (hn:1048577<=n) {k0:Bool->Option α} {k1:List Ah->Option α}:∀ (r:List Ah) (m:Nat) (bs ds:List Int),Io bs ds->U5 e bs->(∀ x ∈ ds,x<=12)->e.drop bs.length=r->bs.length+r.length=e.length->r.length<m ->
  Oo n m (bs.length:Int) e ds k0 k1=match Bc bs ds r with
   | some (_,ds')=>if ∀ x ∈ ds',x<=12 then k1 e else k0 false
   | none=>k0 false
 | [],m+1,bs,ds,hi,hr,h12,hd,hl,hm=>by
  rw [Tb];unfold Iv;simp only [ZT] at hl
  rw [ZN,QK (by omega)]
  simp only [Bc];rw [QJ h12]
 | x::r,m+1,bs,ds,hi,hr,h12,hd,hl,hm=>by
  obtain ⟨hx,hlt,hd'⟩:=Bw (d:=(0,0,0,0)) hd;have hi0:=hi;obtain ⟨h1,h2,h3,h4⟩:=hi;simp only [ZI] at hl hm
  have round:∀ f:Int->List Ah->List Int->Option α,Iv n (bs.length:Int) e ds f k0 k1=if okP bs x bs.length/\nd ds x<=12 then f ((bs.length+1:Nat):Int) e (ds++[nd ds x]) else k0 false:=by
   intro f;unfold Iv
   rw [ZN,QJ (by omega),A6 (by simp;omega)]
   simp only [YQ,hx,A36 (x:=x) (i:=(bs.length:Int)) (by omega),Ol,T5,A5,Aj (x:=(bs.length:Int)-1) (by omega) (by omega),Aj (x:=(bs.length:Int)+1) (by omega) (by omega)]
   by_cases hno:C9 x bs.length
   . simp only [hno,decide_true,XI,ZZ];have hno':=hno;unfold C9 at hno';by_cases h5:3<=x.1/\x.1<=6
     . have h6:¬ (x.1=7 \/ x.1=8):=by omega
       rw [QJ h5] at hno';simp only [h5,h6,and_self,decide_true,XU,decide_false,ZZ];by_cases hb:x.2.2.1=(bs.length:Int)-1
       . have e1:(x.2.2.1 != (bs.length:Int)-1)=false:=by simp [hb]
         rw [e1,ZZ,Y0 hN hn hr (by omega) (by omega),A5,Aj (x:=x.2.1+1) (by omega) (by omega)]
         by_cases ha:bs.getD x.2.2.1.toNat 0=x.2.1+1
         . have hok:okP bs x bs.length:=⟨hno,λ_=>⟨hb,ha⟩⟩
           have e1:(bs.getD x.2.2.1.toNat 0 != x.2.1+1)=false:=by rw [ha];simp
           have da:=h4 x.2.1.toNat (by omega)
           have db:=h4 x.2.2.1.toNat (by omega)
           have e3:nd ds x=1+max (ds.getD x.2.1.toNat 0) (ds.getD x.2.2.1.toNat 0):=by unfold nd;rw [QJ h5]
           rw [e1,ZZ,A6 (by simp;omega),A6 (by simp;omega),A6 (by simp;omega),A6 (by simp;omega),Aj (by omega) (by omega),<- e3,ZN]
           by_cases h12':nd ds x<=12
           . rw [QK (by omega),A6 (by simp;omega),QJ ⟨hok,h12'⟩]
             rfl
           . rw [QJ (by omega),QK (λh=>h12' h.2)]
         . have hok:¬ okP bs x bs.length:=λh=>ha (h.2 h5).2
           have e1:(bs.getD x.2.2.1.toNat 0 != x.2.1+1)=true:=by simp only [bne_iff_ne,ne_eq];exact ha
           rw [e1,XU,QK (λh=>hok h.1)]
       . have hok:¬ okP bs x bs.length:=λh=>hb (h.2 h5).1
         have e1:(x.2.2.1 != (bs.length:Int)-1)=true:=by simp [hb]
         rw [e1,XU,QK (λh=>hok h.1)]
     . rw [QK h5] at hno';have hok:okP bs x bs.length:=⟨hno,λh=>absurd h h5⟩;simp only [h5,decide_false,ZZ];by_cases h6:x.1=7 \/ x.1=8
       . rw [QJ h6] at hno'
         have da:=h4 x.2.1.toNat (by omega)
         have e3:nd ds x=1+ds.getD x.2.1.toNat 0:=by unfold nd;rw [QK h5,QJ h6]
         simp only [h6,decide_true,XU]
         rw [A6 (by simp;omega),A6 (by simp;omega),Aj (by omega) (by omega),<- e3,ZN]
         by_cases h12':nd ds x<=12
         . rw [QK (by omega),A6 (by simp;omega),QJ ⟨hok,h12'⟩]
           rfl
         . rw [QJ (by omega),QK (λh=>h12' h.2)]
       . simp only [h6,decide_false,ZZ]
         have e3:nd ds x=1:=by unfold nd;rw [QK h5,QK h6]
         rw [ZN,QK (by omega),A6 (by simp;omega),QJ ⟨hok,by omega⟩,e3]
         rfl
   . have hok:¬ okP bs x bs.length:=λh=>hno h.1;simp only [hno,decide_false,ZM,XU];rw [QK (λh=>hok h.1)]
  rw [Tb,round];simp only [Bc];by_cases hok:okP bs x bs.length
  . rw [QJ hok];by_cases h12':nd ds x<=12
    . rw [QJ ⟨hok,h12'⟩]
      have ih:=Qk hN hn r m (bs++[nb bs x bs.length]) (ds++[nd ds x]) (hi0.step hok (by omega)) (hr.step hx hok) (λy hy=>by
       rcases QE.1 hy with hy | hy
       . exact h12 y hy
       . simp only [QL] at hy;subst hy;exact h12') (by simpa using hd') (by simp;omega) (by omega) (k0:=k0) (k1:=k1)
      simp only [ZF,ZI,ZT,XR] at ih;exact ih
    . rw [QK (λh=>h12' h.2)]
      cases hrun:Bc (bs++[nb bs x bs.length]) (ds++[nd ds x]) r with
      | none=>rfl
      | some p =>
       obtain ⟨bs',ds'⟩:=p
       obtain ⟨q1,q2,_,q4⟩:=Hn r _ _ bs' ds' (hi0.step hok (by omega)) (by simp;omega) hrun
       have hlt':ds.length<ds'.length:=by rw [q1.len,q2];simp;omega
       have hv:=q4 ds.length (by simp)
       rw [Af] at hv
       have hm':nd ds x ∈ ds':=by
        rw [<- hv];simp only [ZK,QQ hlt',XN];exact List.getElem_mem hlt'
       simp only;rw [QK (λh=>h12' (h _ hm'))]
  . rw [QK hok,QK (λh=>hok h.1)]

theorem Na {e:List Ah}:∀ (r:List Ah) (bs ds bs' ds':List Int),U5 e bs->e.drop bs.length=r->Bc bs ds r=some (bs',ds')->U5 e bs'
 | [],bs,ds,bs',ds',hr,_,h=>by
  simp only [Bc,QC,QG] at h;obtain ⟨rfl,_⟩:=h;exact hr
 | x::r,bs,ds,bs',ds',hr,hd,h=>by
  obtain ⟨hx,_,hd'⟩:=Bw (d:=(0,0,0,0)) hd;simp only [Bc] at h;split at h
  . rename_i hok
    exact Na r _ _ bs' ds' (hr.step hx hok) (by simpa using hd') h
  . cases h

open Classical in
theorem A3h {n:Nat} {e:List Ah} (hN:e.length<=1048576) (hn:1048577<=n):f13 n e=some (decide (Bt e)):=by
 unfold f13;rw [T7,A5];by_cases h1:(1:Int)<=(e.length:Int)/\(e.length:Int)<=60
 . simp only [h1,and_self,decide_true,XI,ZZ]
   have:=Qk (n:=n) hN hn (k0:=λz=>some z) (k1:=λz=>ob (f23 n z (W ((z.length:Int)-1))) λr=>some (r==0)) e n [] [] Sp (λj hj=>by simp at hj) (by simp) rfl (by simp) (by omega)
   simp only [ZT] at this;refine Eq.trans this ?_
   cases hr:Bc [] [] e with
   | none =>
    have:¬ Bt e:=λ⟨_,_,_,h,_⟩=>by rw [hr] at h;cases h
    simp [this]
   | some p =>
    obtain ⟨bs,ds⟩:=p
    obtain ⟨hi,hl,_,_⟩:=Hn e [] [] bs ds Sp (by simpa using hN) hr
    simp only [ZT,XR] at hl
    have hran:=Na e [] [] bs ds (λj hj=>by simp at hj) rfl hr
    simp only;by_cases h12:∀ x ∈ ds,x<=12
    . rw [QJ h12,Aj (by omega) (by omega),Y0 hN hn hran (by omega) (by omega),A5]
      have et:((e.length:Int)-1).toNat=e.length-1:=by omega
      rw [et];by_cases hb:bs.getD (e.length-1) 0=0
      . have:Bt e:=⟨by omega,bs,ds,hr,hb,h12⟩
        rw [hb];simp [this]
      . have : ¬ Bt e := fun ⟨_, bs', ds', h, hb', _⟩ => by
         rw [hr] at h;simp only [QC,QG] at h;obtain ⟨rfl,rfl⟩:=h;exact hb hb'
        have e1:(bs.getD (e.length-1) 0==0)=false:=by simp only [beq_eq_false_iff_ne,ne_eq];exact hb
        rw [e1];simp [this]
    . have : ¬ Bt e := fun ⟨_, bs', ds', h, _, h'⟩ => by
       rw [hr] at h;simp only [QC,QG] at h;obtain ⟨rfl,rfl⟩:=h;exact h12 h'
      rw [QK h12];simp [this]
 . have:¬ Bt e:=λ⟨h,_⟩=>h1 (by omega)
   simp only [h1,decide_false,ZM,XU,this]

def dg (x:Ah) (a b:Int):Int :=
 if x.1=2 then 1 else if x.1=1 then 0 else if a<0 \/ b<0 then -1 else if x.1=3 \/ x.1=4 then max a b else if x.1=5 then W (a+b)
 else if x.1=6 then (if b>0 then -1 else a) else if x.1=8 then W (a*x.2.2.2) else a

def dv (out:List Int) (x:Ah):Int:=dg x (if 3<=x.1/\x.1<=8 then out.getD x.2.1.toNat 0 else 0) (if 3<=x.1/\x.1<=6 then out.getD x.2.2.1.toNat 0 else 0)

def Ag:List Int->List Ah->List Int
 | out,[]=>out
 | out,x::r=>Ag (out++[dv out x]) r

def Qa (e:List Ah):Prop:=∀ j,j<e.length->let x:=e.getD j (0,0,0,0);(1<=x.1/\x.1<=8)/\(3<=x.1/\x.1<=8->0<=x.2.1/\x.2.1<(j:Int))/\(3<=x.1/\x.1<=6->0<=x.2.2.1/\x.2.2.1<(j:Int))

theorem Vl {x:Ah} {j:Nat} (h:C9 x j):(1<=x.1/\x.1<=8)/\(3<=x.1/\x.1<=8->0<=x.2.1/\x.2.1<(j:Int))/\(3<=x.1/\x.1<=6->0<=x.2.2.1/\x.2.2.1<(j:Int)):=by
 unfold C9 at h;refine ⟨h.1,λh1=>?_,λh1=>?_⟩
 . split at h
   . omega
   . split at h
     . omega
     . omega
 . rw [QJ h1] at h;omega

theorem Oq {e:List Ah} (hN:e.length<=1048576) (h:Bt e):Qa e:=by
 obtain ⟨_,bs,ds,hr,_,_⟩:=h
 obtain ⟨hi,hl,_,_⟩:=Hn e [] [] bs ds Sp (by simpa using hN) hr
 have hran:=Na e [] [] bs ds (λj hj=>by simp at hj) rfl hr
 simp only [ZT,XR] at hl;intro j hj
 exact Vl (hran j (by omega)).1.1

theorem Yl {α:Type} {n:Nat} {e:List Ah} (hN:e.length<=1048576) (hk:Qa e) {out:List Int} (hlt:out.length<e.length) {f} {k0:List Int->Option α} :
  Iu n e (e.length:Int) (out.length:Int) out f k0=f e (e.length:Int) ((out.length+1:Nat):Int) (out++[dv out (e.getD out.length (0,0,0,0))]):=by
 obtain ⟨h1,h2,h3⟩:=hk out.length hlt;unfold Iu dv;generalize hx:e.getD out.length (0,0,0,0)=x at h1 h2 h3 ⊢
 rw [ZN,QJ (by omega),A6 (by simp;omega)]
 simp only [YQ,hx,Sx,A5,Aj (x:=(out.length:Int)+1) (by omega) (by omega),ZN]
 have g1:gd (decide ((out.length+1)*8<=140737488355328))=λy:Option α=>y:=by
  funext y;exact A6 (by simp;omega) y
 simp only [g1];have ec:((out.length:Int)+1)=((out.length+1:Nat):Int):=rfl;rw [<- ec];by_cases h4:3<=x.1/\x.1<=6
 . have hkd:Bn x.1=2:=by unfold Bn;rw [QJ (by omega)]
   have ha:=h2 (by omega)
   have hb:=h3 h4;simp only [hkd]
   rw [QJ (by decide),QJ (by decide),QJ (show 3<=x.1/\x.1<=8 by omega),QJ h4,A6 (by simp;omega),A6 (by simp;omega),A6 (by simp;omega),A6 (by simp;omega),A6 (by simp;omega),A6 (by simp;omega)]
   generalize out.getD x.2.1.toNat 0=a;generalize out.getD x.2.2.1.toNat 0=b;unfold dg
   have q1:(x.1==2)=false:=by simp;omega
   have q7:(x.1==7)=false:=by simp;omega
   have q8:(x.1==8)=false:=by simp;omega
   simp only [q1,q7,q8,ZZ,YH,KJ];by_cases ha':a<0
   . simp only [QJ ha']
     rw [QK (show ¬ x.1=2 by omega),QK (show ¬ x.1=1 by omega),QJ (show a<0 \/ b<0 by omega)]
     grind
   . simp only [QK ha'];by_cases hb':b<0
     . simp only [QJ hb']
       rw [QK (show ¬ x.1=2 by omega),QK (show ¬ x.1=1 by omega),QJ (show a<0 \/ b<0 by omega)]
       grind
     . simp only [QK hb']
       rw [QK (show ¬ x.1=2 by omega),QK (show ¬ x.1=1 by omega),QK (show ¬ (a<0 \/ b<0) by omega)]
       have hop:x.1=3 \/ x.1=4 \/ x.1=5 \/ x.1=6:=by omega
       rcases hop with h | h | h | h <;> simp [h];split <;> rfl
 . have h3':¬ (3<=x.1/\x.1<=6):=h4;by_cases h5:3<=x.1/\x.1<=8
   . have hop:x.1=7 \/ x.1=8:=by omega
     have hkd:Bn x.1=1:=by unfold Bn;rw [QK (by omega),QJ hop]
     have ha:=h2 (by omega)
     simp only [hkd]
     rw [QJ (by decide),QK (by decide),QJ h5,QK h4,A6 (by simp;omega),A6 (by simp;omega),A6 (by simp;omega),A6 (by simp;omega)]
     generalize out.getD x.2.1.toNat 0=a;unfold dg;by_cases ha':a<0
     . simp only [QJ ha'];rcases hop with h | h <;> simp [h,ha']
     . simp only [QK ha'];rcases hop with h | h <;> simp [h,ha',Int.mul_comm]
   . have hop:x.1=1 \/ x.1=2:=by omega
     have hkd:Bn x.1=0:=by unfold Bn;rw [QK (by omega),QK (by omega)]
     simp only [hkd]
     rw [QK (by decide),QK (by decide),QK h5,QK h4]
     unfold dg;rcases hop with h | h <;> simp [h]

theorem Tg {α:Type} {n:Nat} {e:List Ah} (hN:e.length<=1048576) (hk:Qa e) {k0:List Int->Option α}:∀ (r:List Ah) (m:Nat) (out:List Int),e.drop out.length=r->out.length+r.length=e.length->r.length<m ->
  On n m e (e.length:Int) (out.length:Int) out k0=k0 (Ag out r)
 | [],m+1,out,hd,hl,hm=>by
  rw [T9];unfold Iu;simp only [ZT] at hl
  rw [ZN,QK (by omega)]
  rfl
 | x::r,m+1,out,hd,hl,hm=>by
  obtain ⟨hx,hlt,hd'⟩:=Bw (d:=(0,0,0,0)) hd;rw [T9,Yl hN hk hlt,hx];simp only [ZI] at hl hm
  have ih:=Tg hN hk r m (out++[dv out x]) (by simpa using hd') (by simp;omega) (by omega) (n:=n) (k0:=k0)
  simp only [ZF,ZI,ZT,XR] at ih;exact ih

theorem A38 {n:Nat} {e:List Ah} (hN:e.length<=1048576) (hn:1048577<=n) (hk:Qa e):f19 n e=some (Ag [] e):=by
 unfold f19
 exact Tg (n:=n) hN hk (k0:=λz=>some z) e n [] rfl (by simp) (by omega)

theorem Ou:∀ (r:List Ah) (out:List Int),(Ag out r).length=out.length+r.length
 | [],out=>by simp [Ag]
 | x::r,out=>by simp [Ag,Ou r];omega

theorem H7:∀ (r:List Ah) (out:List Int) (j:Nat),j<out.length->(Ag out r).getD j 0=out.getD j 0
 | [],out,j,hj=>rfl
 | x::r,out,j,hj=>by
  simp only [Ag]
  rw [H7 r _ j (by simp;omega),Ai hj]

theorem R0 {e:List Ah} (hk:Qa e):∀ (r:List Ah) (out:List Int),e.drop out.length=r->∀ j,out.length<=j->j<e.length->(Ag out r).getD j 0=dv (Ag out r) (e.getD j (0,0,0,0))
 | [],out,hd,j,h1,h2=>by
  have:=List.drop_eq_nil_iff.1 hd;omega
 | x::r,out,hd,j,h1,h2=>by
  obtain ⟨hx,hlt,hd'⟩:=Bw (d:=(0,0,0,0)) hd;simp only [Ag];rcases XJ out.length j with h | h
  . exact R0 hk r (out++[dv out x]) (by simpa using hd') j (by simp;omega) h2
  . obtain rfl:j=out.length:=by omega
    rw [H7 r _ _ (by simp),Af,hx]
    obtain ⟨_,k1,k2⟩:=hk out.length hlt;rw [hx] at k1 k2;unfold dv;congr 1
    . by_cases h3:3<=x.1/\x.1<=8
      . have:=k1 h3
        rw [QJ h3,QJ h3,H7 r _ _ (by simp;omega),Ai (by omega)]
      . rw [QK h3,QK h3]
    . by_cases h3:3<=x.1/\x.1<=6
      . have:=k2 h3
        rw [QJ h3,QJ h3,H7 r _ _ (by simp;omega),Ai (by omega)]
      . rw [QK h3,QK h3]

theorem A3f {n:Nat} {e:List Ah} (hN:e.length<=1048576) (hk:Qa e):∀ (j d:Nat),j<e.length->j<d->f14 n d e (j:Int)=some ((Ag [] e).getD j 0):=by
 intro j
 induction j using Nat.strongRecOn with
 | ind j ih =>
  intro d hj hd
  obtain ⟨d,rfl⟩:∃ d',d=d'+1:=⟨d-1,by omega⟩
  obtain ⟨h1,h2,h3⟩:=hk j hj
  rw [R0 hk e [] rfl j (by simp) hj]
  unfold dv;rw [f14];generalize hx:e.getD j (0,0,0,0)=x at h1 h2 h3 ⊢
  rw [A6 (by simp;omega)]
  simp only [YQ,hx,Ol,A5,YH,KJ,QR];by_cases h4:3<=x.1/\x.1<=8
  . have ha:=h2 h4
    have e1:=ih x.2.1.toNat (by omega) d (by omega) (by omega)
    rw [show ((x.2.1.toNat:Nat):Int)=x.2.1 by omega] at e1
    rw [QK (show ¬ x.1=2 by omega),QK (show ¬ x.1=1 by omega),e1,A5,QJ h4]
    generalize (Ag [] e).getD x.2.1.toNat 0=a;by_cases h5:3<=x.1/\x.1<=6
    . have hb:=h3 h5
      have e2:=ih x.2.2.1.toNat (by omega) d (by omega) (by omega)
      rw [show ((x.2.2.1.toNat:Nat):Int)=x.2.2.1 by omega] at e2
      rw [QJ h5,e2,A5,QJ h5];generalize (Ag [] e).getD x.2.2.1.toNat 0=b;unfold dg
      rw [QK (show ¬ x.1=2 by omega),QK (show ¬ x.1=1 by omega)]
      by_cases ha':a<0
      . rw [QJ ha',QJ (by omega)]
      . rw [QK ha'];by_cases hb':b<0
        . rw [QJ hb',QJ (by omega)]
        . rw [QK hb',QK (show ¬ (a<0 \/ b<0) by omega)]
          have hop:x.1=3 \/ x.1=4 \/ x.1=5 \/ x.1=6:=by omega
          rcases hop with h | h | h | h <;> simp [h];split <;> rfl
    . rw [QK h5,QK h5];unfold dg
      rw [QK (show ¬ x.1=2 by omega),QK (show ¬ x.1=1 by omega)]
      by_cases ha':a<0
      . rw [QJ ha',QJ (by omega)]
      . rw [QK ha',QK (by omega),QK (show ¬ (a<0 \/ (0:Int)<0) by omega)]
        have hop:x.1=7 \/ x.1=8:=by omega
        rcases hop with h | h <;> simp [h]
  . have hop:x.1=1 \/ x.1=2:=by omega
    rw [QK h4,QK (show ¬ (3<=x.1/\x.1<=6) by omega)]
    unfold dg;rcases hop with h | h <;> simp [h]

theorem Y9 {n:Nat} {b:Bool} {c:Int}:f12 n b c=some (if b=true then 0 else c):=by unfold f12;cases b <;> rfl

open Classical in
theorem Yd {n:Nat} {e:List Ah} (hN:e.length<=1048576) (hn:1048577<=n):f10 n e=some (if Bt e then 0 else 1):=by
 unfold f10;rw [A3b hN hn,A5,Y9,A5];by_cases h:Bt e <;> simp [h]

theorem Yb {n:Nat} {e:List Ah} (hN:e.length<=1048576) (hn:1048577<=n) (h:Bt e):f11 n e=some ((Ag [] e).getD (e.length-1) 0):=by
 have h1:=h.1;unfold f11
 rw [A38 hN hn (Oq hN h),A5,Aj (by omega) (by omega),A6 (by simp [Ou];omega)]
 rw [show ((e.length:Int)-1).toNat=e.length-1 by omega]

theorem A05 {n:Nat} {e:List Ah} (hN:e.length<=1048576) (hn:1048577<=n) (h:Bt e):f14 n n e (W ((e.length:Int)-1))=some ((Ag [] e).getD (e.length-1) 0):=by
 have h1:=h.1
 rw [Aj (by omega) (by omega)]
 have:=A3f (n:=n) hN (Oq hN h) (e.length-1) n (by omega) (by omega)
 rw [show ((e.length-1:Nat):Int)=(e.length:Int)-1 by omega] at this
 exact this

abbrev U0:=List Int × Int × Int

def Cw (P:Int) (s:U0):Prop:=(∀ x ∈ s.1,0<=x/\x<=255)/\s.1.length<=1048576/\(0<=s.2.1/\s.2.1<=P)/\0<=s.2.2/\s.2.2<2147483648

theorem A0b {l:List Int} (h:∀ x ∈ l,0<=x/\x<=255) (k:Nat):0<=l.getD k 0/\l.getD k 0<=255:=by
 rw [ZK]
 cases e:l[k]? with
 | none=>simp
 | some x=>exact h x (ZA e)

theorem J3 {x m:Int} (h:0<=x):Int.tmod x m=x % m:=Int.tmod_eq_emod_of_nonneg h

theorem T2 {n:Nat} {P:Int} {s:U0} (h:Cw P s) (hP:P<=1099511627776):∃ b s',Ng n s=some (b,s')/\(0<=b/\b<=255)/\Cw (P+1) s':=by
 obtain ⟨l,p,d⟩:=s;obtain ⟨h1,h2,⟨h3,h4⟩,h5,h6⟩:=h;dsimp only at h1 h2 h3 h4 h5 h6;unfold Ng;dsimp only
 rw [Aj (x:=p+1) (by omega) (by omega),Aj (x:=p+1-1) (by omega) (by omega),ZN]
 have hb:=A0b h1 (p+1-1).toNat;by_cases hc:p+1<=(l.length:Int)
 . rw [QJ hc,A6 (by simp;omega),A6 (by simp;omega)]
   generalize l.getD (p+1-1).toNat 0=b at *
   rw [Aj (x:=b) (by omega) (by omega),Aj (x:=d*31) (by omega) (by omega),Aj (x:=d*31+b) (by omega) (by omega),Aj (x:=d*31+b+7) (by omega) (by omega),J3 (by omega)]
   exact ⟨_,_,rfl,by omega,h1,h2,by dsimp only;omega,by dsimp only;omega,by dsimp only;omega⟩
 . rw [QK hc,ZN];by_cases hc2:p+1>3000
   . rw [QJ hc2]
     exact ⟨_,_,rfl,by omega,h1,h2,by dsimp only;omega,h5,h6⟩
   . rw [QK hc2,Aj (x:=d*1103515245) (by omega) (by omega),Aj (x:=d*1103515245+12345) (by omega) (by omega),J3 (x:=d*1103515245+12345) (by omega)]
     generalize hz:(d*1103515245+12345) % 2147483648=z
     have hz2:0<=z/\z<2147483648:=by omega
     rw [Int.tdiv_eq_ediv_of_nonneg (a:=z) (by omega),Aj (x:=z / 65536) (by omega) (by omega),J3 (x:=z / 65536) (by omega)]
     exact ⟨_,_,rfl,by omega,h1,h2,by dsimp only;omega,by dsimp only;omega,by dsimp only;omega⟩

theorem Y3 {n:Nat} {P k:Int} {s:U0} (h:Cw P s) (hP:P<=1099511627000) (hk:1<k) (hk':k<=1048576):∃ v s',Ff n s k=some (v,s')/\(0<=v/\v<k)/\Cw (P+3) s':=by
 unfold Ff
 rw [ZN,QK (by omega),ZN]
 obtain ⟨b1,s1,e1,r1,o1⟩:=T2 (n:=n) h (by omega)
 rw [e1];by_cases hc:k<=256
 . rw [QJ hc,A5,A6 (by simp;omega),J3 r1.1]
   have:=Int.emod_nonneg b1 (show k ≠ 0 by omega)
   have:=Int.emod_lt_of_pos b1 (show 0<k by omega)
   exact ⟨_,_,rfl,by omega,o1.1,o1.2.1,⟨o1.2.2.1.1,by have:=o1.2.2.1.2;show s1.2.1<=P+3;omega⟩,o1.2.2.2⟩
 . rw [QK hc,A5]
   obtain ⟨b2,s2,e2,r2,o2⟩:=T2 (n:=n) o1 (by omega)
   rw [e2,A5]
   obtain ⟨b3,s3,e3,r3,o3⟩:=T2 (n:=n) o2 (by omega)
   rw [e3,A5];dsimp only
   rw [A6 (by simp;omega),Aj (x:=b1*65536) (by omega) (by omega),Aj (x:=b2*256) (by omega) (by omega),Aj (x:=b1*65536+b2*256) (by omega) (by omega),Aj (x:=b1*65536+b2*256+b3) (by omega) (by omega),J3 (by omega)]
   have:=Int.emod_nonneg (b1*65536+b2*256+b3) (show k ≠ 0 by omega)
   have:=Int.emod_lt_of_pos (b1*65536+b2*256+b3) (show 0<k by omega)
   exact ⟨_,_,rfl,by omega,o3.1,o3.2.1,⟨o3.2.2.1.1,by have:=o3.2.2.1.2;show s3.2.1<=P+3;omega⟩,o3.2.2.2⟩

theorem A32 {n:Nat} {P k:Int} {s:U0} (h:Cw P s) (hP:P<=1099511627000) (hk:1<k) (hk':k<=1048576):∃ v s',T3 n s k=some (v,s')/\Cw (P+3) s':=by
 unfold T3;obtain ⟨v,s',e,_,o⟩:=Y3 (n:=n) h hP hk hk';rw [e,A5];exact ⟨_,_,rfl,o⟩

theorem A4r {l:List Int} (h:∀ x ∈ l,0<=x/\x<=255) (hl:l.length<=1048576):Cw 0 (l,0,Int.tmod (l.length:Int) 1000) :=
 ⟨h,hl,⟨Int.le_refl _,Int.le_refl _⟩,by rw [J3 (by omega)];dsimp only;omega,by rw [J3 (by omega)];dsimp only;omega⟩

inductive Bb (dim:Int):Nat->Nat->List Ah->Prop
 | num (r k:Nat) (c:Int) (h:0<=c/\c<=5):Bb dim (r+1) k [(1,0,0,c)]
 | var (r k:Nat) (v:Int) (h:0<=v/\v<dim):Bb dim (r+1) k [(2,0,0,v)]
 | neg (r k:Nat) (t:List Ah) (h:Bb dim r k t):Bb dim (r+1) k (t++[(7,((k+t.length:Nat):Int)-1,0,0)])
 | pow (r k:Nat) (t:List Ah) (p:Int) (hp:0<=p/\p<=3) (h:Bb dim (min r 2) k t):Bb dim (r+1) k (t++[(8,((k+t.length:Nat):Int)-1,0,p)])
 | bin (r k:Nat) (t u:List Ah) (op:Int) (ho:3<=op/\op<=6) (h1:Bb dim r k t) (h2:Bb dim r (k+t.length) u) :
   Bb dim (r+1) k (t++u++[(op,((k+t.length:Nat):Int)-1,((k+t.length+u.length:Nat):Int)-1,0)])

theorem Bb.pos {dim:Int} {r k:Nat} {t:List Ah} (h:Bb dim r k t):0<t.length:=by cases h <;> simp <;> omega

theorem Bb.len {dim:Int} {r k:Nat} {t:List Ah} (h:Bb dim r k t):t.length+1<=2 ^ r:=by
 induction h with
 | num r k c h=>have:=Nat.one_le_two_pow (n:=r);simp [YM];omega
 | var r k c h=>have:=Nat.one_le_two_pow (n:=r);simp [YM];omega
 | neg r k t h ih=>simp [YM];have:=h.pos;omega
 | pow r k t p hp h ih =>
  have:=ZR (n:=2) (by omega) (show min r 2<=r by omega)
  have:=h.pos;simp [YM];omega
 | bin r k t u op ho h1 h2 ih1 ih2=>simp [YM];omega

theorem Ho:∀ (t u:List Ah) (bs ds bs' ds':List Int),Bc bs ds t=some (bs',ds')->Bc bs ds (t++u)=Bc bs' ds' u
 | [],u,bs,ds,bs',ds',h=>by
  simp only [Bc,QC,QG] at h;obtain ⟨rfl,rfl⟩:=h;rfl
 | x::t,u,bs,ds,bs',ds',h=>by
  simp only [Bc,XY] at h ⊢;split at h
  . rename_i hx;rw [QJ hx];exact Ho t u _ _ _ _ h
  . cases h

theorem Hm {bs ds:List Int} {x:Ah} (h:okP bs x bs.length):Bc bs ds [x]=some (bs++[nb bs x bs.length],ds++[nd ds x]):=by
 simp only [Bc,QJ h]

theorem C5 {l m:List Int} {k j:Nat} (h:l.length=k):(l++m).getD (k+j) 0=m.getD j 0:=by
 subst h;simp only [List.getD]
 rw [QZ (by omega),Nat.add_sub_cancel_left]

theorem I6 {l:List Int} {j:Nat} (h:j<l.length):l.getD j 0 ∈ l:=by
 simp [List.getD,QQ h]

theorem B7 {k m:Nat} (h:0<m):(((k+m:Nat):Int)-1).toNat=k+(m-1):=by omega

theorem Bb.run {dim:Int} (hdim:dim<=4) {r k:Nat} {t:List Ah} (h:Bb dim r k t):∀ (bs ds:List Int),bs.length=k->ds.length=k ->
  ∃ bs' ds',Bc bs ds t=some (bs++bs',ds++ds')/\bs'.length=t.length/\ds'.length=t.length/\bs'.getD (t.length-1) 0=k /\ ∀ x ∈ ds',x<=r:=by
 induction h with
 | num r k c h =>
  intro bs ds hb hd
  refine ⟨[(k:Int)],[1],?_,rfl,rfl,rfl,by simp;omega⟩
  rw [Hm ⟨by unfold C9;simp;omega,by simp⟩]
  simp [nb,nd,hb]
 | var r k v h =>
  intro bs ds hb hd
  refine ⟨[(k:Int)],[1],?_,rfl,rfl,rfl,by simp;omega⟩
  rw [Hm ⟨by unfold C9;simp;omega,by simp⟩]
  simp [nb,nd,hb]
 | neg r k t h ih =>
  intro bs ds hb hd;obtain ⟨b',d',h1,h2,h3,h4,h5⟩:=ih bs ds hb hd;have hp:=h.pos
  have hlen:(bs++b').length=k+t.length:=by simp [hb,h2]
  rw [Ho t _ bs ds _ _ h1,Hm ⟨by rw [hlen];unfold C9;simp;omega,by simp⟩]
  refine ⟨b'++[nb (bs++b') (7,((k+t.length:Nat):Int)-1,0,0) (bs++b').length],d'++[nd (ds++d') (7,((k+t.length:Nat):Int)-1,0,0)],by simp,by simp [h2],by simp [h3],?_,?_⟩
  . have e:(t++[((7:Int),((k+t.length:Nat):Int)-1,(0:Int),(0:Int))]).length-1=b'.length:=by simp [h2]
    rw [e,Af];simp only [nb]
    rw [QJ (by omega),B7 hp,C5 hb,h4]
  . intro x hx;rcases QE.1 hx with hx | hx
    . have:=h5 x hx;omega
    . simp only [QL] at hx;rw [hx];simp only [nd]
      rw [QK (by omega),QJ (by simp),B7 hp,C5 hd]
      have:d'.getD (t.length-1) 0<=r:=by
       exact h5 _ (I6 (by omega))
      omega
 | pow r k t p hp0 h ih =>
  intro bs ds hb hd;obtain ⟨b',d',h1,h2,h3,h4,h5⟩:=ih bs ds hb hd;have hp:=h.pos
  have hlen:(bs++b').length=k+t.length:=by simp [hb,h2]
  rw [Ho t _ bs ds _ _ h1,Hm ⟨by rw [hlen];unfold C9;simp;omega,by simp⟩]
  refine ⟨b'++[nb (bs++b') (8,((k+t.length:Nat):Int)-1,0,p) (bs++b').length],d'++[nd (ds++d') (8,((k+t.length:Nat):Int)-1,0,p)],by simp,by simp [h2],by simp [h3],?_,?_⟩
  . have e:(t++[((8:Int),((k+t.length:Nat):Int)-1,(0:Int),p)]).length-1=b'.length:=by simp [h2]
    rw [e,Af];simp only [nb]
    rw [QJ (by omega),B7 hp,C5 hb,h4]
  . intro x hx;rcases QE.1 hx with hx | hx
    . have:=h5 x hx;omega
    . simp only [QL] at hx;rw [hx];simp only [nd]
      rw [QK (by omega),QJ (by simp),B7 hp,C5 hd]
      have:d'.getD (t.length-1) 0<=((min r 2:Nat):Int):=by
       exact h5 _ (I6 (by omega))
      omega
 | bin r k t u op ho h1 h2 ih1 ih2 =>
  intro bs ds hb hd;obtain ⟨b1,d1,a1,a2,a3,a4,a5⟩:=ih1 bs ds hb hd;have hp1:=h1.pos;have hp2:=h2.pos
  obtain ⟨b2,d2,c1,c2,c3,c4,c5⟩:=ih2 (bs++b1) (ds++d1) (by simp [hb,a2]) (by simp [hd,a3])
  have hlen:(bs++b1++b2).length=k+t.length+u.length:=by simp [hb,a2,c2];omega
  have eB:(bs++b1++b2).getD (((k+t.length+u.length:Nat):Int)-1).toNat 0=((k+t.length:Nat):Int):=by
   rw [B7 hp2,C5 (by simp [hb,a2]),c4]
  have eA:(bs++b1++b2).getD (((k+t.length:Nat):Int)-1).toNat 0=(k:Int):=by
   rw [B7 hp1,ZG,C5 hb,Ai (by omega),a4]
  have hrun:Bc bs ds (t++u)=some (bs++b1++b2,ds++d1++d2):=by rw [Ho t u bs ds _ _ a1,c1]
  rw [Ho (t++u) _ bs ds _ _ hrun,Hm ⟨by rw [hlen];unfold C9;rw [QJ (show 3<=op/\op<=6 from ho)];simp;omega,λ_=>⟨by rw [hlen],by
   show (bs++b1++b2).getD (((k+t.length+u.length:Nat):Int)-1).toNat 0=(((k+t.length:Nat):Int)-1)+1
   rw [eB];omega⟩⟩]
  refine ⟨b1++b2++[nb (bs++b1++b2) (op,((k+t.length:Nat):Int)-1,((k+t.length+u.length:Nat):Int)-1,0) (bs++b1++b2).length],d1++d2++[nd (ds++d1++d2) (op,((k+t.length:Nat):Int)-1,((k+t.length+u.length:Nat):Int)-1,0)],by simp [ZG],by simp [a2,c2],by simp [a3,c3],?_,?_⟩
  . have e:(t++u++[(op,((k+t.length:Nat):Int)-1,((k+t.length+u.length:Nat):Int)-1,(0:Int))]).length-1=(b1++b2).length:=by simp [a2,c2]
    rw [e,Af];simp only [nb]
    rw [QJ (by omega),eA]
  . intro x hx;rcases QE.1 hx with hx | hx
    . rcases QE.1 hx with hx | hx
      . have:=a5 x hx;omega
      . have:=c5 x hx;omega
    . simp only [QL] at hx;rw [hx];simp only [nd]
      rw [QJ (by omega),B7 hp1,B7 hp2]
      have g1:(ds++d1++d2).getD (k+(t.length-1)) 0<=r:=by
       rw [ZG,C5 hd,Ai (by omega)]
       exact a5 _ (I6 (by omega))
      have g2:(ds++d1++d2).getD (k+t.length+(u.length-1)) 0<=r:=by
       rw [C5 (by simp [hd,a3])]
       exact c5 _ (I6 (by omega))
      omega

theorem Bb.expr {dim:Int} (hdim:dim<=4) {r:Nat} {t:List Ah} (h:Bb dim r 0 t) (hr:r<=5):Bt t:=by
 obtain ⟨bs,ds,h1,h2,h3,h4,h5⟩:=h.run hdim [] [] rfl rfl;have:=h.pos;have h6:=h.len
 have:=ZR (n:=2) (by omega) hr
 exact ⟨by omega,bs,ds,by simpa using h1,by simpa using h4,λx hx=>by have:=h5 x hx;omega⟩

theorem Cw.up {P Q:Int} {s:U0} (h:Cw P s) (hq:P<=Q):Cw Q s:=⟨h.1,h.2.1,⟨h.2.2.1.1,Int.le_trans h.2.2.1.2 hq⟩,h.2.2.2⟩

theorem Hg {n:Nat} {P k:Int} {s:U0} (h:Cw P s) (hP:P<=1099511627000) (hk:1<=k) (hk':k<=1048576):∃ v s',Ff n s k=some (v,s')/\(0<=v/\v<k)/\Cw (P+3) s':=by
 by_cases h1:k=1
 . subst h1
   exact ⟨0,s,by unfold Ff;rfl,by omega,h.up (by omega)⟩
 . exact Y3 h hP (by omega) hk'

theorem A2a {v:Int} (h:0<=v/\v<6):3<=[(3:Int),3,4,5,5,6].getD v.toNat 0/\[(3:Int),3,4,5,5,6].getD v.toNat 0<=6:=by
 obtain ⟨h0,h1⟩:=h
 have:v=0 \/ v=1 \/ v=2 \/ v=3 \/ v=4 \/ v=5:=by omega
 rcases this with rfl | rfl | rfl | rfl | rfl | rfl <;> decide

theorem L9 {n:Nat} {dim:Int} (hdim:1<=dim/\dim<=4) {dv:Bool}:∀ (d r:Nat) {P:Int} {s:U0} {nodes:List Ah},1<=r->r<=d->r<=5->Cw P s->P+12*4 ^ r<=1000000000->nodes.length+2 ^ r<=1000000 ->
  ∃ s' t,La n d s nodes (r:Int) dim dv=some ((),s',nodes++t)/\Bb dim r nodes.length t/\Cw (P+12*4 ^ r) s'
 | 0,r,P,s,nodes,h1,h2,_,_,_,_=>by omega
 | d+1,r,P,s,nodes,h1,h2,h5,hs,hP,hN=>by
  have h4:(4:Int) ^ r>=4:=by
   obtain ⟨q,rfl⟩:∃ q,r=q+1:=⟨r-1,by omega⟩
   have:(1:Int)<=4 ^ q:=Int.pow_pos (by omega)
   rw [Int.pow_succ];omega
  have h22:1<=2 ^ r:=Nat.one_le_two_pow
  obtain ⟨k0,s1,e1,hk,hs1⟩:=Hg (n:=n) (k:=9) hs (by omega) (by omega) (by omega)
  rw [La,e1,A5];dsimp only
  have leaf:∃ s' t,(ob (T3 n s1 3) λr_3 =>
    bif r_3.1 then
     ob (Ff n r_3.2 6) λr_4 =>
     gd (decide ((nodes.length+1)*32<=140737488355328)) (
      some ((),r_4.2,(nodes++[(1,0,0,r_4.1)])))
    else
     ob (Ff n r_3.2 dim) λr_5 =>
     gd (decide ((nodes.length+1)*32<=140737488355328)) (
      some ((),r_5.2,(nodes++[(2,0,0,r_5.1)]))))=some ((),s',nodes++t)/\Bb dim r nodes.length t/\Cw (P+12*4 ^ r) s':=by
   obtain ⟨q,rfl⟩:∃ q,r=q+1:=⟨r-1,by omega⟩
   obtain ⟨b,s2,e2,hs2⟩:=A32 (n:=n) (k:=3) hs1 (by omega) (by omega) (by omega)
   rw [e2,A5]
   cases b with
   | true =>
    obtain ⟨c,s3,e3,hc,hs3⟩:=Hg (n:=n) (k:=6) hs2 (by omega) (by omega) (by omega)
    simp only [XU]
    rw [e3,A5,A6 (by rw [QR];omega)]
    exact ⟨s3,_,rfl,.num q _ c (by omega),hs3.up (by omega)⟩
   | false =>
    obtain ⟨c,s3,e3,hc,hs3⟩:=Hg (n:=n) (k:=dim) hs2 (by omega) (by omega) (by omega)
    simp only [ZZ]
    rw [e3,A5,A6 (by rw [QR];omega)]
    exact ⟨s3,_,rfl,.var q _ c (by omega),hs3.up (by omega)⟩
  by_cases hr:(r:Int)<=1
  . rw [YY hr];exact leaf
  rw [YU hr];by_cases hl:((nodes.length:Int)>30)
  . rw [YY hl];exact leaf
  rw [YU hl];by_cases h3:k0<3
  . rw [YY h3];exact leaf
  rw [YU h3];simp only [ZZ]
  obtain ⟨q,rfl⟩:∃ q,r=q+1:=⟨r-1,by omega⟩
  have hq1:1<=q:=by omega
  have e4:(4:Int) ^ (q+1)=4*4 ^ q:=by rw [Int.pow_succ];omega
  have e2:2 ^ (q+1)=2*2 ^ q:=by rw [YM];omega
  have h4q:(4:Int) ^ q>=4:=by
   obtain ⟨q',rfl⟩:∃ q',q=q'+1:=⟨q-1,by omega⟩
   have:(1:Int)<=4 ^ q':=Int.pow_pos (by omega)
   rw [Int.pow_succ];omega
  have w1:W (((q+1:Nat):Int)-1)=(q:Int):=by rw [Aj (by omega) (by omega)];omega
  rw [w1]
  have wl:∀ m:Nat,m<=1000000->W ((m:Int)-1)=(m:Int)-1:=λm hm=>Aj (by omega) (by omega)
  by_cases h7:k0=3
  . subst h7;simp only [beq_self_eq_true,XU]
    obtain ⟨s2,t,e3,ht,hs2⟩:=L9 hdim d q (n:=n) (dv:=dv) (nodes:=nodes) hq1 (by omega) (by omega) hs1 (by omega) (by omega)
    have hlt:=ht.len
    rw [e3,A5,A6 (by rw [QR];simp only [ZF];omega),ZG,wl _ (by rw [ZF];omega),ZF]
    exact ⟨s2,_,rfl,.neg q _ t ht,hs2.up (by omega)⟩
  . rw [beq_eq_false_iff_ne.2 h7];simp only [ZZ];by_cases h8:k0=4
    . subst h8;simp only [beq_self_eq_true,XU]
      have em:min (q:Int) 2=((min q 2:Nat):Int):=by omega
      have hm:=ZR (n:=2) (by omega) (show min q 2<=q by omega)
      have hm4:(4:Int) ^ (min q 2)<=4 ^ q:=by
       have:=ZR (n:=4) (by omega) (show min q 2<=q by omega)
       exact_mod_cast this
      obtain ⟨s2,t,e3,ht,hs2⟩:=L9 hdim d (min q 2) (n:=n) (dv:=dv) (nodes:=nodes) (by omega) (by omega) (by omega) hs1 (by omega) (by omega)
      have hlt:=ht.len
      obtain ⟨c,s3,e5,hc,hs3⟩:=Hg (n:=n) (k:=4) hs2 (by omega) (by omega) (by omega)
      rw [em,e3,A5,e5,A5,A6 (by rw [QR];simp only [ZF];omega),ZG,wl _ (by rw [ZF];omega),ZF]
      exact ⟨s3,_,rfl,.pow q _ t c (by omega) ht,hs3.up (by omega)⟩
    . rw [beq_eq_false_iff_ne.2 h8];simp only [ZZ];rw [Xx,A5]
      obtain ⟨v,s2,e3,hv,hs2⟩:=Hg (n:=n) (k:=W (5+(if dv=true then 1 else 0))) hs1 (by omega) (by rw [Aj (by split <;> omega) (by split <;> omega)];split <;> omega) (by rw [Aj (by split <;> omega) (by split <;> omega)];split <;> omega)
      have hv6:0<=v/\v<6:=by
       rw [Aj (by split <;> omega) (by split <;> omega)] at hv
       refine ⟨hv.1,?_⟩;have:=hv.2;split at this <;> omega
      rw [e3,A5,A6 (by simp [hv6]),A6 (by rw [QR];omega)]
      obtain ⟨s3,t,e5,ht,hs3⟩:=L9 hdim d q (n:=n) (dv:=dv) (nodes:=nodes) hq1 (by omega) (by omega) hs2 (by omega) (by omega)
      have hlt:=ht.len;rw [e5,A5]
      obtain ⟨s4,u,e6,hu,hs4⟩:=L9 hdim d q (n:=n) (dv:=dv) (nodes:=nodes++t) hq1 (by omega) (by omega) hs3 (by omega) (by rw [ZF];omega)
      have hlu:=hu.len
      rw [e6,A5,A6 (by rw [QR];simp only [ZF];omega),wl _ (by rw [ZF];omega),wl _ (by simp only [ZF];omega)]
      refine ⟨s4,t++u++[([(3:Int),3,4,5,5,6].getD v.toNat 0,((nodes.length+t.length:Nat):Int)-1,((nodes.length+t.length+u.length:Nat):Int)-1,0)],?_,.bin q _ t u _ (A2a hv6) ht (by rw [<- ZF];exact hu),hs4.up (by omega)⟩
      simp only [ZF,ZG,KM]

theorem A3w {n:Nat} {l:List Int} {dim:Int} {dv:Bool} (hn:5<=n) (h:∀ x ∈ l,0<=x/\x<=255) (hl:l.length<=1048576) (hdim:1<=dim/\dim<=4) :
  ∃ e r,f4 n l dim dv=some e/\Bb dim r 0 e/\r<=4:=by
 unfold f4 f8B f9B;rw [A5]
 obtain ⟨c,s1,e1,hc,hs1⟩:=Hg (n:=n) (k:=3) (A4r h hl) (by omega) (by omega) (by omega)
 rw [e1,A5]
 have hw:W (2+c)=(((2+c).toNat:Nat):Int):=by rw [Aj (by omega) (by omega)];omega
 have h4:(4:Int) ^ (2+c).toNat<=4 ^ 4:=by
  have:=ZR (n:=4) (by omega) (show (2+c).toNat<=4 by omega)
  exact_mod_cast this
 have h2:=ZR (n:=2) (by omega) (show (2+c).toNat<=4 by omega)
 have e44:(4:Int) ^ 4=256:=by decide
 obtain ⟨s2,t,e2,ht,_⟩:=L9 hdim n (2+c).toNat (n:=n) (dv:=dv) (nodes:=[]) (by omega) (by omega) (by omega) hs1 (by omega) (by simp only [ZT];omega)
 have hlt:=ht.len;rw [hw];dsimp only
 rw [e2,A5,List.nil_append,A6 (by rw [decide_eq_true_eq];dsimp only;omega),A5]
 exact ⟨t,_,rfl,ht,by omega⟩

theorem Dy:∀ (t u out:List Ah) (o:List Int),Ag o (t++u)=Ag (Ag o t) u
 | [],_,_,_=>rfl
 | x::t,u,out,o=>by simp only [XY,Ag];exact Dy t u out _

theorem p3c (k:Nat):((3 ^ k:Nat):Int)=(3:Int) ^ k:=by rw [Int.natCast_pow];rfl

theorem Bb.deg {dim:Int} {r k:Nat} {t:List Ah} (h:Bb dim r k t):r<=8->∀ (o:List Int),o.length=k ->
  ∃ o',Ag o t=o++o'/\o'.length=t.length /\ -1<=o'.getD (t.length-1) 0/\o'.getD (t.length-1) 0<=3 ^ r:=by
 have p1:∀ r:Nat,(1:Int)<=3 ^ r:=λr=>Int.pow_pos (by omega)
 have ps:∀ r:Nat,(3:Int) ^ (r+1)=3*3 ^ r:=λr=>by rw [Int.pow_succ];omega
 have p8:∀ r:Nat,r<=8->(3:Int) ^ r<=6561:=λr hr=>by
  have:=ZR (n:=3) (by omega) hr
  have e:(3:Nat) ^ 8=6561:=by decide
  have:=p3c r;omega
 induction h with
 | num r k c h=>intro _ o ho;exact ⟨[0],by simp [Ag,dv,dg],rfl,by simp,by have:=p1 (r+1);simp;omega⟩
 | var r k v h=>intro _ o ho;exact ⟨[1],by simp [Ag,dv,dg],rfl,by simp,by have:=p1 (r+1);simp;omega⟩
 | neg r k t h ih =>
  intro hr o ho
  obtain ⟨o',h1,h2,h3,h4⟩:=ih (by omega) o ho
  have hp:=h.pos
  refine ⟨o'++[dv (o++o') (7,((k+t.length:Nat):Int)-1,0,0)],by rw [Dy t _ t,h1];simp [Ag],by simp [h2],?_⟩
  have e:(t++[((7:Int),((k+t.length:Nat):Int)-1,(0:Int),(0:Int))]).length-1=o'.length:=by simp [h2]
  rw [e,Af]
  have ea:(o++o').getD (((k+t.length:Nat):Int)-1).toNat 0=o'.getD (t.length-1) 0:=by rw [B7 hp,C5 ho]
  simp only [dv]
  rw [QJ (by omega),QK (by omega),ea]
  generalize o'.getD (t.length-1) 0=v at h3 h4;have:=ps r;have:=p1 r;unfold dg;simp;omega
 | pow r k t p hp0 h ih =>
  intro hr o ho
  obtain ⟨o',h1,h2,h3,h4⟩:=ih (by omega) o ho
  have hp:=h.pos
  refine ⟨o'++[dv (o++o') (8,((k+t.length:Nat):Int)-1,0,p)],by rw [Dy t _ t,h1];simp [Ag],by simp [h2],?_⟩
  have e:(t++[((8:Int),((k+t.length:Nat):Int)-1,(0:Int),p)]).length-1=o'.length:=by simp [h2]
  rw [e,Af]
  have ea:(o++o').getD (((k+t.length:Nat):Int)-1).toNat 0=o'.getD (t.length-1) 0:=by rw [B7 hp,C5 ho]
  simp only [dv]
  rw [QJ (by omega),QK (by omega),ea]
  generalize o'.getD (t.length-1) 0=v at h3 h4;have:=ps r;have:=p1 r
  have hm:(3:Int) ^ (min r 2)<=3 ^ r:=by
   have:=ZR (n:=3) (by omega) (show min r 2<=r by omega)
   exact_mod_cast this
  have:=p8 r (by omega)
  have hpv:p=0 \/ p=1 \/ p=2 \/ p=3:=by omega
  unfold dg;simp;by_cases hv:v<0
  . rw [QJ hv];omega
  . rw [QK hv];rcases hpv with rfl | rfl | rfl | rfl
    . rw [Int.mul_zero,Aj (by omega) (by omega)];omega
    . rw [Int.mul_one,Aj (by omega) (by omega)];omega
    . rw [Aj (by omega) (by omega)];omega
    . rw [Aj (by omega) (by omega)];omega
 | bin r k t u op ho h1 h2 ih1 ih2 =>
  intro hr o hol
  obtain ⟨o1,a1,a2,a3,a4⟩:=ih1 (by omega) o hol
  have hp1:=h1.pos;have hp2:=h2.pos
  obtain ⟨o2,c1,c2,c3,c4⟩:=ih2 (by omega) (o++o1) (by simp [hol,a2])
  refine ⟨o1++o2++[dv (o++o1++o2) (op,((k+t.length:Nat):Int)-1,((k+t.length+u.length:Nat):Int)-1,0)],by rw [Dy (t++u) _ t,Dy t u t,a1,c1];simp [Ag],by simp [a2,c2],?_⟩
  have e:(t++u++[(op,((k+t.length:Nat):Int)-1,((k+t.length+u.length:Nat):Int)-1,(0:Int))]).length-1=(o1++o2).length:=by simp [a2,c2]
  rw [e,Af]
  have eB:(o++o1++o2).getD (((k+t.length+u.length:Nat):Int)-1).toNat 0=o2.getD (u.length-1) 0:=by
   rw [B7 hp2,C5 (by simp [hol,a2])]
  have eA:(o++o1++o2).getD (((k+t.length:Nat):Int)-1).toNat 0=o1.getD (t.length-1) 0:=by
   rw [B7 hp1,ZG,C5 hol,Ai (by omega)]
  simp only [dv]
  rw [QJ (by omega),QJ ho,eA,eB]
  generalize o1.getD (t.length-1) 0=v at a3 a4;generalize o2.getD (u.length-1) 0=w at c3 c4
  have:=ps r;have:=p1 r;have:=p8 r (by omega)
  unfold dg;dsimp only
  rw [QK (by omega),QK (by omega)]
  by_cases hv:v<0 \/ w<0
  . rw [QJ hv];omega
  . rw [QK hv];by_cases h34:op=3 \/ op=4
    . rw [QJ h34];omega
    . rw [QK h34];by_cases h55:op=5
      . rw [QJ h55,Aj (by omega) (by omega)];omega
      . rw [QK h55,QJ (by omega)]
        split <;> omega

open Classical in
theorem Vx {n:Nat} {e:List Ah} (hN:e.length<=1048576) (hn:1048577<=n) (h:Bt e):f5 n e=some (max ((Ag [] e).getD (e.length-1) 0) 0,if (Ag [] e).getD (e.length-1) 0>=0 then 0 else 10):=by
 unfold f5;rw [Yd hN hn,A5,QJ h];simp only [bne_self_eq_false,ZZ];rw [Yb hN hn h,A5,Y9,A5];simp only [QR]

open Classical in
theorem A3u {n:Nat} {e:List Ah} (hN:e.length<=1048576) (hn:1048577<=n) (h:Bt e):f6 n e=some (max ((Ag [] e).getD (e.length-1) 0) 0,if (Ag [] e).getD (e.length-1) 0>=0 then 0 else 10):=by
 unfold f6;rw [A3h hN hn,A5,YY h];simp only [XI,ZZ];rw [A05 hN hn h,A5];generalize (Ag [] e).getD (e.length-1) 0=v;by_cases hv:v<0
 . rw [YY hv,QK (by omega),show max v 0=0 by omega];rfl
 . rw [YU hv,QJ (by omega),show max v 0=v by omega];rfl

open Classical in
theorem A3s {n:Nat} {e:List Ah} (hN:e.length<=1048576) (hn:1048577<=n) (h:Bt e):f7 n e=some (decide (0<=(Ag [] e).getD (e.length-1) 0/\(Ag [] e).getD (e.length-1) 0<=2),0):=by
 unfold f7;rw [Yd hN hn,A5,QJ h];simp only [bne_self_eq_false,ZZ];unfold f15;rw [Yb hN hn h,A5,L8,A5,A5]

theorem A3y {n:Nat} {l:List Int} (hn:1048577<=n) (hc:∀ x ∈ l,0<=x/\x<=255):f3 n l=some true:=by
 unfold f3;by_cases hl:(l.length:Int)>1048576
 . rw [YY hl];rfl
 rw [YU hl];simp only [ZZ]
 obtain ⟨e,r,h1,hd,hr⟩:=A3w (n:=n) (dim:=2) (dv:=true) (by omega) hc (by omega) (by omega)
 rw [h1,A5];have hpos:=hd.pos;have hlen:=hd.len
 have h2:=ZR (n:=2) (by omega) hr
 have hx:∀ op:Int,3<=op/\op<=6->Bb 2 (r+1) 0 (e++[(2,0,0,0)]++[(op,((0+e.length:Nat):Int)-1,((0+e.length+[((2:Int),(0:Int),(0:Int),(0:Int))].length:Nat):Int)-1,0)]):=λop ho=>by
  obtain ⟨q,rfl⟩:∃ q,r=q+1:=⟨r-1,by cases hd <;> omega⟩
  exact .bin _ 0 e _ op ho hd (.var q _ 0 (by omega))
 have ex:∀ op:Int,e++[((2:Int),(0:Int),(0:Int),(0:Int)),(op,W ((e.length:Int)-1),(e.length:Int),0)]=e++[(2,0,0,0)]++[(op,((0+e.length:Nat):Int)-1,((0+e.length+[((2:Int),(0:Int),(0:Int),(0:Int))].length:Nat):Int)-1,0)]:=λop=>by
  rw [Aj (by omega) (by omega)]
  simp
 obtain ⟨o,g1,g2,g3,g4⟩:=hd.deg (by omega) [] rfl
 have g5:(3:Int) ^ r<=81:=by
  have:=ZR (n:=3) (by omega) hr
  have e4:(3:Nat) ^ 4=81:=by decide
  have:=p3c r;omega
 rw [List.nil_append] at g1
 have hE:=hd.expr (by omega) (by omega)
 have hdeg:∀ op:Int,3<=op/\op<=6->(Ag [] (e++[((2:Int),(0:Int),(0:Int),(0:Int)),(op,W ((e.length:Int)-1),(e.length:Int),0)])).getD ((e++[((2:Int),(0:Int),(0:Int),(0:Int)),(op,W ((e.length:Int)-1),(e.length:Int),0)]).length-1) 0=dg (op,0,0,0) (o.getD (e.length-1) 0) 1:=λop ho=>by
  rw [Dy e _ e,g1];simp only [Ag,ZF,ZI,ZT]
  have el:e.length+(0+1+1)-1=(o++[(1:Int)]).length:=by simp [g2]
  have d1:dv o (2,0,0,0)=1:=by simp [dv,dg]
  rw [d1,el,Af];simp only [dv]
  rw [QJ (by omega),QJ ho,Aj (by omega) (by omega),show ((e.length:Int)-1).toNat=e.length-1 by omega,YQ,Ai (by omega),<- g2,Af]
  rfl
 rw [Vx (by omega) hn hE,A5,A3u (by omega) hn hE,A5,A6 (by rw [QR];omega),A6 (by rw [QR];omega),A6 (by rw [QR];omega),A6 (by rw [QR];omega)]
 rw [Vx (by simp;omega) hn (by rw [ex 5];exact (hx 5 (by omega)).expr (by omega) (by omega)),A5,Vx (by simp;omega) hn (by rw [ex 6];exact (hx 6 (by omega)).expr (by omega) (by omega)),A5,A3s (by omega) hn hE,A5,hdeg 5 (by omega),hdeg 6 (by omega),g1]
 generalize o.getD (e.length-1) 0=v at g3 g4;dsimp only
 have e5:dg (5,0,0,0) v 1=if v<0 then -1 else v+1:=by
  unfold dg;simp;by_cases hv:v<0
  . simp [hv]
  . rw [QK hv,QK hv,Aj (by omega) (by omega)]
 have e6:dg (6,0,0,0) v 1 = -1:=by unfold dg;simp
 rw [e5,e6]
 have c3:(if (-1:Int)>=0 then (0:Int) else 10)=10:=by decide
 by_cases hv:v<0
 . have c1:(if v>=0 then (0:Int) else 10)=10:=QK (by omega)
   simp only [QJ hv,c1,c3,YU (show ¬(0<=v/\v<=2) by omega)]
   simp
 . have c1:(if v>=0 then (0:Int) else 10)=0:=QJ (by omega)
   have c2:(if v+1>=0 then (0:Int) else 10)=0:=QJ (by omega)
   have c4:decide (0<=v/\v<=2)=decide (v<=2):=by apply decide_eq_decide.2;omega
   have c5:W (v+1)=v+1:=Aj (by omega) (by omega)
   have c6:max v 0=v:=by omega
   have c7:max (v+1) 0=v+1:=by omega
   simp only [QK hv,c1,c2,c3,c4,c6,c7,c5];simp

end Go.Ev
