/- DERIVED. What the functions compute, and that they do. -/
import Derived.Test.YtaebdcandpfmgaaGreatWa

set_option linter.all false
set_option linter.unusedVariables false
set_option linter.unusedSimpArgs false

namespace Go.Ev
open Go Go.Proofs Go.RowKit Go.Shelf
def Mt (n:Nat) (a0:LI) (a1:Unit):Option Bool :=
 ob (A0r n a0 a1) fun a =>
 some (decide (a >= 0))
def A4k (n:Nat):Ent:=⟨238,[hIs,(.fn 239)],[.bool],fun x=>Mt n x.1 x.2⟩
def Anh (α:Type) (n:Nat):D3 α:={ reg:=[(1,⟨0,[],[(2,{ ent:=some (A4j n) })]⟩)],join:=[],loop:=[] }
theorem Aif (n:Nat):(A4k n).Sound PP:=At (fn:=Tryz.f238) (D:=Anh _ n) ⟨Aie n,trivial⟩

def f231 (n:Nat) (a0:LI):Option Bool :=
 bif (decide ((a0.length:Int) > 40)) then
  some false
 else
  bif (decide ((a0.length:Int) > 0)) then
   gd (decide (0 <= (W ((a0.length:Int) - 1))) && decide ((W ((a0.length:Int) - 1)) < (a0.length:Int))) (
    bif ((a0.getD ((W ((a0.length:Int) - 1)).toNat) 0) == 0) then
     some false
    else
     ob (Mt n a0 ()) fun a =>
     some (!a))
  else
   ob (Mt n a0 ()) fun b =>
   some (!b)
def Aez (n:Nat):Ent:=⟨231,[hIs],[.bool],fun x=>f231 n x⟩
def B75 (α:Type) (n:Nat):D3 α:={ reg:=[(4,⟨0,[],[(1,{ ent:=some (A4k n) })]⟩)],join:=[],loop:=[] }
theorem Ak8 (n:Nat):(Aez n).Sound PP:=At (fn:=Tryz.f231) (D:=B75 _ n) ⟨Aif n,trivial⟩

def f195 (n:Nat) (a0:Rq):Option Bool :=
 some ((a0.2.1.length:Int) == 0)
def Pw (n:Nat):Ent:=⟨195,[hR],[.bool],fun x=>f195 n x⟩
def B7t (α:Type) (n:Nat):D3 α:={ reg:=[],join:=[],loop:=[] }
theorem Pv (n:Nat):(Pw n).Sound PP:=At (fn:=Tryz.f195) (D:=B7t _ n) trivial

def f228 (n:Nat) (a0:LI):Option LI :=
 some a0
def Af0 (n:Nat):Ent:=⟨228,[hIs],[(.clo 235 (.ref hIs))],fun x=>f228 n x⟩
def B77 (α:Type) (n:Nat):D3 α:={ reg:=[(1,⟨0,[],[(0,{ sh:=some (.ref hIs) })]⟩)],join:=[],loop:=[] }
theorem Aka (n:Nat):(Af0 n).Sound PP:=At (fn:=Tryz.f228) (D:=B77 _ n) trivial

def A1l {α:Type} (n:Nat) (i:Nat) (z:Int) (b:LI) (a:LI) (c:Int) (f:LI->LI->Int->Option α) (k0:Int->Option α) (k1:Int->Option α):Option α :=
 gd (decide (0 <= (i:Int)) && decide ((i:Int) < (a.length:Int))) (
  bif (z != (a.getD ((i:Int).toNat) 0)) then
   gd (decide (0 <= (i:Int)) && decide ((i:Int) < (a.length:Int))) (
    bif (decide (z < (a.getD ((i:Int).toNat) 0))) then
     k1 (-1)
    else
     k1 1)
  else
   f b a c)
abbrev Jk:Tm:=⟨[(3,.k (.hp 3 0 0)),(4,.k (.hp 4 0 0)),(18,.d (.clo 235 (.ref hIs)))],[(3,.var 29 true false [.d hIs]),(4,.var 3 true false [.d hI])],[],[]⟩
abbrev Atf:Tm:=⟨[(4,.k (.hp 4 0 0))],[(4,.var 3 true false [.d hI])],[3],[]⟩
abbrev Ate:Tm:=⟨[(4,.k (.hp 4 0 0))],[(4,.var 3 true false [.d hI])],[3],[]⟩
abbrev S9:List (Exit × Tm):=[(.normal,Atf),(.ret,Ate)]
def N7 (v:Jk.den):List Int:=(fun a b c=>a) v.1.2.2.1 v.2.1.1 v.2.2.1.1
def N8 {α:Type} (n:Nat) (i:Nat) (z:Int) (v:Jk.den) (f:Jk.den->Option α) (ks:KS α S9):Option α:=A1l n i z v.1.2.2.1 v.2.1.1 v.2.2.1.1 (fun a b c=>f (((),(),a,()),((b,()),(c,()),()))) (fun w0=>ks.1 (((),()),((w0,()),()))) (fun w0=>ks.2.1 (((),()),((w0,()),())))
def Na {α:Type} (v:Jk.den) (ks:KS α S9):Option α:=(fun b c a=>ks.1 (((),()),((a,()),()))) v.1.2.2.1 v.2.1.1 v.2.2.1.1
def Akk {α:Type} (n:Nat) (a:LI) (b:LI) (c:Int) (k0:Int->Option α) (k1:Int->Option α):Option α:=Mf N7 (N8 n) Na (((),(),a,()),((b,()),(c,()),())) (fun w=>k0 w.2.1.1,fun w=>k1 w.2.1.1,())
def N9 {α:Type} (n:Nat) (zs:List Int) (i:Nat) (a:LI) (b:LI) (c:Int) (k0:Int->Option α) (k1:Int->Option α):Option α:=Mg N7 (N8 n) zs i (((),(),a,()),((b,()),(c,()),())) (fun v=>Na v (fun w=>k0 w.2.1.1,fun w=>k1 w.2.1.1,())) (fun w=>k0 w.2.1.1,fun w=>k1 w.2.1.1,())
theorem Atc {α:Type} (n:Nat) (a:LI) (b:LI) (c:Int) (k0:Int->Option α) (k1:Int->Option α):Akk (α:=α) n a b c k0 k1 = gd (decide (a.length <= 4611686018427387904)) (N9 n a a.length a b c k0 k1):=rfl
theorem Atd {α:Type} (n:Nat) (zs:List Int) (b:LI) (c:LI) (a:Int) (k0:Int->Option α) (k1:Int->Option α):N9 (α:=α) n zs 0 b c a k0 k1 = k0 a:=rfl
theorem Atb {α:Type} (n:Nat) (zs:List Int) (i:Nat) (a:LI) (b:LI) (c:Int) (k0:Int->Option α) (k1:Int->Option α):N9 (α:=α) n zs (i + 1) a b c k0 k1 = A1l n i (zs.getD i 0) a b c (fun a b c=>gd (decide (a = zs)) (N9 n zs i a b c k0 k1)) k0 k1:=rfl
def f203 (n:Nat) (a0 a1:LI):Option Int :=
 bif ((a0.length:Int) != (a1.length:Int)) then
  bif (decide ((a0.length:Int) < (a1.length:Int))) then
   some (-1)
  else
   some 1
 else
  ob (f228 n a0) fun a =>
  Akk n a a1 0
   (fun c=>(
    some 0))
   (fun b=>(
    some b))
def Vx (n:Nat):Ent:=⟨203,[hIs,hIs],[hI],fun x=>f203 n x.1 x.2⟩
def A4r (α:Type) (n:Nat):D3 α:={ reg:=[(5,⟨0,[],[(1,{ ent:=some (Af0 n) })]⟩)],join:=[],loop:=[(6,⟨Jk,S9,Mf N7 (N8 n) Na⟩)] }
theorem Vw (α:Type) (n:Nat):Ao PP (Ai (A4r α n).reg):=⟨Aka n,trivial⟩
theorem Ao4 (α:Type) (n:Nat):D3.OK PP TT ⟨33,[]⟩ (A4r α n) ((A1 Tryz.f203).at [1,1,0,1,0,0]) :=
 D3.OK.mk3 (Vw α n) (show Ab ((A1 Tryz.f203).at [1,1,0,1,0,0]) = [] by kernel_rfl) trivial
theorem Ao3 (α:Type) (n:Nat):D3.OK PP TT ⟨33,[]⟩ (A4r α n) ((A1 Tryz.f203).at [1,1,0,1,0,1]) :=
 D3.OK.mk3 (Vw α n) (show Ab ((A1 Tryz.f203).at [1,1,0,1,0,1]) = [] by kernel_rfl) trivial
theorem Ao2 (α:Type) (n:Nat):LO.Sound (α:=α) PP ⟨33,[]⟩ ⟨Jk,S9,Mf N7 (N8 n) Na⟩ (.rangeFunc (.tmp 18) #[19,20] ((A1 Tryz.f203).at [1,1,0,1,0,0]) ((A1 Tryz.f203).at [1,1,0,1,0,1])) :=
 Ad3 (P4 _) Mh N7 (N8 n) Na Ale rfl rfl rfl rfl (Ao4 α n) (Ao3 α n) (by intro v;rfl) (by intro i z v f ks;kernel_rfl) (by intro v ks;kernel_rfl)
theorem B7o (α:Type) (n:Nat):D3.OK PP TT ⟨33,[]⟩ (A4r α n) (A1 Tryz.f203) :=
 D3.OK.mk3 (Vw α n) (show Ab (A1 Tryz.f203) = [(6,(.rangeFunc (.tmp 18) #[19,20] ((A1 Tryz.f203).at [1,1,0,1,0,0]) ((A1 Tryz.f203).at [1,1,0,1,0,1])))] by kernel_rfl) ⟨Ad rfl (Ao2 α n),trivial⟩
theorem Ya (n:Nat):(Vx n).Sound PP:=fk (fn:=Tryz.f203) (B7o _ n)

def Ap0 (n:Nat) (a0:LI):Option LI :=
 gd ((!a0.isEmpty)) (
  gd (decide ((0 + a0.length) * 8 <= 140737488355328)) (
   some a0))
def B4p (n:Nat):Ent:=⟨117,[hIs],[hIs],fun x=>Ap0 n x⟩
def B4q (α:Type) (n:Nat):D3 α:={ reg:=[(3,⟨0,[],[(0,{ sh:=some hI })]⟩)],join:=[],loop:=[] }
theorem Azk (n:Nat):(B4p n).Sound PP:=At (fn:=Tryz.f117) (D:=B4q _ n) trivial

set_option maxRecDepth 100000 in
set_option maxHeartbeats 2000000 in
theorem Avv (ad:Option Addr) (cap:Nat) (hc:ad = none->cap = 0) (w:World):Calls Tryz.prog 117 #[.slice ad 0 cap] w fun e w'=>(∃ a c,e = .returned (.slice a 0 c) /\ (a = none->c = 0)) /\ w.grownBy w' none:=by
 refine (callsIn_wide (n:=3)).1 ?_;refine callsIn_of_wp Tryz.func117 rfl trivial ?_ rfl;simp only [Tryz.ntmps117,List.size_toArray,QU,ZG,Nat.reduceAdd,Nat.reduceSub,Array.replicate_succ,Array.replicate_zero,List.push_toArray,List.append_toArray,KJ,YK];have hi:∃ i,Tryz.prog.info? 3 = some i:=⟨_,rfl⟩;obtain ⟨i3,hi3⟩:=hi
 have hap:∀ (base:Option Addr) (sCap:Nat) (a:Option Addr) (cp:Nat) (w:World),(Builtin.append_ #[29,29] 29 #[.slice base 0 sCap,.slice a 0 cp]).run Tryz.prog w = .ok (.slice base 0 sCap) w:=fun base sCap a cp w =>
  Nx w 29 29 3 i3 Tryz.underlying29 hi3 base 0 sCap (KD _) a cp
 cases ad with
 | none =>
  obtain rfl:=hc rfl
  have hb:∀ w,(binOp BinOp.eql 29 (.slice none 0 0) (.slice none 0 0)).run Tryz.prog w = .ok (.bool true) w:=fun w=>by kernel_rfl
  gi_wp2
  refine bodyPost_ret (results_tmp rfl _ _ _) rfl ?_;exact ⟨⟨none,0,rfl,fun _=>rfl⟩,⟨rfl,rfl,rfl,QY _,fun _ _ _=>rfl⟩⟩
 | some ad =>
  have hb:∀ w,(binOp BinOp.eql 29 (.slice (some ad) 0 cap) (.slice none 0 0)).run Tryz.prog w = .ok (.bool false) w:=fun w=>by kernel_rfl
  gi_wp2
  refine bodyPost_ret (results_tmp rfl _ _ _) rfl ?_;exact ⟨⟨_,0,rfl,fun _=>rfl⟩,World.grownBy_alloc w _ none⟩
def f117 (n:Nat) (a0:List Int):Option (List Int):=bif a0.isEmpty then some [] else Ap0 n a0
def Kq (n:Nat):Ent:=⟨117,[hIs],[hIs],fun x=>f117 n x⟩
theorem Agt (nt:Nat):Ix Tryz.prog 117 nt [] [] [.one (.i (.sl 0 false 1 []))] (.v (.one (.i (.sl 0 false 1 [])))) nt []:=by
 refine ⟨⟨Tryz.f117,by kernel_rfl,by kernel_rfl,by kernel_rfl⟩,fun w E vs hin hv=>?_⟩
 obtain ⟨hl,hget⟩:=hv
 match vs,hl with
 | [v],_ =>
  have h1:Rv w E v (.one (.i (.sl 0 false 1 []))):=hget 0 v _ rfl rfl
  cases h1 with
  | one h1 =>
   cases h1 with
   | i h1 =>
    cases h1 with
    | sl _ _ _ _ _ _ _ hne=>exact absurd rfl hne
    | nil _ _ cap a _ hn hc =>
     refine (Avv a cap hc w).mono ?_
     rintro e w' ⟨⟨a',c',rfl,hc'⟩,hg⟩
     exact ⟨_,E,rfl,.v (.one (.i (.nil 0 1 c' a' false (fun e=>by cases e) hc'))),⟨hg.os,hg.tape,hg.output,hg.size,fun b hb _=>hg.block b hb (by simp)⟩,
      ⟨fun b hb=>ZT (hin.wf.alt b hb) hg.size,hin.wf.tag,hin.wf.inj,fun b h hb=>by cases hin.odom b h hb⟩,fun _ _=>Iff.rfl,QY _,fun _ _=>rfl,fun t g ht h=>absurd (hin.wf.tag t g h).1 (Nat.not_lt.2 ht),
      fun h b hb=>(by cases hb),fun h h' b b' g g' z z' hb=>(by cases hb),fun h b g z hb=>(by cases hb),fun h b hb=>(by cases hb),fun g h hg=>(by cases hin.odom g h hg)⟩
theorem Jm (n:Nat):(Kq n).Sound Tryz.prog:=by
 intro nt x r h
 cases x with
 | cons z l=>exact Azk n nt (z :: l) r h
 | nil =>
  have h:some ([]:List Int) = some r:=h;obtain rfl:=QA h;exact Agt nt

def A0y {α:Type} (n:Nat) (b:LI) (a:Int) (f:LI->Int->Option α) (k0:LI->Int->Option α):Option α :=
 bif (decide (a > 0)) then
  gd (decide (0 <= (W (a - 1))) && decide ((W (a - 1)) < (b.length:Int))) (
   bif ((b.getD ((W (a - 1)).toNat) 0) == 0) then
    f b (W (a - 1))
   else
    k0 b a)
 else
  k0 b a
abbrev Ru:Tm:=⟨[(0,.d hIs),(3,.d hI)],[],[],[]⟩
abbrev Ass:Tm:=⟨[(0,.d hIs),(3,.d hI)],[],[],[]⟩
abbrev A0x:List (Exit × Tm):=[(.exit 0,Ass)]
def A0w {α:Type} (n:Nat) (v:Ru.den) (f:Ru.den->Option α) (ks:KS α A0x):Option α:=A0y n v.1.1 v.1.2.1 (fun a b=>f ((a,b,()),())) (fun w0 w1=>ks.1 ((w0,w1,()),()))
def Y3 {α:Type} (n m:Nat) (a:LI) (b:Int) (k0:LI->Int->Option α):Option α:=A5 (A0w n) m ((a,b,()),()) (fun w=>k0 w.1.1 w.1.2.1,())
theorem Asr {α n m a b k0}:Y3 (α:=α) n (m + 1) a b k0 = A0y n a b (fun a b=>Y3 n m a b k0) k0:=rfl
def f225 (n:Nat) (a0:LI):Option LI :=
 Y3 n n a0 (a0.length:Int)
  (fun b a=>(
   gd (decide (0 <= a) && decide (a <= (b.length:Int))) (
    some ((b.drop 0).take (a.toNat - 0)))))
def Gy (n:Nat):Ent:=⟨225,[hIs],[hIs],fun x=>f225 n x⟩
def Af8 (α:Type) (n:Nat):D3 α:={ reg:=[],join:=[],loop:=[(2,⟨Ru,A0x,A5 (A0w n) n⟩)] }
theorem Aa1 (α:Type) (n:Nat):Ao PP (Ai (Af8 α n).reg):=trivial
theorem Anq (α:Type) (n:Nat):LO.Sound (α:=α) PP ⟨21,[]⟩ ⟨Ru,A0x,A5 (A0w n) n⟩ (.loop ((A1 Tryz.f225).at [1,1,0,0,0])):=Bj (D:=Af8 α n) (Aa1 α n) n
theorem B7a (α:Type) (n:Nat):D3.OK PP TT ⟨21,[]⟩ (Af8 α n) (A1 Tryz.f225) :=
 D3.OK.mk3 (Aa1 α n) (show Ab (A1 Tryz.f225) = [(2,(.loop ((A1 Tryz.f225).at [1,1,0,0,0])))] by kernel_rfl) ⟨Ad rfl (Anq α n),trivial⟩
theorem Pn (n:Nat):(Gy n).Sound PP:=fk (fn:=Tryz.f225) (B7a _ n)

def A2k {α:Type} (n:Nat) (a:Int) (b:LI) (f:Int->LI->Option α) (k0:LI->Option α):Option α :=
 bif (decide (a > 0)) then
  gd (decide ((b.length + 1) * 8 <= 140737488355328)) (
   f (W (Int.tdiv a 10000)) (b ++ [(Int.tmod a 10000)]))
 else
  k0 b
abbrev So:Tm:=⟨[(0,.d hI),(3,.k (.hw 4))],[(4,.arr 3 hI false)],[12],[]⟩
abbrev Aue:Tm:=⟨[(3,.k (.hw 4))],[(4,.arr 3 hI false)],[],[]⟩
abbrev A2j:List (Exit × Tm):=[(.exit 0,Aue)]
def A2i {α:Type} (n:Nat) (v:So.den) (f:So.den->Option α) (ks:KS α A2j):Option α:=A2k n v.1.1 v.2.1 (fun a b=>f ((a,(),()),(b,()))) (fun w0=>ks.1 (((),()),(w0,())))
def Yj {α:Type} (n m:Nat) (a:Int) (b:LI) (k0:LI->Option α):Option α:=A5 (A2i n) m ((a,(),()),(b,())) (fun w=>k0 w.2.1,())
theorem Aud {α n m a b k0}:Yj (α:=α) n (m + 1) a b k0 = A2k n a b (fun a b=>Yj n m a b k0) k0:=rfl
def f179 (n:Nat) (a0:Int):Option LI :=
 Yj n n a0 []
  (fun a=>(
   some a))
def Ko (n:Nat):Ent:=⟨179,[hI],[hIs],fun x=>f179 n x⟩
def Agc (α:Type) (n:Nat):D3 α:={ reg:=[(1,⟨0,[],[(0,{ sh:=some hI })]⟩),(4,⟨0,[],[(3,{ sh:=some hI })]⟩)],join:=[],loop:=[(2,⟨So,A2j,A5 (A2i n) n⟩)] }
theorem Aak (α:Type) (n:Nat):Ao PP (Ai (Agc α n).reg):=trivial
theorem Aop (α:Type) (n:Nat):LO.Sound (α:=α) PP ⟨15,[]⟩ ⟨So,A2j,A5 (A2i n) n⟩ (.loop ((A1 Tryz.f179).at [1,1,0,0,0])):=Bj (D:=Agc α n) (Aak α n) n
theorem B85 (α:Type) (n:Nat):D3.OK PP TT ⟨15,[]⟩ (Agc α n) (A1 Tryz.f179) :=
 D3.OK.mk3 (Aak α n) (show Ab (A1 Tryz.f179) = [(2,(.loop ((A1 Tryz.f179).at [1,1,0,0,0])))] by kernel_rfl) ⟨Ad rfl (Aop α n),trivial⟩
theorem A80 (n:Nat):(Ko n).Sound PP:=fk (fn:=Tryz.f179) (B85 _ n)

def Ik (n:Nat) (a0:LI):Option LI :=
 gd ((!a0.isEmpty)) (
  gd (decide ((0 + a0.length) * 8 <= 140737488355328)) (
   some a0))
def Cy (n:Nat):Ent3:=⟨117,[.im hIs],[[.one (.own 3 hI)]],fun x=>Ik n x⟩
def B4r (α:Type) (n:Nat):D3 α:={ reg:=[(3,⟨0,[],[(0,{ sh:=some hI })]⟩)],join:=[],loop:=[] }
theorem T0 (n:Nat):(Cy n).Sound PP:=A6p (fn:=Tryz.f117) (D:=B4r _ n) trivial

def Vj {α:Type} (n:Nat) (s0o s0l:Nat) (c:LI) (d e g i a:Int) (b:LI) (f:Nat->Nat->LI->Int->Int->Int->Int->Int->LI->Option α) (k0:Nat->Nat->LI->Int->Int->Int->LI->Option α):Option α :=
 bif (decide (a < i)) then
  gd (decide (0 <= a) && decide (a < (s0l:Int))) (
   gd (decide ((s0o + a.toNat) < b.length)) (
    let j:=fun (h:Int)=>(
     let k:=fun (l:Int)=>(
      gd (decide (0 <= a) && decide (a < (s0l:Int))) (
       gd (decide ((s0o + a.toNat) < b.length)) (
        f s0o s0l c d e l i (W (a + 1)) (b.set (s0o + a.toNat) (W (h - (W (l * 10000))))))))
     bif (decide (h < 0)) then
      k (W (Int.tdiv (W ((W (h - 10000)) + 1)) 10000))
     else
      k 0)
    bif (decide (a < d)) then
     gd (decide (0 <= a) && decide (a < (c.length:Int))) (
      j (W ((W ((b.getD (s0o + a.toNat) 0) + g)) - (W (e * (c.getD a.toNat 0))))))
    else
     j (W ((b.getD (s0o + a.toNat) 0) + g))))
 else
  k0 s0o s0l c d e g b
abbrev O5:Tm:=⟨[(0,.hs 1000),(1,.d hIs),(5,.d hI),(7,.d hI),(8,.d hI),(50,.d hI),(51,.d hI)],[(1000,.arr 3 hI false)],[],[]⟩
abbrev Anj:Tm:=⟨[(0,.hs 1000),(1,.d hIs),(5,.d hI),(7,.d hI),(8,.d hI)],[(1000,.arr 3 hI false)],[],[]⟩
abbrev Vi:List (Exit × Tm):=[(.exit 0,Anj)]
def Vh {α:Type} (n:Nat) (v:O5.den) (f:O5.den->Option α) (ks:KS α Vi):Option α:=Vj n v.1.1.1 v.1.1.2 v.1.2.1 v.1.2.2.1 v.1.2.2.2.1 v.1.2.2.2.2.1 v.1.2.2.2.2.2.1 v.1.2.2.2.2.2.2.1 v.2.1 (fun s0o s0l a b c d e g h=>f (((s0o,s0l),a,b,c,d,e,g,()),(h,()))) (fun w0 w1 w2 w3 w4 w5 w6=>ks.1 (((w0,w1),w2,w3,w4,w5,()),(w6,())))
def Fq {α:Type} (n m:Nat) (s0o s0l:Nat) (a:LI) (b c d e f:Int) (g:LI) (k0:Nat->Nat->LI->Int->Int->Int->LI->Option α):Option α:=A5 (Vh n) m (((s0o,s0l),a,b,c,d,e,f,()),(g,())) (fun w=>k0 w.1.1.1 w.1.1.2 w.1.2.1 w.1.2.2.1 w.1.2.2.2.1 w.1.2.2.2.2.1 w.2.1,())
theorem Ani {α n m s0o s0l a b c d e f g k0}:Fq (α:=α) n (m + 1) s0o s0l a b c d e f g k0 = Vj n s0o s0l a b c d e f g (fun s0o s0l a b c d e f g=>Fq n m s0o s0l a b c d e f g k0) k0:=rfl
def Rk {α:Type} (n:Nat) (s0o s0l:Nat) (c:LI) (d g h e i a:Int) (b:LI) (f:Nat->Nat->LI->Int->Int->Int->Int->Int->Int->LI->Option α) (k0:Nat->Nat->LI->Int->Int->Int->Int->LI->Option α):Option α :=
 bif (decide (a < i)) then
  gd (decide (0 <= a) && decide (a < (s0l:Int))) (
   gd (decide ((s0o + a.toNat) < b.length)) (
    let j:=fun (k:Int)=>(
     gd (decide (0 <= a) && decide (a < (s0l:Int))) (
      gd (decide ((s0o + a.toNat) < b.length)) (
       f s0o s0l c d g h (W (Int.tdiv k 10000)) i (W (a + 1)) (b.set (s0o + a.toNat) (Int.tmod k 10000)))))
    bif (decide (a < d)) then
     gd (decide (0 <= a) && decide (a < (c.length:Int))) (
      j (W ((W ((b.getD (s0o + a.toNat) 0) + e)) + (c.getD a.toNat 0))))
    else
     j (W ((b.getD (s0o + a.toNat) 0) + e))))
 else
  k0 s0o s0l c d g h e b
abbrev Lh:Tm:=⟨[(0,.hs 1000),(1,.d hIs),(5,.d hI),(7,.d hI),(8,.d hI),(11,.d hI),(90,.d hI),(91,.d hI)],[(1000,.arr 3 hI false)],[],[]⟩
abbrev Aii:Tm:=⟨[(0,.hs 1000),(1,.d hIs),(5,.d hI),(7,.d hI),(8,.d hI),(11,.d hI)],[(1000,.arr 3 hI false)],[],[]⟩
abbrev Rj:List (Exit × Tm):=[(.exit 4,Aii)]
def Rh {α:Type} (n:Nat) (v:Lh.den) (f:Lh.den->Option α) (ks:KS α Rj):Option α:=Rk n v.1.1.1 v.1.1.2 v.1.2.1 v.1.2.2.1 v.1.2.2.2.1 v.1.2.2.2.2.1 v.1.2.2.2.2.2.1 v.1.2.2.2.2.2.2.1 v.1.2.2.2.2.2.2.2.1 v.2.1 (fun s0o s0l a b c d e g h i=>f (((s0o,s0l),a,b,c,d,e,g,h,()),(i,()))) (fun w0 w1 w2 w3 w4 w5 w6 w7=>ks.1 (((w0,w1),w2,w3,w4,w5,w6,()),(w7,())))
def Hs {α:Type} (n m:Nat) (s0o s0l:Nat) (a:LI) (b c d e f g:Int) (h:LI) (k0:Nat->Nat->LI->Int->Int->Int->Int->LI->Option α):Option α:=A5 (Rh n) m (((s0o,s0l),a,b,c,d,e,f,g,()),(h,())) (fun w=>k0 w.1.1.1 w.1.1.2 w.1.2.1 w.1.2.2.1 w.1.2.2.2.1 w.1.2.2.2.2.1 w.1.2.2.2.2.2.1 w.2.1,())
theorem Aih {α n m s0o s0l a b c d e f g h k0}:Hs (α:=α) n (m + 1) s0o s0l a b c d e f g h k0 = Rk n s0o s0l a b c d e f g h (fun s0o s0l a b c d e f g h=>Hs n m s0o s0l a b c d e f g h k0) k0:=rfl
def Rn {α:Type} (n:Nat) (s0o s0l:Nat) (d:LI) (e a b:Int) (c:LI) (f:Nat->Nat->LI->Int->Int->Int->LI->Option α) (k0:Int->LI->Option α):Option α :=
 bif (decide (b < 0)) then
  Hs n n s0o s0l d e (W (a - 1)) b 0 (s0l:Int) 0 c
   (fun g h i j k l m o=>(
    f g h i j k (W (l + m)) o))
 else
  k0 a c
abbrev Li:Tm:=⟨[(0,.hs 1000),(1,.d hIs),(5,.d hI),(7,.d hI),(8,.d hI)],[(1000,.arr 3 hI false)],[],[]⟩
abbrev Ail:Tm:=⟨[(7,.d hI)],[(1000,.arr 3 hI false)],[],[]⟩
abbrev Rm:List (Exit × Tm):=[(.exit 2,Ail)]
def Rl {α:Type} (n:Nat) (v:Li.den) (f:Li.den->Option α) (ks:KS α Rm):Option α:=Rn n v.1.1.1 v.1.1.2 v.1.2.1 v.1.2.2.1 v.1.2.2.2.1 v.1.2.2.2.2.1 v.2.1 (fun s0o s0l a b c d e=>f (((s0o,s0l),a,b,c,d,()),(e,()))) (fun w0 w1=>ks.1 ((w0,()),(w1,())))
def Ht {α:Type} (n m:Nat) (s0o s0l:Nat) (a:LI) (b c d:Int) (e:LI) (k0:Int->LI->Option α):Option α:=A5 (Rl n) m (((s0o,s0l),a,b,c,d,()),(e,())) (fun w=>k0 w.1.1 w.2.1,())
theorem Aij {α n m s0o s0l a b c d e k0}:Ht (α:=α) n (m + 1) s0o s0l a b c d e k0 = Rn n s0o s0l a b c d e (fun s0o s0l a b c d e=>Ht n m s0o s0l a b c d e k0) k0:=rfl
abbrev Ask:Tm:=⟨[(0,.hs 1000),(1,.d hIs),(5,.d hI),(7,.d hI),(9,.d hI),(10,.d hI),(50,.d hI),(51,.d hI)],[(1000,.arr 3 hI false)],[],[]⟩
abbrev Asj:Tm:=⟨[(0,.hs 1000),(1,.d hIs),(5,.d hI),(7,.d hI),(8,.d hI),(9,.d hI),(10,.d hI),(50,.d hI),(51,.d hI)],[(1000,.arr 3 hI false)],[],[]⟩
abbrev Asi:Tm:=⟨[(0,.hs 1000),(1,.d hIs),(5,.d hI),(7,.d hI),(8,.d hI),(12,.d hI),(13,.d hI),(90,.d hI),(91,.d hI)],[(1000,.arr 3 hI false)],[],[]⟩
def Abz (n:Nat) (a0:LI × Nat × Nat) (a1:LI):Option (Int × LI) :=
 gd (decide (0 <= (a1.length:Int)) && decide ((a1.length:Int) < (a0.2.2:Int))) (
  gd (decide ((a0.2.1 + (a1.length:Int).toNat) < a0.1.length)) (
   gd (decide (0 <= (W ((a1.length:Int) - 1))) && decide ((W ((a1.length:Int) - 1)) < (a0.2.2:Int))) (
    gd (decide ((a0.2.1 + (W ((a1.length:Int) - 1)).toNat) < a0.1.length)) (
     gd (decide (0 <= (W ((a1.length:Int) - 2))) && decide ((W ((a1.length:Int) - 2)) < (a0.2.2:Int))) (
      gd (decide ((a0.2.1 + (W ((a1.length:Int) - 2)).toNat) < a0.1.length)) (
       gd (decide (0 <= (W ((a1.length:Int) - 1))) && decide ((W ((a1.length:Int) - 1)) < (a1.length:Int))) (
        gd (decide (0 <= (W ((a1.length:Int) - 2))) && decide ((W ((a1.length:Int) - 2)) < (a1.length:Int))) (
         gd (decide ((W ((W ((a1.getD ((W ((a1.length:Int) - 1)).toNat) 0) * 10000)) + (a1.getD ((W ((a1.length:Int) - 2)).toNat) 0))) ≠ 0)) (
          Fq n n a0.2.1 a0.2.2 a1 (a1.length:Int) (min (W (Int.tdiv (W ((W ((W ((W ((a0.1.getD (a0.2.1 + (a1.length:Int).toNat) 0) * 10000)) + (a0.1.getD (a0.2.1 + (W ((a1.length:Int) - 1)).toNat) 0))) * 10000)) + (a0.1.getD (a0.2.1 + (W ((a1.length:Int) - 2)).toNat) 0))) (W ((W ((a1.getD ((W ((a1.length:Int) - 1)).toNat) 0) * 10000)) + (a1.getD ((W ((a1.length:Int) - 2)).toNat) 0))))) 9999) 0 (a0.2.2:Int) 0 a0.1
           (fun a b c d e f g=>(
            Ht n n a b c d e f g
             (fun h i=>(
              some (h,i))))))))))))))
def Jf (n:Nat):Ent3:=⟨234,[.one (.win 3 hI),.im hIs],[[.im hI]],fun x=>Abz n x.1 x.2⟩
def Pm (α:Type) (n:Nat):D3 α:={ reg:=[(2,⟨17,[],[]⟩),(3,⟨13,[],[]⟩)],join:=[(11,Ask),(14,Asj),(25,Asi)],loop:=[(6,⟨O5,Vi,A5 (Vh n) n⟩),(20,⟨Lh,Rj,A5 (Rh n) n⟩),(16,⟨Li,Rm,A5 (Rl n) n⟩)] }
theorem Lg (α:Type) (n:Nat):Ao PP (Ai (Pm α n).reg):=trivial
theorem Aig (α:Type) (n:Nat):LO.Sound (α:=α) PP ⟨121,[]⟩ ⟨O5,Vi,A5 (Vh n) n⟩ (.loop ((A1 Tryz.f234).at [1,1,1,1,1,0,1,0,0])):=Bj (D:=Pm α n) (Lg α n) n
theorem Aex (α:Type) (n:Nat):LO.Sound (α:=α) PP ⟨121,[]⟩ ⟨Lh,Rj,A5 (Rh n) n⟩ (.loop ((A1 Tryz.f234).at [1,1,1,1,1,1,0,0,0,1,0,1,1,0,1,0,0])):=Bj (D:=Pm α n) (Lg α n) n
theorem Aik (α:Type) (n:Nat):D3.OK PP TT ⟨121,[]⟩ (Pm α n) ((A1 Tryz.f234).at [1,1,1,1,1,1,0,0,0]) :=
 D3.OK.mk3 (Lg α n) (show Ab ((A1 Tryz.f234).at [1,1,1,1,1,1,0,0,0]) = [(20,(.loop ((A1 Tryz.f234).at [1,1,1,1,1,1,0,0,0,1,0,1,1,0,1,0,0])))] by kernel_rfl) ⟨Ad rfl (Aex α n),trivial⟩
theorem Aey (α:Type) (n:Nat):LO.Sound (α:=α) PP ⟨121,[]⟩ ⟨Li,Rm,A5 (Rl n) n⟩ (.loop ((A1 Tryz.f234).at [1,1,1,1,1,1,0,0,0])):=lk (Aik α n) n
theorem B2k (α:Type) (n:Nat):D3.OK PP TT ⟨121,[]⟩ (Pm α n) (A1 Tryz.f234) :=
 D3.OK.mk3 (Lg α n) (show Ab (A1 Tryz.f234) = [(6,(.loop ((A1 Tryz.f234).at [1,1,1,1,1,0,1,0,0]))),(16,(.loop ((A1 Tryz.f234).at [1,1,1,1,1,1,0,0,0])))] by kernel_rfl) ⟨Ad rfl (Aig α n),Ad rfl (Aey α n),trivial⟩
theorem Ayo (n:Nat):(Jf n).Sound PP:=Pf (fn:=Tryz.f234) (B2k _ n)

def A0s {α:Type} (n:Nat) (i:Nat) (z:Int) (d:LI) (a:LI) (c:Int) (b:LI) (f:LI->LI->Int->LI->Option α) (k0:Int->LI->Option α):Option α :=
 gd (decide (0 < (a.length:Int))) (
  gd (decide ((a.getD 0 0) ≠ 0)) (
   gd (decide (0 < (a.length:Int))) (
    gd (decide ((a.getD 0 0) ≠ 0)) (
     gd (decide (0 <= (i:Int)) && decide ((i:Int) < (b.length:Int))) (
      gd (decide ((i:Int).toNat < b.length)) (
       f d a (Int.tmod (W ((W (c * 10000)) + z)) (a.getD 0 0)) (b.set ((i:Int).toNat) (W (Int.tdiv (W ((W (c * 10000)) + z)) (a.getD 0 0))))))))))
abbrev Jh:Tm:=⟨[(3,.k (.hp 3 0 0)),(7,.k (.hp 7 0 0)),(8,.k (.hp 8 0 0)),(29,.d (.clo 235 (.ref hIs)))],[(3,.var 29 true false [.d hIs]),(7,.var 29 false false [.k (.hw 27)]),(8,.var 3 true false [.d hI]),(27,.arr 3 hI false)],[],[]⟩
abbrev Asp:Tm:=⟨[(7,.k (.hp 7 0 0)),(8,.k (.hp 8 0 0))],[(7,.var 29 false false [.k (.hw 27)]),(8,.var 3 true false [.d hI]),(27,.arr 3 hI false)],[3],[]⟩
abbrev Ro:List (Exit × Tm):=[(.normal,Asp)]
def Mu (v:Jh.den):List Int:=(fun a b c d=>a) v.1.2.2.2.1 v.2.1.1 v.2.2.2.1.1 v.2.2.2.2.1
def Mv {α:Type} (n:Nat) (i:Nat) (z:Int) (v:Jh.den) (f:Jh.den->Option α) (ks:KS α Ro):Option α:=A0s n i z v.1.2.2.2.1 v.2.1.1 v.2.2.2.1.1 v.2.2.2.2.1 (fun a b c d=>f (((),(),(),a,()),((b,()),((),()),(c,()),d,()))) (fun w0 w1=>ks.1 (((),(),()),(((),()),(w0,()),w1,())))
def Mw {α:Type} (v:Jh.den) (ks:KS α Ro):Option α:=(fun c d a b=>ks.1 (((),(),()),(((),()),(a,()),b,()))) v.1.2.2.2.1 v.2.1.1 v.2.2.2.1.1 v.2.2.2.2.1
def Akb {α:Type} (n:Nat) (a:LI) (b:LI) (c:Int) (d:LI) (k0:Int->LI->Option α):Option α:=Mf Mu (Mv n) Mw (((),(),(),a,()),((b,()),((),()),(c,()),d,())) (fun w=>k0 w.2.2.1.1 w.2.2.2.1,())
def Jg {α:Type} (n:Nat) (zs:List Int) (i:Nat) (a:LI) (b:LI) (c:Int) (d:LI) (k0:Int->LI->Option α):Option α:=Mg Mu (Mv n) zs i (((),(),(),a,()),((b,()),((),()),(c,()),d,())) (fun v=>Mw v (fun w=>k0 w.2.2.1.1 w.2.2.2.1,())) (fun w=>k0 w.2.2.1.1 w.2.2.2.1,())
theorem Asn {α:Type} (n:Nat) (a:LI) (b:LI) (c:Int) (d:LI) (k0:Int->LI->Option α):Akb (α:=α) n a b c d k0 = gd (decide (a.length <= 4611686018427387904)) (Jg n a a.length a b c d k0):=rfl
theorem Aso {α:Type} (n:Nat) (zs:List Int) (c:LI) (d:LI) (a:Int) (b:LI) (k0:Int->LI->Option α):Jg (α:=α) n zs 0 c d a b k0 = k0 a b:=rfl
theorem Asm {α:Type} (n:Nat) (zs:List Int) (i:Nat) (a:LI) (b:LI) (c:Int) (d:LI) (k0:Int->LI->Option α):Jg (α:=α) n zs (i + 1) a b c d k0 = A0s n i (zs.getD i 0) a b c d (fun a b c d=>gd (decide (a = zs)) (Jg n zs i a b c d k0)) k0:=rfl
def O8 {α:Type} (n:Nat) (b a:Int) (g c d:LI) (f:Int->Int->LI->LI->LI->Option α) (k0:LI->LI->Option α):Option α :=
 bif (decide (a >= 0)) then
  gd (decide (0 <= a) && decide (a <= (W ((W (a + b)) + 1))) && decide ((W ((W (a + b)) + 1)) <= (d.length:Int))) (
   ob (Abz n (d,a.toNat,((W ((W (a + b)) + 1)).toNat - a.toNat)) g) fun e =>
   gd (Nat.beq e.2.length d.length && true) (
    gd (decide (0 <= a) && decide (a < (c.length:Int))) (
     gd (decide (a.toNat < c.length)) (
      f b (W (a - 1)) g (c.set a.toNat e.1) e.2))))
 else
  k0 c d
abbrev O7:Tm:=⟨[(3,.k (.hp 3 0 0)),(6,.d hI),(11,.k (.hw 310)),(12,.k (.hw 62)),(13,.d hI)],[(3,.var 29 true false [.d hIs]),(62,.arr 3 hI false),(310,.arr 3 hI false)],[55],[]⟩
abbrev Ano:Tm:=⟨[(11,.k (.hw 310)),(12,.k (.hw 62))],[(62,.arr 3 hI false),(310,.arr 3 hI false)],[3],[]⟩
abbrev Vl:List (Exit × Tm):=[(.exit 2,Ano)]
def Vk {α:Type} (n:Nat) (v:O7.den) (f:O7.den->Option α) (ks:KS α Vl):Option α:=O8 n v.1.2.1 v.1.2.2.2.2.1 v.2.1.1 v.2.2.1 v.2.2.2.1 (fun a b c d e=>f (((),a,(),(),b,()),((c,()),d,e,()))) (fun w0 w1=>ks.1 (((),(),()),(w0,w1,())))
def Rp {α:Type} (n m:Nat) (a b:Int) (c d e:LI) (k0:LI->LI->Option α):Option α:=A5 (Vk n) m (((),a,(),(),b,()),((c,()),d,e,())) (fun w=>k0 w.2.1 w.2.2.1,())
theorem A4l {α n m a b c d e k0}:Rp (α:=α) n (m + 1) a b c d e k0 = O8 n a b c d e (fun a b c d e=>Rp n m a b c d e k0) k0:=rfl
abbrev Af4:Tm:=⟨[(3,.k (.hp 3 0 0)),(7,.k (.hp 7 0 0)),(8,.k (.hp 8 0 0)),(9,.d hI),(10,.d hI),(29,.d (.clo 235 (.ref hIs))),(30,.d hI),(31,.d hI)],[(3,.var 29 true false [.d hIs]),(7,.var 29 false false [.k (.hw 27)]),(8,.var 3 true false [.d hI]),(27,.arr 3 hI false)],[],[]⟩
abbrev Af3:Tm:=⟨[(7,.k (.hp 7 0 0)),(8,.k (.hp 8 0 0))],[(7,.var 29 false false [.k (.hw 27)]),(8,.var 3 true false [.d hI]),(27,.arr 3 hI false)],[],[]⟩
abbrev Af2:Tm:=⟨[(0,.d hIs),(3,.k (.hp 3 0 0)),(6,.d hI)],[(3,.var 29 true false [.d hIs])],[],[]⟩
abbrev Af1:Tm:=⟨[(3,.k (.hp 3 0 0)),(6,.d hI),(11,.k (.hw 310)),(12,.k (.hw 62)),(13,.d hI)],[(3,.var 29 true false [.d hIs]),(62,.arr 3 hI false),(310,.arr 3 hI false)],[],[]⟩
def f227 (n:Nat) (a0 a1:LI):Option (LI × LI) :=
 ob (f203 n a0 a1) fun b =>
 bif (decide (b < 0)) then
  ob (f117 n a0) fun c =>
  some ([],c)
 else
  bif ((a1.length:Int) == 1) then
   gd (decide (0 <= (a0.length:Int)) && decide ((a0.length:Int) <= 4611686018427387904) && decide ((8:Int) * (a0.length:Int) <= 281474976710656)) (
    ob (f228 n a0) fun d =>
    Akb n d a1 0 (List.replicate ((a0.length:Int).toNat) 0)
     (fun e f=>(
      ob (f225 n f) fun g =>
      ob (f179 n e) fun h =>
      some (g,h))))
  else
   ob (Ik n a0) fun a =>
   gd (decide ((a.length + 1) * 8 <= 140737488355328)) (
    gd (decide (0 <= (W ((W ((a0.length:Int) - (a1.length:Int))) + 1))) && decide ((W ((W ((a0.length:Int) - (a1.length:Int))) + 1)) <= 4611686018427387904) && decide ((8:Int) * (W ((W ((a0.length:Int) - (a1.length:Int))) + 1)) <= 281474976710656)) (
     Rp n n (a1.length:Int) (W ((a0.length:Int) - (a1.length:Int))) a1 (List.replicate ((W ((W ((a0.length:Int) - (a1.length:Int))) + 1)).toNat) 0) (a ++ [0])
      (fun i j=>(
       ob (f225 n i) fun k =>
       ob (f225 n j) fun l =>
       some (k,l)))))
def A4m (n:Nat):Ent:=⟨227,[hIs,hIs],[hIs,hIs],fun x=>f227 n x.1 x.2⟩
def Vm (α:Type) (n:Nat):D3 α:={ reg:=[(1,⟨0,[],[(2,{ ent:=some (Vx n) })]⟩),(2,⟨0,[],[(0,{ sh:=some hI }),(2,{ ent:=some (Kq n) })]⟩),(6,⟨0,[],[(1,{ ent:=some (Af0 n) })]⟩),(11,⟨0,[],[(1,{ ent:=some (Gy n),fz:=[(49,hIs)] }),(3,{ ent:=some (Ko n) })]⟩),(12,⟨0,[],[(1,{ entB:=some (Cy n),hb:=310 }),(2,{ sh:=some hI })]⟩),(16,⟨0,[],[(10,{ entB:=some (Jf n),hb:=320 })]⟩),(17,⟨0,[],[(1,{ ent:=some (Gy n),fz:=[(83,hIs)] }),(3,{ ent:=some (Gy n),fz:=[(85,hIs)] })]⟩)],join:=[],loop:=[(7,⟨Jh,Ro,Mf Mu (Mv n) Mw⟩),(14,⟨O7,Vl,A5 (Vk n) n⟩)],any:=[(10,Af4),(11,Af3),(12,Af2),(16,Af1)] }
set_option maxHeartbeats 8000000 in
theorem Ays (n:Nat):Ar TT ⟨87,[]⟩ [] Af4 (Aa ((A1 Tryz.f227).at [1,1,1,0,1,0,1,0,1,0,1,0,1])):=by
 refine ⟨by kernel_rfl,fun w q hq=>?_⟩
 have e:WT [] (A8 (Aa ((A1 Tryz.f227).at [1,1,1,0,1,0,1,0,1,0,1,0,1])).toList) q = (q = []):=by kernel_rfl
 rw [e] at hq;obtain rfl:=hq
 all_goals exact .inr ⟨14,by kernel_rfl,by kernel_rfl,by kernel_rfl⟩
set_option maxHeartbeats 8000000 in
theorem Ayr (n:Nat):Ar TT ⟨87,[]⟩ [(1,{ ent:=some (Gy n),fz:=[(49,hIs)] }),(3,{ ent:=some (Ko n) })] Af3 (Aa ((A1 Tryz.f227).at [1,1,1,0,1,0,1,1,0])):=by
 refine ⟨by kernel_rfl,fun w q hq=>?_⟩
 have e:WT [(1,{ ent:=some (Gy n),fz:=[(49,hIs)] }),(3,{ ent:=some (Ko n) })] (A8 (Aa ((A1 Tryz.f227).at [1,1,1,0,1,0,1,1,0])).toList) q = (∃ (y0:HL (Gy n).rs) (q0:List (Nat × RV)),q = (1,.sv (Al (Gy n).rs y0)) :: q0 /\ ∃ (y1:HL (Ko n).rs) (q1:List (Nat × RV)),q0 = (3,.sv (Al (Ko n).rs y1)) :: q1 /\ q1 = []):=by kernel_rfl
 rw [e] at hq;obtain ⟨y0,q0,rfl,y1,q1,rfl,rfl⟩:=hq
 all_goals exact .inl (Iw.mk (by kernel_rfl))
set_option maxHeartbeats 8000000 in
theorem Ayq (n:Nat):Ar TT ⟨87,[]⟩ [(1,{ entB:=some (Cy n),hb:=310 }),(2,{ sh:=some hI })] Af2 (Aa ((A1 Tryz.f227).at [1,1,1,1,0])):=by
 refine ⟨by kernel_rfl,fun w q hq=>?_⟩
 have e:WT [(1,{ entB:=some (Cy n),hb:=310 }),(2,{ sh:=some hI })] (A8 (Aa ((A1 Tryz.f227).at [1,1,1,1,0])).toList) q = (∃ (y0:HF (Am 1000 (Cy n).ts) (Cy n).forms) (q0:List (Nat × RV)),q = (1,.bx (Cy n) y0) :: q0 /\ q0 = []):=by kernel_rfl
 rw [e] at hq;obtain ⟨y0,q0,rfl,rfl⟩:=hq
 all_goals exact .inl (Iw.mk (by kernel_rfl))
set_option maxHeartbeats 8000000 in
theorem Af5 (n:Nat):Ar TT ⟨87,[]⟩ [(10,{ entB:=some (Jf n),hb:=320 })] Af1 (Aa ((A1 Tryz.f227).at [1,1,1,1,1,0,1,0,0,1,0,0])):=by
 refine ⟨by kernel_rfl,fun w q hq=>?_⟩
 have e:WT [(10,{ entB:=some (Jf n),hb:=320 })] (A8 (Aa ((A1 Tryz.f227).at [1,1,1,1,1,0,1,0,0,1,0,0])).toList) q = (∃ (y0:HF (Am 1000 (Jf n).ts) (Jf n).forms) (q0:List (Nat × RV)),q = (10,.bx (Jf n) y0) :: q0 /\ q0 = []):=by kernel_rfl
 rw [e] at hq;obtain ⟨y0,q0,rfl,rfl⟩:=hq
 all_goals exact .inr ⟨11,by kernel_rfl,by kernel_rfl,by kernel_rfl⟩
theorem O6 (α:Type) (n:Nat):Ao PP (Ai (Vm α n).reg):=⟨Ya n,Jm n,Aka n,Pn n,A80 n,T0 n,Ayo n,Pn n,Pn n,trivial⟩
theorem Anm (α:Type) (n:Nat):D3.OK PP TT ⟨87,[]⟩ (Vm α n) ((A1 Tryz.f227).at [1,1,1,0,1,0,1,0,1,0,0]) :=
 D3.OK.mk3a (O6 α n) (show Ab ((A1 Tryz.f227).at [1,1,1,0,1,0,1,0,1,0,0]) = [] by kernel_rfl) trivial (show Av ((A1 Tryz.f227).at [1,1,1,0,1,0,1,0,1,0,0]) = [] by kernel_rfl) trivial
theorem Anl (α:Type) (n:Nat):D3.OK PP TT ⟨87,[]⟩ (Vm α n) ((A1 Tryz.f227).at [1,1,1,0,1,0,1,0,1,0,1]) :=
 D3.OK.mk3a (O6 α n) (show Ab ((A1 Tryz.f227).at [1,1,1,0,1,0,1,0,1,0,1]) = [] by kernel_rfl) trivial (show Av ((A1 Tryz.f227).at [1,1,1,0,1,0,1,0,1,0,1]) = [(10,Aa ((A1 Tryz.f227).at [1,1,1,0,1,0,1,0,1,0,1,0,1]))] by kernel_rfl) ⟨⟨Ays n,trivial⟩,trivial⟩
theorem Ank (α:Type) (n:Nat):LO.Sound (α:=α) PP ⟨87,[]⟩ ⟨Jh,Ro,Mf Mu (Mv n) Mw⟩ (.rangeFunc (.tmp 29) #[30,31] ((A1 Tryz.f227).at [1,1,1,0,1,0,1,0,1,0,0]) ((A1 Tryz.f227).at [1,1,1,0,1,0,1,0,1,0,1])) :=
 Ad3 (P4 _) Mh Mu (Mv n) Mw Ale rfl rfl rfl rfl (Anm α n) (Anl α n) (by intro v;rfl) (by intro i z v f ks;kernel_rfl) (by intro v ks;kernel_rfl)
theorem Ann (α:Type) (n:Nat):D3.OK PP TT ⟨87,[]⟩ (Vm α n) ((A1 Tryz.f227).at [1,1,1,1,1,0,1,0,0]) :=
 D3.OK.mk3a (O6 α n) (show Ab ((A1 Tryz.f227).at [1,1,1,1,1,0,1,0,0]) = [] by kernel_rfl) trivial (show Av ((A1 Tryz.f227).at [1,1,1,1,1,0,1,0,0]) = [(16,Aa ((A1 Tryz.f227).at [1,1,1,1,1,0,1,0,0,1,0,0]))] by kernel_rfl) ⟨⟨Af5 n,trivial⟩,trivial⟩
theorem Aim (α:Type) (n:Nat):LO.Sound (α:=α) PP ⟨87,[]⟩ ⟨O7,Vl,A5 (Vk n) n⟩ (.loop ((A1 Tryz.f227).at [1,1,1,1,1,0,1,0,0])):=lk (Ann α n) n
theorem B78 (α:Type) (n:Nat):D3.OK PP TT ⟨87,[]⟩ (Vm α n) (A1 Tryz.f227) :=
 D3.OK.mk3a (O6 α n) (show Ab (A1 Tryz.f227) = [(7,(.rangeFunc (.tmp 29) #[30,31] ((A1 Tryz.f227).at [1,1,1,0,1,0,1,0,1,0,0]) ((A1 Tryz.f227).at [1,1,1,0,1,0,1,0,1,0,1]))),(14,(.loop ((A1 Tryz.f227).at [1,1,1,1,1,0,1,0,0])))] by kernel_rfl) ⟨Ad rfl (Ank α n),Ad rfl (Aim α n),trivial⟩ (show Av (A1 Tryz.f227) = [(11,Aa ((A1 Tryz.f227).at [1,1,1,0,1,0,1,1,0])),(12,Aa ((A1 Tryz.f227).at [1,1,1,1,0])),(16,Aa ((A1 Tryz.f227).at [1,1,1,1,1,0,1,0,0,1,0,0]))] by kernel_rfl) ⟨⟨Ayr n,trivial⟩,⟨Ayq n,trivial⟩,⟨Af5 n,trivial⟩,trivial⟩
theorem A7p (n:Nat):(A4m n).Sound PP:=fk (fn:=Tryz.f227) (B78 _ n)

def A0v {α:Type} (n:Nat) (b a:LI) (f:LI->LI->Option α) (k0:LI->Option α):Option α :=
 bif (decide ((a.length:Int) > 0)) then
  ob (f227 n b a) fun c =>
  f a c.2
 else
  k0 b
abbrev Rr:Tm:=⟨[(0,.d hIs),(1,.d hIs)],[],[],[]⟩
abbrev Asq:Tm:=⟨[(0,.d hIs)],[],[],[]⟩
abbrev A0u:List (Exit × Tm):=[(.exit 0,Asq)]
def A0t {α:Type} (n:Nat) (v:Rr.den) (f:Rr.den->Option α) (ks:KS α A0u):Option α:=A0v n v.1.1 v.1.2.1 (fun a b=>f ((a,b,()),())) (fun w0=>ks.1 ((w0,()),()))
def Ji {α:Type} (n m:Nat) (a b:LI) (k0:LI->Option α):Option α:=A5 (A0t n) m ((a,b,()),()) (fun w=>k0 w.1.1,())
theorem Aa0 {α n m a b k0}:Ji (α:=α) n (m + 1) a b k0 = A0v n a b (fun a b=>Ji n m a b k0) k0:=rfl
def f226 (n:Nat) (a0 a1:LI):Option LI :=
 Ji n n a0 a1
  (fun a=>(
   some a))
def Af6 (n:Nat):Ent:=⟨226,[hIs,hIs],[hIs],fun x=>f226 n x.1 x.2⟩
def Af7 (α:Type) (n:Nat):D3 α:={ reg:=[(2,⟨0,[],[(2,{ ent:=some (A4m n) })]⟩)],join:=[],loop:=[(1,⟨Rr,A0u,A5 (A0t n) n⟩)] }
theorem A9z (α:Type) (n:Nat):Ao PP (Ai (Af7 α n).reg):=⟨A7p n,trivial⟩
theorem Anp (α:Type) (n:Nat):LO.Sound (α:=α) PP ⟨19,[]⟩ ⟨Rr,A0u,A5 (A0t n) n⟩ (.loop ((A1 Tryz.f226).at [1,0,0,0])):=Bj (D:=Af7 α n) (A9z α n) n
theorem B79 (α:Type) (n:Nat):D3.OK PP TT ⟨19,[]⟩ (Af7 α n) (A1 Tryz.f226) :=
 D3.OK.mk3 (A9z α n) (show Ab (A1 Tryz.f226) = [(1,(.loop ((A1 Tryz.f226).at [1,0,0,0])))] by kernel_rfl) ⟨Ad rfl (Anp α n),trivial⟩
theorem Akc (n:Nat):(Af6 n).Sound PP:=fk (fn:=Tryz.f226) (B79 _ n)

def f180 (n:Nat)  : Option LI :=
 some [1]
def Q2 (n:Nat):Ent:=⟨180,[],[hIs],fun _=>f180 n⟩
def B81 (α:Type) (n:Nat):D3 α:={ reg:=[(1,⟨0,[],[(0,{ sh:=some hI })]⟩)],join:=[],loop:=[] }
theorem Q1 (n:Nat):(Q2 n).Sound PP:=At (fn:=Tryz.f180) (D:=B81 _ n) trivial

abbrev B2v:Tm:=⟨[(1,.k (.hp 1 0 0))],[(1,.var 31 true false [.d .bool,.d hIs,.d hIs])],[],[]⟩
def f215 (n:Nat) (a0:Rq):Option Bool :=
 let a:=fun (_:Unit)=>(
  ob (f226 n a0.2.1 a0.2.2) fun b =>
  ob (f180 n) fun c =>
  ob (f203 n b c) fun d =>
  some (d == 0))
 ob (f231 n a0.2.1) fun e =>
 bif (!e) then
  some false
 else
  ob (f231 n a0.2.2) fun f =>
  bif (!f) then
   some false
  else
   bif ((a0.2.2.length:Int) == 0) then
    some false
   else
    bif a0.1 then
     ob (f195 n a0) fun g =>
     bif g then
      some false
     else
      a ()
    else
     a ()
def At1 (n:Nat):Ent:=⟨215,[hR],[.bool],fun x=>f215 n x⟩
def B7i (α:Type) (n:Nat):D3 α:={ reg:=[(1,⟨0,[],[(2,{ ent:=some (Aez n) }),(7,{ ent:=some (Aez n) }),(21,{ ent:=some (Pw n) })]⟩),(3,⟨0,[],[(4,{ ent:=some (Af6 n) }),(5,{ ent:=some (Q2 n) }),(6,{ ent:=some (Vx n) })]⟩)],join:=[(3,B2v)],loop:=[] }
theorem B2t (n:Nat):(At1 n).Sound PP:=At (fn:=Tryz.f215) (D:=B7i _ n) ⟨Ak8 n,Ak8 n,Pv n,Akc n,Q1 n,Ya n,trivial⟩

def f214 (n:Nat) (a0:Rq):Option Bool :=
 ob (f215 n a0) fun a =>
 some (!a)
def At2 (n:Nat):Ent:=⟨214,[hR],[.bool],fun x=>f214 n x⟩
def B7j (α:Type) (n:Nat):D3 α:={ reg:=[(1,⟨0,[],[(1,{ ent:=some (At1 n) })]⟩)],join:=[],loop:=[] }
theorem B2w (n:Nat):(At2 n).Sound PP:=At (fn:=Tryz.f214) (D:=B7j _ n) ⟨B2t n,trivial⟩

def Ng {α:Type} (n:Nat) (b:LR) (c a:Int) (f:LR->Int->Int->Option α) (k0:Int->Option α) (k1:Unit->Option α):Option α :=
 bif (decide (a < c)) then
  gd (decide (0 <= a) && decide (a < (b.length:Int))) (
   let d:=b.getD a.toNat (false,[],[])
   ob (f214 n d) fun e =>
   bif e then
    k0 a
   else
    f b c (W (a + 1)))
 else
  k1 ()
abbrev Ii:Tm:=⟨[(0,.d hRs),(1,.d (.fn 214)),(7,.d hI),(8,.d hI)],[],[],[]⟩
abbrev Abi:Tm:=⟨[(4,.d hI)],[],[],[]⟩
abbrev Abh:Tm:=⟨[],[],[],[]⟩
abbrev Nf:List (Exit × Tm):=[(.ret,Abi),(.exit 0,Abh)]
def Nc {α:Type} (n:Nat) (v:Ii.den) (f:Ii.den->Option α) (ks:KS α Nf):Option α:=Ng n v.1.1 v.1.2.2.1 v.1.2.2.2.1 (fun a b c=>f ((a,(),b,c,()),())) (fun w0=>ks.1 ((w0,()),())) (fun _=>ks.2.1 ((),()))
def H4 {α:Type} (n m:Nat) (a:LR) (b c:Int) (k0:Int->Option α) (k1:Unit->Option α):Option α:=A5 (Nc n) m ((a,(),b,c,()),()) (fun w=>k0 w.1.1,fun w=>k1 (),())
theorem Abg {α n m a b c k0 k1}:H4 (α:=α) n (m + 1) a b c k0 k1 = Ng n a b c (fun a b c=>H4 n m a b c k0 k1) k0 k1:=rfl
def A2d (n:Nat) (a0:LR) (a1:Unit):Option Int :=
 H4 n n a0 (a0.length:Int) 0
  (fun a=>(
   some a))
  (fun (_:Unit)=>(
   some (-1)))
def A57 (n:Nat):Ent:=⟨182,[hRs,(.fn 214)],[hI],fun x=>A2d n x.1 x.2⟩
def Sk (α:Type) (n:Nat):D3 α:={ reg:=[(4,⟨0,[],[(5,{ ent:=some (At2 n) })]⟩)],join:=[],loop:=[(2,⟨Ii,Nf,A5 (Nc n) n⟩)] }
theorem U7 (α:Type) (n:Nat):Ao PP (Ai (Sk α n).reg):=⟨B2w n,trivial⟩
theorem A7y (α:Type) (n:Nat):LO.Sound (α:=α) PP ⟨19,[]⟩ ⟨Ii,Nf,A5 (Nc n) n⟩ (.loop ((A1 Tryz.f182).at [1,0,1,0,0])):=Bj (D:=Sk α n) (U7 α n) n
theorem Aol (α:Type) (n:Nat):D3.OK PP TT ⟨19,[]⟩ (Sk α n) (A1 Tryz.f182) :=
 D3.OK.mk3 (U7 α n) (show Ab (A1 Tryz.f182) = [(2,(.loop ((A1 Tryz.f182).at [1,0,1,0,0])))] by kernel_rfl) ⟨Ad rfl (A7y α n),trivial⟩
theorem Air (n:Nat):(A57 n).Sound PP:=fk (fn:=Tryz.f182) (Aol _ n)

def Ss (n:Nat) (a0:LR) (a1:Unit):Option Bool :=
 ob (A2d n a0 a1) fun a =>
 some (decide (a >= 0))
def A5i (n:Nat):Ent:=⟨129,[hRs,(.fn 214)],[.bool],fun x=>Ss n x.1 x.2⟩
def Aou (α:Type) (n:Nat):D3 α:={ reg:=[(1,⟨0,[],[(2,{ ent:=some (A57 n) })]⟩)],join:=[],loop:=[] }
theorem Aiv (n:Nat):(A5i n).Sound PP:=At (fn:=Tryz.f129) (D:=Aou _ n) ⟨Air n,trivial⟩

def f173 (n:Nat) (a0:LR):Option Int :=
 ob (Ss n a0 ()) fun a =>
 ob (f114 n (!a) 1) fun b =>
 some b
def Auj (n:Nat):Ent:=⟨173,[hRs],[hI],fun x=>f173 n x⟩
def B8b (α:Type) (n:Nat):D3 α:={ reg:=[(1,⟨0,[],[(1,{ ent:=some (A5i n) }),(3,{ ent:=some (Fv n) })]⟩)],join:=[],loop:=[] }
theorem B41 (n:Nat):(Auj n).Sound PP:=At (fn:=Tryz.f173) (D:=B8b _ n) ⟨Aiv n,M6 n,trivial⟩

def f115 (n:Nat) (a0:LR):Option Bool :=
 bif (decide ((a0.length:Int) >= 1)) then
  bif (decide ((a0.length:Int) <= 4)) then
   ob (f173 n a0) fun a =>
   some (a == 0)
  else
   some false
 else
  some false
def Nl (n:Nat):Ent:=⟨115,[hRs],[.bool],fun x=>f115 n x⟩
def B98 (α:Type) (n:Nat):D3 α:={ reg:=[(1,⟨0,[],[(10,{ ent:=some (Auj n) })]⟩)],join:=[],loop:=[] }
theorem Al6 (n:Nat):(Nl n).Sound PP:=At (fn:=Tryz.f115) (D:=B98 _ n) ⟨B41 n,trivial⟩

def A7d {α:Type} (n:Nat) (b:LI) (c a:Int) (f:LI->Int->Int->Option α) (k0:Int->Option α) (k1:Unit->Option α):Option α :=
 bif (decide (a < c)) then
  gd (decide (0 <= a) && decide (a < (b.length:Int))) (
   bif ((b.getD a.toNat 0) != 0) then
    k0 (b.getD a.toNat 0)
   else
    f b c (W (a + 1)))
 else
  k1 ()
abbrev Xx:Tm:=⟨[(5,.d hIs),(6,.d hI),(7,.d hI)],[],[],[]⟩
abbrev Ayc:Tm:=⟨[(2,.d hI)],[],[],[]⟩
abbrev Ayb:Tm:=⟨[],[],[],[]⟩
abbrev A7c:List (Exit × Tm):=[(.ret,Ayc),(.exit 0,Ayb)]
def A7b {α:Type} (n:Nat) (v:Xx.den) (f:Xx.den->Option α) (ks:KS α A7c):Option α:=A7d n v.1.1 v.1.2.1 v.1.2.2.1 (fun a b c=>f ((a,b,c,()),())) (fun w0=>ks.1 ((w0,()),())) (fun _=>ks.2.1 ((),()))
def A4c {α:Type} (n m:Nat) (a:LI) (b c:Int) (k0:Int->Option α) (k1:Unit->Option α):Option α:=A5 (A7b n) m ((a,b,c,()),()) (fun w=>k0 w.1.1,fun w=>k1 (),())
theorem Aya {α n m a b c k0 k1}:A4c (α:=α) n (m + 1) a b c k0 k1 = A7d n a b c (fun a b c=>A4c n m a b c k0 k1) k0 k1:=rfl
def f64 (n:Nat) (a0:LI):Option Int :=
 A4c n n a0 (a0.length:Int) 0
  (fun a=>(
   some a))
  (fun (_:Unit)=>(
   some 0))
def Db (n:Nat):Ent:=⟨64,[hIs],[hI],fun x=>f64 n x⟩
def An4 (α:Type) (n:Nat):D3 α:={ reg:=[],join:=[],loop:=[(2,⟨Xx,A7c,A5 (A7b n) n⟩)] }
theorem Aec (α:Type) (n:Nat):Ao PP (Ai (An4 α n).reg):=trivial
theorem Ary (α:Type) (n:Nat):LO.Sound (α:=α) PP ⟨15,[]⟩ ⟨Xx,A7c,A5 (A7b n) n⟩ (.loop ((A1 Tryz.f64).at [1,0,1,0,0])):=Bj (D:=An4 α n) (Aec α n) n
theorem Bah (α:Type) (n:Nat):D3.OK PP TT ⟨15,[]⟩ (An4 α n) (A1 Tryz.f64) :=
 D3.OK.mk3 (Aec α n) (show Ab (A1 Tryz.f64) = [(2,(.loop ((A1 Tryz.f64).at [1,0,1,0,0])))] by kernel_rfl) ⟨Ad rfl (Ary α n),trivial⟩
theorem Vd (n:Nat):(Db n).Sound PP:=fk (fn:=Tryz.f64) (Bah _ n)

def A35 {α:Type} (n:Nat) (c:Int) (b:LN) (d a:Int) (f:Int->LN->Int->Int->Option α) (k0:Int->Option α):Option α :=
 bif (decide (a < d)) then
  gd (decide (0 <= a) && decide (a < (b.length:Int))) (
   let e:=b.getD a.toNat (0,0,0,0)
   bif (e.1 == 2) then
    f (max c (W (e.2.2.2 + 1))) b d (W (a + 1))
   else
    f c b d (W (a + 1)))
 else
  k0 c
abbrev T2:Tm:=⟨[(3,.d hI),(6,.d hNs),(7,.d hI),(8,.d hI)],[],[5],[]⟩
abbrev Avg:Tm:=⟨[(3,.d hI)],[],[],[]⟩
abbrev A34:List (Exit × Tm):=[(.exit 0,Avg)]
def A33 {α:Type} (n:Nat) (v:T2.den) (f:T2.den->Option α) (ks:KS α A34):Option α:=A35 n v.1.1 v.1.2.1 v.1.2.2.1 v.1.2.2.2.1 (fun a b c d=>f ((a,b,c,d,()),())) (fun w0=>ks.1 ((w0,()),()))
def Yr {α:Type} (n m:Nat) (a:Int) (b:LN) (c d:Int) (k0:Int->Option α):Option α:=A5 (A33 n) m ((a,b,c,d,()),()) (fun w=>k0 w.1.1,())
theorem Avf {α n m a b c d k0}:Yr (α:=α) n (m + 1) a b c d k0 = A35 n a b c d (fun a b c d=>Yr n m a b c d k0) k0:=rfl
def f116 (n:Nat) (a0:LN):Option Int :=
 Yr n n 0 a0 (a0.length:Int) 0
  (fun a=>(
   some a))
def Avh (n:Nat):Ent:=⟨116,[hNs],[hI],fun x=>f116 n x⟩
def Agu (α:Type) (n:Nat):D3 α:={ reg:=[],join:=[],loop:=[(3,⟨T2,A34,A5 (A33 n) n⟩)] }
theorem Aaw (α:Type) (n:Nat):Ao PP (Ai (Agu α n).reg):=trivial
theorem Ap1 (α:Type) (n:Nat):LO.Sound (α:=α) PP ⟨22,[]⟩ ⟨T2,A34,A5 (A33 n) n⟩ (.loop ((A1 Tryz.f116).at [1,1,0,1,0,0])):=Bj (D:=Agu α n) (Aaw α n) n
theorem B97 (α:Type) (n:Nat):D3.OK PP TT ⟨22,[]⟩ (Agu α n) (A1 Tryz.f116) :=
 D3.OK.mk3 (Aaw α n) (show Ab (A1 Tryz.f116) = [(3,(.loop ((A1 Tryz.f116).at [1,1,0,1,0,0])))] by kernel_rfl) ⟨Ad rfl (Ap1 α n),trivial⟩
theorem B4s (n:Nat):(Avh n).Sound PP:=fk (fn:=Tryz.f116) (B97 _ n)

abbrev As1:Tm:=⟨[(1,.d hRs),(2,.k (.hp 2 0 0))],[(2,.var 25 true false [.d hNs])],[],[]⟩
def f59 (n:Nat) (a0:LN) (a1:LR):Option Int :=
 ob (f65 n [a1]) fun b =>
 ob (f108 n a0) fun c =>
 ob (f115 n a1) fun d =>
 ob (f114 n d 1) fun e =>
 ob (f64 n [b,c,e]) fun a =>
 bif (a != 0) then
  ob (f114 n true 8) fun f =>
  ob (f64 n [a,f]) fun g =>
  some g
 else
  ob (f116 n a0) fun h =>
  ob (f114 n (decide ((a1.length:Int) >= h)) 8) fun i =>
  ob (f64 n [a,i]) fun j =>
  some j
def Ie (n:Nat):Ent:=⟨59,[hE,hRs],[hI],fun x=>f59 n x.1 x.2⟩
def B0u (α:Type) (n:Nat):D3 α:={ reg:=[(1,⟨0,[],[(1,{ sh:=some hRs }),(2,{ ent:=some (Ed n) }),(4,{ ent:=some (Q9 n) }),(6,{ ent:=some (Nl n) }),(7,{ ent:=some (Fv n) }),(8,{ sh:=some hI }),(9,{ ent:=some (Db n) })]⟩),(2,⟨0,[],[(8,{ ent:=some (Avh n) }),(11,{ ent:=some (Fv n) }),(12,{ sh:=some hI }),(13,{ ent:=some (Db n) })]⟩)],join:=[],loop:=[],any:=[(1,As1)] }
set_option maxHeartbeats 8000000 in
theorem B6m (n:Nat):Ar TT ⟨30,[]⟩ [(1,{ sh:=some hRs }),(2,{ ent:=some (Ed n) }),(4,{ ent:=some (Q9 n) }),(6,{ ent:=some (Nl n) }),(7,{ ent:=some (Fv n) }),(8,{ sh:=some hI }),(9,{ ent:=some (Db n) })] As1 (Aa ((A1 Tryz.f59).at [1,0])):=by
 refine ⟨by kernel_rfl,fun w q hq=>?_⟩
 have e:WT [(1,{ sh:=some hRs }),(2,{ ent:=some (Ed n) }),(4,{ ent:=some (Q9 n) }),(6,{ ent:=some (Nl n) }),(7,{ ent:=some (Fv n) }),(8,{ sh:=some hI }),(9,{ ent:=some (Db n) })] (A8 (Aa ((A1 Tryz.f59).at [1,0])).toList) q = (∃ (y0:HL (Ed n).rs) (q0:List (Nat × RV)),q = (2,.sv (Al (Ed n).rs y0)) :: q0 /\ ∃ (y1:HL (Q9 n).rs) (q1:List (Nat × RV)),q0 = (4,.sv (Al (Q9 n).rs y1)) :: q1 /\ ∃ (y2:HL (Nl n).rs) (q2:List (Nat × RV)),q1 = (6,.sv (Al (Nl n).rs y2)) :: q2 /\ ∃ (y3:HL (Fv n).rs) (q3:List (Nat × RV)),q2 = (7,.sv (Al (Fv n).rs y3)) :: q3 /\ ∃ (y4:HL (Db n).rs) (q4:List (Nat × RV)),q3 = (9,.sv (Al (Db n).rs y4)) :: q4 /\ q4 = []):=by kernel_rfl
 rw [e] at hq;obtain ⟨y0,q0,rfl,y1,q1,rfl,y2,q2,rfl,y3,q3,rfl,y4,q4,rfl,rfl⟩:=hq
 all_goals exact .inr ⟨6,by kernel_rfl,by kernel_rfl,by kernel_rfl⟩
theorem Aye (α:Type) (n:Nat):Ao PP (Ai (B0u α n).reg):=⟨Ae8 n,B4u n,Al6 n,M6 n,Vd n,B4s n,M6 n,Vd n,trivial⟩
theorem Bak (α:Type) (n:Nat):D3.OK PP TT ⟨30,[]⟩ (B0u α n) (A1 Tryz.f59) :=
 D3.OK.mk3a (Aye α n) (show Ab (A1 Tryz.f59) = [] by kernel_rfl) trivial (show Av (A1 Tryz.f59) = [(1,Aa ((A1 Tryz.f59).at [1,0]))] by kernel_rfl) ⟨⟨B6m n,trivial⟩,trivial⟩
theorem As0 (n:Nat):(Ie n).Sound PP:=fk (fn:=Tryz.f59) (Bak _ n)

def f66 (n:Nat) (a0 a1:LR):Option Int :=
 ob (f115 n a1) fun a =>
 ob (f114 n a 1) fun b =>
 ob (f114 n ((a1.length:Int) == (a0.length:Int)) 8) fun c =>
 ob (f64 n [b,c]) fun d =>
 some d
def Id (n:Nat):Ent:=⟨66,[hRs,hRs],[hI],fun x=>f66 n x.1 x.2⟩
def Baf (α:Type) (n:Nat):D3 α:={ reg:=[(1,⟨0,[],[(1,{ ent:=some (Nl n) }),(2,{ ent:=some (Fv n) }),(8,{ ent:=some (Fv n) }),(9,{ sh:=some hI }),(10,{ ent:=some (Db n) })]⟩)],join:=[],loop:=[] }
theorem Arw (n:Nat):(Id n).Sound PP:=At (fn:=Tryz.f66) (D:=Baf _ n) ⟨Al6 n,M6 n,M6 n,Vd n,trivial⟩

def f126 (n:Nat) (a0:Int):Option Rq :=
 bif (decide (a0 < 0)) then
  ob (f179 n (W (0 - a0))) fun a =>
  ob (f180 n) fun b =>
  some (true,a,b)
 else
  ob (f179 n a0) fun c =>
  ob (f180 n) fun d =>
  some (false,c,d)
def Ba (n:Nat):Ent:=⟨126,[hI],[hR],fun x=>f126 n x⟩
def B92 (α:Type) (n:Nat):D3 α:={ reg:=[(2,⟨0,[],[(2,{ ent:=some (Ko n) }),(3,{ ent:=some (Q2 n) })]⟩),(3,⟨0,[],[(1,{ ent:=some (Ko n) }),(2,{ ent:=some (Q2 n) })]⟩)],join:=[],loop:=[] }
theorem Ci (n:Nat):(Ba n).Sound PP:=At (fn:=Tryz.f126) (D:=B92 _ n) ⟨A80 n,Q1 n,A80 n,Q1 n,trivial⟩

def Azm {α:Type} (n:Nat) (b c:Int) (a:LR) (f:Int->Int->LR->Option α) (k0:LR->Option α):Option α :=
 bif (decide (c < b)) then
  ob (f126 n 0) fun d =>
  gd (decide ((a.length + 1) * 56 <= 140737488355328)) (
   f b (W (c + 1)) (a ++ [d]))
 else
  k0 a
abbrev T4:Tm:=⟨[(3,.k (.hw 4)),(5,.d hI),(6,.d hI)],[(4,.arr 31 hR false)],[10],[]⟩
abbrev Avi:Tm:=⟨[(3,.k (.hw 4))],[(4,.arr 31 hR false)],[],[]⟩
abbrev A37:List (Exit × Tm):=[(.exit 0,Avi)]
def A36 {α:Type} (n:Nat) (v:T4.den) (f:T4.den->Option α) (ks:KS α A37):Option α:=Azm n v.1.2.1 v.1.2.2.1 v.2.1 (fun a b c=>f (((),a,b,()),(c,()))) (fun w0=>ks.1 (((),()),(w0,())))
def B4w {α:Type} (n m:Nat) (a b:Int) (c:LR) (k0:LR->Option α):Option α:=A5 (A36 n) m (((),a,b,()),(c,())) (fun w=>k0 w.2.1,())
def f100 (n:Nat) (a0:Int):Option LR :=
 B4w n n a0 0 []
  (fun a=>(
   some a))
def Nm (n:Nat):Ent:=⟨100,[hI],[hRs],fun x=>f100 n x⟩
def Agv (α:Type) (n:Nat):D3 α:={ reg:=[(1,⟨0,[],[(0,{ sh:=some hR })]⟩),(4,⟨0,[],[(1,{ ent:=some (Ba n) }),(2,{ sh:=some hR })]⟩)],join:=[],loop:=[(3,⟨T4,A37,A5 (A36 n) n⟩)] }
theorem Aax (α:Type) (n:Nat):Ao PP (Ai (Agv α n).reg):=⟨Ci n,trivial⟩
theorem Ap5 (α:Type) (n:Nat):LO.Sound (α:=α) PP ⟨14,[]⟩ ⟨T4,A37,A5 (A36 n) n⟩ (.loop ((A1 Tryz.f100).at [1,1,0,1,0,0])):=Bj (D:=Agv α n) (Aax α n) n
theorem B9c (α:Type) (n:Nat):D3.OK PP TT ⟨14,[]⟩ (Agv α n) (A1 Tryz.f100) :=
 D3.OK.mk3 (Aax α n) (show Ab (A1 Tryz.f100) = [(3,(.loop ((A1 Tryz.f100).at [1,1,0,1,0,0])))] by kernel_rfl) ⟨Ad rfl (Ap5 α n),trivial⟩
theorem Al9 (n:Nat):(Nm n).Sound PP:=fk (fn:=Tryz.f100) (B9c _ n)

abbrev Ag4:Tm:=⟨[(2,.k (.hp 2 0 0)),(3,.k (.hp 3 0 0)),(4,.k (.hp 4 0 0))],[(2,.var 84 true false [.d hI,.d hRs]),(3,.var 31 true false [.d .bool,.d hIs,.d hIs]),(4,.var 81 true false [.d .bool,.d .nil,.d .nil,.d .nil,.d .nil,.d .bool,.d .nil,.d .nil])],[],[]⟩
def Ac2 (n:Nat) (a0:Int × LR) (a1:Rq):Option (Rq × LR × LR × Rq) :=
 ob (f100 n a0.1) fun a =>
 ob (f126 n 0) fun b =>
 gd ((!a0.2.isEmpty)) (
  ob (f100 n a0.1) fun c =>
  some (a1,a,c,b))
def Akq (n:Nat):Ent:=⟨190,[(.st (.pair hI hRs)),hR],[(.st (.pair hR (.pair hRs (.pair hRs hR))))],fun x=>Ac2 n x.1 x.2⟩
def Akr (α:Type) (n:Nat):D3 α:={ reg:=[(1,⟨0,[],[(3,{ ent:=some (Nm n) }),(4,{ ent:=some (Ba n) })]⟩),(3,⟨0,[],[(2,{ ent:=some (Nm n) })]⟩)],join:=[],loop:=[],any:=[(1,Ag4)] }
set_option maxHeartbeats 8000000 in
theorem Aza (n:Nat):Ar TT ⟨20,[]⟩ [(3,{ ent:=some (Nm n) }),(4,{ ent:=some (Ba n) })] Ag4 (Aa ((A1 Tryz.f190).at [1,0])):=by
 refine ⟨by kernel_rfl,fun w q hq=>?_⟩
 have e:WT [(3,{ ent:=some (Nm n) }),(4,{ ent:=some (Ba n) })] (A8 (Aa ((A1 Tryz.f190).at [1,0])).toList) q = (∃ (y0:HL (Nm n).rs) (q0:List (Nat × RV)),q = (3,.sv (Al (Nm n).rs y0)) :: q0 /\ ∃ (y1:HL (Ba n).rs) (q1:List (Nat × RV)),q0 = (4,.sv (Al (Ba n).rs y1)) :: q1 /\ q1 = []):=by kernel_rfl
 rw [e] at hq;obtain ⟨y0,q0,rfl,y1,q1,rfl,rfl⟩:=hq
 all_goals exact .inr ⟨7,by kernel_rfl,by kernel_rfl,by kernel_rfl⟩
theorem Aof (α:Type) (n:Nat):Ao PP (Ai (Akr α n).reg):=⟨Al9 n,Ci n,Al9 n,trivial⟩
theorem B3i (α:Type) (n:Nat):D3.OK PP TT ⟨20,[]⟩ (Akr α n) (A1 Tryz.f190) :=
 D3.OK.mk3a (Aof α n) (show Ab (A1 Tryz.f190) = [] by kernel_rfl) trivial (show Av (A1 Tryz.f190) = [(1,Aa ((A1 Tryz.f190).at [1,0]))] by kernel_rfl) ⟨⟨Aza n,trivial⟩,trivial⟩
theorem Az9 (n:Nat):(Akq n).Sound PP:=fk (fn:=Tryz.f190) (B3i _ n)

def Avj {α:Type} (n:Nat) (b c:Int) (a:LR) (f:Int->Int->LR->Option α) (k0:LR->Option α):Option α :=
 bif (decide (c < b)) then
  ob (f126 n 0) fun d =>
  gd (decide ((a.length + 1) * 56 <= 140737488355328)) (
   f b (W (c + 1)) (a ++ [d]))
 else
  k0 a
abbrev Oe:Tm:=⟨[(3,.k (.hw 4)),(5,.d hI),(6,.d hI)],[(4,.arr 31 hR false)],[10],[]⟩
abbrev Ap6:Tm:=⟨[(3,.k (.hw 4))],[(4,.arr 31 hR false)],[],[]⟩
abbrev Wq:List (Exit × Tm):=[(.exit 0,Ap6)]
def Wp {α:Type} (n:Nat) (v:Oe.den) (f:Oe.den->Option α) (ks:KS α Wq):Option α:=Avj n v.1.2.1 v.1.2.2.1 v.2.1 (fun a b c=>f (((),a,b,()),(c,()))) (fun w0=>ks.1 (((),()),(w0,())))
def Azn {α:Type} (n m:Nat) (a b:Int) (c:LR) (k0:LR->Option α):Option α:=A5 (Wp n) m (((),a,b,()),(c,())) (fun w=>k0 w.2.1,())
def Ac4 (n:Nat) (a0:Int):Option LR :=
 Azn n n a0 0 []
  (fun a=>(
   some a))
def Hv (n:Nat):Ent3:=⟨100,[.im hI],[[.one (.own 31 hR)]],fun x=>Ac4 n x⟩
def A8e (α:Type) (n:Nat):D3 α:={ reg:=[(1,⟨0,[],[(0,{ sh:=some hR })]⟩),(4,⟨0,[],[(1,{ ent:=some (Ba n) }),(2,{ sh:=some hR })]⟩)],join:=[],loop:=[(3,⟨Oe,Wq,A5 (Wp n) n⟩)] }
theorem A5n (α:Type) (n:Nat):Ao PP (Ai (A8e α n).reg):=⟨Ci n,trivial⟩
theorem Aiz (α:Type) (n:Nat):LO.Sound (α:=α) PP ⟨14,[]⟩ ⟨Oe,Wq,A5 (Wp n) n⟩ (.loop ((A1 Tryz.f100).at [1,1,0,1,0,0])):=Bj (D:=A8e α n) (A5n α n) n
theorem B4x (α:Type) (n:Nat):D3.OK PP TT ⟨14,[]⟩ (A8e α n) (A1 Tryz.f100) :=
 D3.OK.mk3 (A5n α n) (show Ab (A1 Tryz.f100) = [(3,(.loop ((A1 Tryz.f100).at [1,1,0,1,0,0])))] by kernel_rfl) ⟨Ad rfl (Aiz α n),trivial⟩
theorem Agw (n:Nat):(Hv n).Sound PP:=Pf (fn:=Tryz.f100) (B4x _ n)

abbrev Aaf:Tm:=⟨[(2,.k (.hp 2 0 0)),(3,.k (.hp 3 0 0)),(4,.k (.hp 4 0 0))],[(2,.var 84 true false [.d hI,.d hRs]),(3,.var 31 true false [.d .bool,.d hIs,.d hIs]),(4,.var 81 true false [.d .bool,.d .nil,.d .nil,.d .nil,.d .nil,.d .bool,.d .nil,.d .nil])],[],[]⟩
def Ag7 (n:Nat) (a0:Int × LR) (a1:Rq):Option (Bool × LI × LI × LR × LR × Bool × LI × LI) :=
 ob (Ac4 n a0.1) fun b =>
 ob (f126 n 0) fun a =>
 gd ((!a0.2.isEmpty)) (
  ob (Ac4 n a0.1) fun c =>
  some (a1.1,a1.2.1,a1.2.2,b,c,a.1,a.2.1,a.2.2))
def Ag5 (n:Nat):Ent3:=⟨190,[.im (.st (.pair hI hRs)),.im hR],[[.mix [.im .bool,.im hIs,.im hIs,.own 31 hR,.own 31 hR,.im .bool,.im hIs,.im hIs]]],fun x=>Ag7 n x.1 x.2⟩
def Ag6 (α:Type) (n:Nat):D3 α:={ reg:=[(1,⟨0,[],[(3,{ entB:=some (Hv n),hb:=310 }),(4,{ ent:=some (Ba n) })]⟩),(3,⟨0,[],[(2,{ entB:=some (Hv n),hb:=320 })]⟩)],join:=[],loop:=[],any:=[(1,Aaf)] }
set_option maxHeartbeats 8000000 in
theorem Att (n:Nat):Ar TT ⟨20,[]⟩ [(3,{ entB:=some (Hv n),hb:=310 }),(4,{ ent:=some (Ba n) })] Aaf (Aa ((A1 Tryz.f190).at [1,0])):=by
 refine ⟨by kernel_rfl,fun w q hq=>?_⟩
 have e:WT [(3,{ entB:=some (Hv n),hb:=310 }),(4,{ ent:=some (Ba n) })] (A8 (Aa ((A1 Tryz.f190).at [1,0])).toList) q = (∃ (y0:HF (Am 1000 (Hv n).ts) (Hv n).forms) (q0:List (Nat × RV)),q = (3,.bx (Hv n) y0) :: q0 /\ ∃ (y1:HL (Ba n).rs) (q1:List (Nat × RV)),q0 = (4,.sv (Al (Ba n).rs y1)) :: q1 /\ q1 = []):=by kernel_rfl
 rw [e] at hq;obtain ⟨y0,q0,rfl,y1,q1,rfl,rfl⟩:=hq
 all_goals exact .inl (Iw.mk (by kernel_rfl))
theorem Aiq (α:Type) (n:Nat):Ao PP (Ai (Ag6 α n).reg):=⟨Agw n,Ci n,Agw n,trivial⟩
theorem Azb (α:Type) (n:Nat):D3.OK PP TT ⟨20,[]⟩ (Ag6 α n) (A1 Tryz.f190) :=
 D3.OK.mk3a (Aiq α n) (show Ab (A1 Tryz.f190) = [] by kernel_rfl) trivial (show Av (A1 Tryz.f190) = [(1,Aa ((A1 Tryz.f190).at [1,0]))] by kernel_rfl) ⟨⟨Att n,trivial⟩,trivial⟩
theorem Ats (n:Nat):(Ag5 n).Sound PP:=Pf (fn:=Tryz.f190) (Azb _ n)

abbrev Az8:Tm:=⟨[(2,.d hI),(3,.k (.hp 3 0 0)),(6,.k (.hp 6 0 0)),(7,.k (.hp 7 0 0))],[(3,.var 84 true false [.d hI,.d hRs]),(6,.var 81 true false [.d .bool,.d .nil,.d .nil,.d .nil,.d .nil,.d .bool,.d .nil,.d .nil]),(7,.var 81 false false [.d .bool,.d hIs,.d hIs,.k (.hw 313),.k (.hw 314),.d .bool,.d hIs,.d hIs]),(313,.arr 31 hR false),(314,.arr 31 hR false)],[4],[]⟩
def Ac1 (n:Nat) (a0:Int × LR) (a1:Rq) (a2:Int):Option (Rq × LR × LR × Rq) :=
 ob (Ag7 n a0 a1) fun a =>
 let b:=fun (c:LR)=>(
  gd ((!a0.2.isEmpty)) (
   gd (decide (0 <= a2) && decide (a2 < (a0.2.length:Int))) (
    let d:=a0.2.getD a2.toNat (false,[],[])
    some ((a.1,a.2.1,a.2.2.1),c,a.2.2.2.2.1,d))))
 bif (decide (a2 < a0.1)) then
  ob (f126 n 1) fun e =>
  gd (decide (0 <= a2) && decide (a2 < (a.2.2.2.1.length:Int))) (
   gd (decide (a2.toNat < a.2.2.2.1.length)) (
    b (a.2.2.2.1.set a2.toNat e)))
 else
  b a.2.2.2.1
def Akp (n:Nat):Ent:=⟨191,[(.st (.pair hI hRs)),hR,hI],[(.st (.pair hR (.pair hRs (.pair hRs hR))))],fun x=>Ac1 n x.1 x.2.1 x.2.2⟩
def B3h (α:Type) (n:Nat):D3 α:={ reg:=[(1,⟨0,[],[(2,{ alt:=[(Ag5 n)],hb:=310 })]⟩),(3,⟨4,[],[(3,{ ent:=some (Ba n) })]⟩)],join:=[(4,Az8)],loop:=[] }
theorem Az7 (n:Nat):(Akp n).Sound PP:=At (fn:=Tryz.f191) (D:=B3h _ n) ⟨Ats n,Ci n,trivial⟩

def A1r {α:Type} (n:Nat) (d:LI) (b g e a:Int) (h:LI) (i j:Int) (c:LI) (f:LI->Int->Int->Int->Int->LI->Int->Int->LI->Option α) (k0:LI->LI->Int->Int->LI->Option α):Option α :=
 let k:=fun (_:Unit)=>(
  let l:=fun (m:Int)=>(
   gd (decide (0 <= (W (b + a))) && decide ((W (b + a)) < (c.length:Int))) (
    gd (decide ((W (b + a)).toNat < c.length)) (
     gd (decide (0 <= (W (b + a))) && decide ((W (b + a)) < (c.length:Int))) (
      gd (decide ((W (b + a)).toNat < c.length)) (
       f d b g (W (Int.tdiv (W (m + (c.getD ((W (b + a)).toNat) 0))) 10000)) (W (a + 1)) h i j (c.set ((W (b + a)).toNat) (Int.tmod (W (m + (c.getD ((W (b + a)).toNat) 0))) 10000)))))))
  bif (decide (a < (d.length:Int))) then
   gd (decide (0 <= a) && decide (a < (d.length:Int))) (
    l (W (e + (W (g * (d.getD a.toNat 0))))))
  else
   l e)
 bif (decide (a < (d.length:Int))) then
  k ()
 else
  bif (decide (e > 0)) then
   k ()
  else
   k0 d h i j c
abbrev Sb:Tm:=⟨[(1,.d hIs),(5,.k (.hw 15)),(6,.d hI),(7,.d hI),(8,.d hI),(9,.d hI),(16,.d hIs),(17,.d hI),(18,.d hI)],[(15,.arr 3 hI false)],[],[]⟩
abbrev Atk:Tm:=⟨[(1,.d hIs),(5,.k (.hw 15)),(16,.d hIs),(17,.d hI),(18,.d hI)],[(15,.arr 3 hI false)],[],[]⟩
abbrev A1q:List (Exit × Tm):=[(.exit 2,Atk)]
def A1p {α:Type} (n:Nat) (v:Sb.den) (f:Sb.den->Option α) (ks:KS α A1q):Option α:=A1r n v.1.1 v.1.2.2.1 v.1.2.2.2.1 v.1.2.2.2.2.1 v.1.2.2.2.2.2.1 v.1.2.2.2.2.2.2.1 v.1.2.2.2.2.2.2.2.1 v.1.2.2.2.2.2.2.2.2.1 v.2.1 (fun a b c d e g h i j=>f ((a,(),b,c,d,e,g,h,i,()),(j,()))) (fun w0 w1 w2 w3 w4=>ks.1 ((w0,(),w1,w2,w3,()),(w4,())))
def M0 {α:Type} (n m:Nat) (a:LI) (b c d e:Int) (f:LI) (g h:Int) (i:LI) (k0:LI->LI->Int->Int->LI->Option α):Option α:=A5 (A1p n) m ((a,(),b,c,d,e,f,g,h,()),(i,())) (fun w=>k0 w.1.1 w.1.2.2.1 w.1.2.2.2.1 w.1.2.2.2.2.1 w.2.1,())
theorem Atj {α n m a b c d e f g h i k0}:M0 (α:=α) n (m + 1) a b c d e f g h i k0 = A1r n a b c d e f g h i (fun a b c d e f g h i=>M0 n m a b c d e f g h i k0) k0:=rfl
def A1u {α:Type} (n:Nat) (e b:LI) (c a:Int) (d:LI) (f:LI->LI->Int->Int->LI->Option α) (k0:LI->Option α):Option α :=
 bif (decide (a < c)) then
  gd (decide (0 <= a) && decide (a < (b.length:Int))) (
   M0 n n e a (b.getD a.toNat 0) 0 0 b c a d
    (fun g h i j k=>(
     f g h i (W (j + 1)) k)))
 else
  k0 d
abbrev Sc:Tm:=⟨[(1,.d hIs),(5,.k (.hw 15)),(16,.d hIs),(17,.d hI),(18,.d hI)],[(15,.arr 3 hI false)],[],[]⟩
abbrev Atn:Tm:=⟨[(5,.k (.hw 15))],[(15,.arr 3 hI false)],[],[]⟩
abbrev A1t:List (Exit × Tm):=[(.exit 0,Atn)]
def A1s {α:Type} (n:Nat) (v:Sc.den) (f:Sc.den->Option α) (ks:KS α A1t):Option α:=A1u n v.1.1 v.1.2.2.1 v.1.2.2.2.1 v.1.2.2.2.2.1 v.2.1 (fun a b c d e=>f ((a,(),b,c,d,()),(e,()))) (fun w0=>ks.1 (((),()),(w0,())))
def M1 {α:Type} (n m:Nat) (a b:LI) (c d:Int) (e:LI) (k0:LI->Option α):Option α:=A5 (A1s n) m ((a,(),b,c,d,()),(e,())) (fun w=>k0 w.2.1,())
theorem Atl {α n m a b c d e k0}:M1 (α:=α) n (m + 1) a b c d e k0 = A1u n a b c d e (fun a b c d e=>M1 n m a b c d e k0) k0:=rfl
abbrev B3b:Tm:=⟨[(1,.d hIs),(5,.k (.hw 15)),(6,.d hI),(7,.d hI),(8,.d hI),(9,.d hI),(16,.d hIs),(17,.d hI),(18,.d hI)],[(15,.arr 3 hI false)],[],[]⟩
abbrev Ayy:Tm:=⟨[(1,.d hIs),(5,.k (.hw 15)),(6,.d hI),(7,.d hI),(8,.d hI),(9,.d hI),(16,.d hIs),(17,.d hI),(18,.d hI)],[(15,.arr 3 hI false)],[],[]⟩
def f200 (n:Nat) (a0 a1:LI):Option LI :=
 gd (decide (0 <= (W ((a0.length:Int) + (a1.length:Int)))) && decide ((W ((a0.length:Int) + (a1.length:Int))) <= 4611686018427387904) && decide ((8:Int) * (W ((a0.length:Int) + (a1.length:Int))) <= 281474976710656)) (
  M1 n n a1 a0 (a0.length:Int) 0 (List.replicate ((W ((a0.length:Int) + (a1.length:Int))).toNat) 0)
   (fun a=>(
    ob (f225 n a) fun b =>
    some b)))
def H2 (n:Nat):Ent:=⟨200,[hIs,hIs],[hIs],fun x=>f200 n x.1 x.2⟩
def A4s (α:Type) (n:Nat):D3 α:={ reg:=[(14,⟨0,[],[(1,{ ent:=some (Gy n),fz:=[(63,hIs)] })]⟩)],join:=[(9,B3b),(11,Ayy)],loop:=[(7,⟨Sb,A1q,A5 (A1p n) n⟩),(3,⟨Sc,A1t,A5 (A1s n) n⟩)] }
theorem Vy (α:Type) (n:Nat):Ao PP (Ai (A4s α n).reg):=⟨Pn n,trivial⟩
theorem Ao6 (α:Type) (n:Nat):LO.Sound (α:=α) PP ⟨65,[]⟩ ⟨Sb,A1q,A5 (A1p n) n⟩ (.loop ((A1 Tryz.f200).at [1,1,0,1,0,0,1,1,0,0,1,1,1,0,0])):=Bj (D:=A4s α n) (Vy α n) n
theorem Atm (α:Type) (n:Nat):D3.OK PP TT ⟨65,[]⟩ (A4s α n) ((A1 Tryz.f200).at [1,1,0,1,0,0]) :=
 D3.OK.mk3 (Vy α n) (show Ab ((A1 Tryz.f200).at [1,1,0,1,0,0]) = [(7,(.loop ((A1 Tryz.f200).at [1,1,0,1,0,0,1,1,0,0,1,1,1,0,0])))] by kernel_rfl) ⟨Ad rfl (Ao6 α n),trivial⟩
theorem Ao7 (α:Type) (n:Nat):LO.Sound (α:=α) PP ⟨65,[]⟩ ⟨Sc,A1t,A5 (A1s n) n⟩ (.loop ((A1 Tryz.f200).at [1,1,0,1,0,0])):=lk (Atm α n) n
theorem B7r (α:Type) (n:Nat):D3.OK PP TT ⟨65,[]⟩ (A4s α n) (A1 Tryz.f200) :=
 D3.OK.mk3 (Vy α n) (show Ab (A1 Tryz.f200) = [(3,(.loop ((A1 Tryz.f200).at [1,1,0,1,0,0])))] by kernel_rfl) ⟨Ad rfl (Ao7 α n),trivial⟩
theorem Gb (n:Nat):(H2 n).Sound PP:=fk (fn:=Tryz.f200) (B7r _ n)

def A1o {α:Type} (n:Nat) (b c:LI) (d a:Int) (e:LI) (f:LI->LI->Int->Int->LI->Option α) (k0:LI->Option α):Option α :=
 let g:=fun (_:Unit)=>(
  let h:=fun (i:Int)=>(
   let j:=fun (k:Int)=>(
    gd (decide ((e.length + 1) * 8 <= 140737488355328)) (
     f b c (W (Int.tdiv k 10000)) (W (a + 1)) (e ++ [(Int.tmod k 10000)])))
   bif (decide (a < (c.length:Int))) then
    gd (decide (0 <= a) && decide (a < (c.length:Int))) (
     j (W (i + (c.getD a.toNat 0))))
   else
    j i)
  bif (decide (a < (b.length:Int))) then
   gd (decide (0 <= a) && decide (a < (b.length:Int))) (
    h (W (d + (b.getD a.toNat 0))))
  else
   h d)
 bif (decide (a < (max (b.length:Int) (c.length:Int)))) then
  g ()
 else
  bif (decide (d > 0)) then
   g ()
  else
   k0 e
abbrev Sa:Tm:=⟨[(0,.d hIs),(1,.d hIs),(5,.k (.hw 8)),(6,.d hI),(7,.d hI)],[(8,.arr 3 hI false)],[45],[]⟩
abbrev Ath:Tm:=⟨[(5,.k (.hw 8))],[(8,.arr 3 hI false)],[],[]⟩
abbrev A1n:List (Exit × Tm):=[(.exit 0,Ath)]
def A1m {α:Type} (n:Nat) (v:Sa.den) (f:Sa.den->Option α) (ks:KS α A1n):Option α:=A1o n v.1.1 v.1.2.1 v.1.2.2.2.1 v.1.2.2.2.2.1 v.2.1 (fun a b c d e=>f ((a,b,(),c,d,()),(e,()))) (fun w0=>ks.1 (((),()),(w0,())))
def Lz {α:Type} (n m:Nat) (a b:LI) (c d:Int) (e:LI) (k0:LI->Option α):Option α:=A5 (A1m n) m ((a,b,(),c,d,()),(e,())) (fun w=>k0 w.2.1,())
theorem Atg {α n m a b c d e k0}:Lz (α:=α) n (m + 1) a b c d e k0 = A1o n a b c d e (fun a b c d e=>Lz n m a b c d e k0) k0:=rfl
abbrev B38:Tm:=⟨[(0,.d hIs),(1,.d hIs),(5,.k (.hw 8)),(6,.d hI),(7,.d hI)],[(8,.arr 3 hI false)],[],[]⟩
abbrev B37:Tm:=⟨[(0,.d hIs),(1,.d hIs),(5,.k (.hw 8)),(6,.d hI),(7,.d hI)],[(8,.arr 3 hI false)],[],[]⟩
abbrev B36:Tm:=⟨[(0,.d hIs),(1,.d hIs),(5,.k (.hw 8)),(6,.d hI),(7,.d hI)],[(8,.arr 3 hI false)],[],[]⟩
def f202 (n:Nat) (a0 a1:LI):Option LI :=
 Lz n n a0 a1 0 0 []
  (fun a=>(
   some a))
def Ati (n:Nat):Ent:=⟨202,[hIs,hIs],[hIs],fun x=>f202 n x.1 x.2⟩
def Afl (α:Type) (n:Nat):D3 α:={ reg:=[(1,⟨0,[],[(0,{ sh:=some hI })]⟩),(9,⟨0,[],[(3,{ sh:=some hI })]⟩)],join:=[(5,B38),(7,B37),(9,B36)],loop:=[(3,⟨Sa,A1n,A5 (A1m n) n⟩)] }
theorem Aad (α:Type) (n:Nat):Ao PP (Ai (Afl α n).reg):=trivial
theorem Ao5 (α:Type) (n:Nat):LO.Sound (α:=α) PP ⟨50,[]⟩ ⟨Sa,A1n,A5 (A1m n) n⟩ (.loop ((A1 Tryz.f202).at [1,1,0,1,0,0])):=Bj (D:=Afl α n) (Aad α n) n
theorem B7p (α:Type) (n:Nat):D3.OK PP TT ⟨50,[]⟩ (Afl α n) (A1 Tryz.f202) :=
 D3.OK.mk3 (Aad α n) (show Ab (A1 Tryz.f202) = [(3,(.loop ((A1 Tryz.f202).at [1,1,0,1,0,0])))] by kernel_rfl) ⟨Ad rfl (Ao5 α n),trivial⟩
theorem B35 (n:Nat):(Ati n).Sound PP:=fk (fn:=Tryz.f202) (B7p _ n)

abbrev B39:Tm:=⟨[(0,.d .bool),(1,.d hIs),(2,.d hIs),(6,.k (.hp 6 0 0))],[(6,.var 31 true false [.d .bool,.d .nil,.d .nil])],[],[]⟩
def f201 (n:Nat) (a0:Bool) (a1 a2:LI):Option Rq :=
 let c:=fun (a:LI) (d:LI)=>(
  bif a0 then
   ob (f117 n a) fun e =>
   ob (f117 n d) fun f =>
   some ((decide ((a.length:Int) > 0)),e,f)
  else
   ob (f117 n a) fun g =>
   ob (f117 n d) fun h =>
   some (false,g,h))
 ob (f226 n a1 a2) fun b =>
 ob (f180 n) fun i =>
 ob (f203 n b i) fun j =>
 bif (j != 0) then
  ob (f227 n a1 b) fun k =>
  ob (f227 n a2 b) fun l =>
  c k.1 l.1
 else
  c a1 a2
def Pt (n:Nat):Ent:=⟨201,[.bool,hIs,hIs],[hR],fun x=>f201 n x.1 x.2.1 x.2.2⟩
def B7q (α:Type) (n:Nat):D3 α:={ reg:=[(1,⟨0,[],[(2,{ ent:=some (Af6 n) })]⟩),(2,⟨0,[],[(1,{ ent:=some (Q2 n) }),(2,{ ent:=some (Vx n) })]⟩),(3,⟨0,[],[(2,{ ent:=some (A4m n) })]⟩),(4,⟨0,[],[(2,{ ent:=some (A4m n) })]⟩),(5,⟨0,[],[(7,{ ent:=some (Kq n) }),(9,{ ent:=some (Kq n) })]⟩)],join:=[(5,B39)],loop:=[] }
theorem Ps (n:Nat):(Pt n).Sound PP:=At (fn:=Tryz.f201) (D:=B7q _ n) ⟨Akc n,Q1 n,Ya n,A7p n,A7p n,Jm n,Jm n,trivial⟩

def A1k {α:Type} (n:Nat) (c:LI) (g d a:Int) (b:LI) (f:LI->Int->Int->Int->LI->Option α) (k0:LI->Option α):Option α :=
 bif (decide (a < d)) then
  gd (decide (0 <= a) && decide (a < (b.length:Int))) (
   gd (decide (a.toNat < b.length)) (
    let h:=fun (e:Int)=>(
     bif (decide (e < 0)) then
      gd (decide (0 <= a) && decide (a < (b.length:Int))) (
       gd (decide (a.toNat < b.length)) (
        f c 1 d (W (a + 1)) (b.set a.toNat (W (e + 10000)))))
     else
      gd (decide (0 <= a) && decide (a < (b.length:Int))) (
       gd (decide (a.toNat < b.length)) (
        f c 0 d (W (a + 1)) (b.set a.toNat e))))
    bif (decide (a < (c.length:Int))) then
     gd (decide (0 <= a) && decide (a < (c.length:Int))) (
      h (W ((W ((b.getD a.toNat 0) - g)) - (c.getD a.toNat 0))))
    else
     h (W ((b.getD a.toNat 0) - g))))
 else
  k0 b
abbrev S8:Tm:=⟨[(1,.d hIs),(5,.k (.hw 310)),(6,.d hI),(12,.d hI),(13,.d hI)],[(310,.arr 3 hI false)],[],[]⟩
abbrev Ata:Tm:=⟨[(5,.k (.hw 310))],[(310,.arr 3 hI false)],[],[]⟩
abbrev A1j:List (Exit × Tm):=[(.exit 0,Ata)]
def A1i {α:Type} (n:Nat) (v:S8.den) (f:S8.den->Option α) (ks:KS α A1j):Option α:=A1k n v.1.1 v.1.2.2.1 v.1.2.2.2.1 v.1.2.2.2.2.1 v.2.1 (fun a b c d e=>f ((a,(),b,c,d,()),(e,()))) (fun w0=>ks.1 (((),()),(w0,())))
def Hu {α:Type} (n m:Nat) (a:LI) (b c d:Int) (e:LI) (k0:LI->Option α):Option α:=A5 (A1i n) m ((a,(),b,c,d,()),(e,())) (fun w=>k0 w.2.1,())
theorem At9 {α n m a b c d e k0}:Hu (α:=α) n (m + 1) a b c d e k0 = A1k n a b c d e (fun a b c d e=>Hu n m a b c d e k0) k0:=rfl
abbrev B33:Tm:=⟨[(1,.d hIs),(5,.k (.hw 310)),(7,.d hI),(8,.d hI),(12,.d hI),(13,.d hI)],[(310,.arr 3 hI false)],[],[]⟩
def f204 (n:Nat) (a0 a1:LI):Option LI :=
 ob (Ik n a0) fun a =>
 Hu n n a1 0 (a.length:Int) 0 a
  (fun b=>(
   ob (f225 n b) fun c =>
   some c))
def Afj (n:Nat):Ent:=⟨204,[hIs,hIs],[hIs],fun x=>f204 n x.1 x.2⟩
def Afk (α:Type) (n:Nat):D3 α:={ reg:=[(1,⟨0,[],[(1,{ entB:=some (Cy n),hb:=310 })]⟩),(13,⟨0,[],[(1,{ ent:=some (Gy n),fz:=[(41,hIs)] })]⟩)],join:=[(8,B33)],loop:=[(3,⟨S8,A1j,A5 (A1i n) n⟩)] }
theorem Aac (α:Type) (n:Nat):Ao PP (Ai (Afk α n).reg):=⟨T0 n,Pn n,trivial⟩
theorem Ao1 (α:Type) (n:Nat):LO.Sound (α:=α) PP ⟨43,[]⟩ ⟨S8,A1j,A5 (A1i n) n⟩ (.loop ((A1 Tryz.f204).at [1,1,0,1,0,0])):=Bj (D:=Afk α n) (Aac α n) n
theorem B7n (α:Type) (n:Nat):D3.OK PP TT ⟨43,[]⟩ (Afk α n) (A1 Tryz.f204) :=
 D3.OK.mk3 (Aac α n) (show Ab (A1 Tryz.f204) = [(3,(.loop ((A1 Tryz.f204).at [1,1,0,1,0,0])))] by kernel_rfl) ⟨Ad rfl (Ao1 α n),trivial⟩
theorem Akj (n:Nat):(Afj n).Sound PP:=fk (fn:=Tryz.f204) (B7n _ n)

def f161 (n:Nat) (a0 a1:Rq):Option Rq :=
 ob (f200 n a0.2.1 a1.2.2) fun a =>
 ob (f200 n a1.2.1 a0.2.2) fun b =>
 ob (f200 n a0.2.2 a1.2.2) fun c =>
 bif (a0.1 == a1.1) then
  ob (f202 n a b) fun d =>
  ob (f201 n a0.1 d c) fun e =>
  some e
 else
  ob (f203 n a b) fun f =>
  bif (decide (f >= 0)) then
   ob (f204 n a b) fun g =>
   ob (f201 n a0.1 g c) fun h =>
   some h
  else
   ob (f204 n b a) fun i =>
   ob (f201 n a1.1 i c) fun j =>
   some j
def Aj (n:Nat):Ent:=⟨161,[hR,hR],[hR],fun x=>f161 n x.1 x.2⟩
def B8e (α:Type) (n:Nat):D3 α:={ reg:=[(1,⟨9,[],[(4,{ ent:=some (H2 n) }),(9,{ ent:=some (H2 n) })]⟩),(2,⟨0,[],[(4,{ ent:=some (H2 n) })]⟩),(4,⟨6,[],[(4,{ ent:=some (Ati n) }),(6,{ ent:=some (Pt n) })]⟩),(5,⟨0,[],[(2,{ ent:=some (Vx n) })]⟩),(6,⟨6,[],[(4,{ ent:=some (Afj n) }),(6,{ ent:=some (Pt n) })]⟩),(7,⟨6,[],[(4,{ ent:=some (Afj n) }),(6,{ ent:=some (Pt n) })]⟩)],join:=[],loop:=[] }
theorem Fd (n:Nat):(Aj n).Sound PP:=At (fn:=Tryz.f161) (D:=B8e _ n) ⟨Gb n,Gb n,Gb n,B35 n,Ps n,Ya n,Akj n,Ps n,Akj n,Ps n,trivial⟩

def Atr {α:Type} (n:Nat) (c:LR) (i a:Int) (s:Bool) (t u:LI) (v b:LR) (w:Bool) (x y:LI) (z:Bool) (d0 d1:LI) (d e:LR) (d2:Bool) (d3 d4:LI) (j k l:Bool) (m o:LI) (p:Bool) (q r:LI) (g h:LR) (f:LR->Int->Int->Bool->LI->LI->LR->LR->Bool->LI->LI->Bool->LI->LI->LR->LR->Bool->LI->LI->Bool->Bool->Bool->LI->LI->Bool->LI->LI->LR->LR->Option α) (k0:Bool->Bool->Bool->LI->LI->Bool->LI->LI->LR->LR->Option α):Option α :=
 bif (decide (a < i)) then
  gd (decide (0 <= a) && decide (a < (c.length:Int))) (
   let d5:=c.getD a.toNat (false,[],[])
   gd (decide (0 <= a) && decide (a < (d.length:Int))) (
    let d6:=d.getD a.toNat (false,[],[])
    ob (f161 n d5 d6) fun d7 =>
    gd (decide ((g.length + 1) * 56 <= 140737488355328)) (
     gd ((!b.isEmpty)) (
      gd (decide (0 <= a) && decide (a < (b.length:Int))) (
       let d8:=b.getD a.toNat (false,[],[])
       gd (decide (0 <= a) && decide (a < (e.length:Int))) (
        let d9:=e.getD a.toNat (false,[],[])
        ob (f161 n d8 d9) fun e0 =>
        gd (decide ((h.length + 1) * 56 <= 140737488355328)) (
         f c i (W (a + 1)) s t u v b w x y z d0 d1 d e d2 d3 d4 j k l m o p q r (g ++ [d7]) (h ++ [e0]))))))))
 else
  k0 j k l m o p q r g h
abbrev Ob:Tm:=⟨[(2,.k (.hp 2 0 0)),(3,.k (.hp 3 0 0)),(4,.k (.hp 4 0 0)),(5,.k (.hp 5 0 0)),(20,.d hRs),(21,.d hI),(22,.d hI)],[(2,.var 81 true false [.d .bool,.d hIs,.d hIs,.d hRs,.d hRs,.d .bool,.d hIs,.d hIs]),(3,.var 81 true false [.d .bool,.d hIs,.d hIs,.d hRs,.d hRs,.d .bool,.d hIs,.d hIs]),(4,.var 81 true false [.d .bool,.d .nil,.d .nil,.d .nil,.d .nil,.d .bool,.d .nil,.d .nil]),(5,.var 81 false false [.d .bool,.d hIs,.d hIs,.k (.hw 37),.k (.hw 56),.d .bool,.d hIs,.d hIs]),(37,.arr 31 hR false),(56,.arr 31 hR false)],[55],[]⟩
abbrev Aoe:Tm:=⟨[(4,.k (.hp 4 0 0)),(5,.k (.hp 5 0 0))],[(4,.var 81 true false [.d .bool,.d .nil,.d .nil,.d .nil,.d .nil,.d .bool,.d .nil,.d .nil]),(5,.var 81 false false [.d .bool,.d hIs,.d hIs,.k (.hw 37),.k (.hw 56),.d .bool,.d hIs,.d hIs]),(37,.arr 31 hR false),(56,.arr 31 hR false)],[2,3],[]⟩
abbrev W7:List (Exit × Tm):=[(.exit 0,Aoe)]
def W6 {α:Type} (n:Nat) (v:Ob.den) (f:Ob.den->Option α) (ks:KS α W7):Option α:=Atr n v.1.2.2.2.2.1 v.1.2.2.2.2.2.1 v.1.2.2.2.2.2.2.1 v.2.1.1 v.2.1.2.1 v.2.1.2.2.1 v.2.1.2.2.2.1 v.2.1.2.2.2.2.1 v.2.1.2.2.2.2.2.1 v.2.1.2.2.2.2.2.2.1 v.2.1.2.2.2.2.2.2.2.1 v.2.2.1.1 v.2.2.1.2.1 v.2.2.1.2.2.1 v.2.2.1.2.2.2.1 v.2.2.1.2.2.2.2.1 v.2.2.1.2.2.2.2.2.1 v.2.2.1.2.2.2.2.2.2.1 v.2.2.1.2.2.2.2.2.2.2.1 v.2.2.2.1.1 v.2.2.2.1.2.2.2.2.2.1 v.2.2.2.2.1.1 v.2.2.2.2.1.2.1 v.2.2.2.2.1.2.2.1 v.2.2.2.2.1.2.2.2.2.2.1 v.2.2.2.2.1.2.2.2.2.2.2.1 v.2.2.2.2.1.2.2.2.2.2.2.2.1 v.2.2.2.2.2.1 v.2.2.2.2.2.2.1 (fun a b c d e g h i j k l m o p q r s t u w x y z d0 d1 d2 d3 d4 d5=>f (((),(),(),(),a,b,c,()),((d,e,g,h,i,j,k,l,()),(m,o,p,q,r,s,t,u,()),(w,(),(),(),(),x,(),(),()),(y,z,d0,(),(),d1,d2,d3,()),d4,d5,()))) (fun w0 w1 w2 w3 w4 w5 w6 w7 w8 w9=>ks.1 (((),(),()),((w0,(),(),(),(),w1,(),(),()),(w2,w3,w4,(),(),w5,w6,w7,()),w8,w9,())))
def Az5 {α:Type} (n m:Nat) (a:LR) (b c:Int) (d:Bool) (e f:LI) (g h:LR) (i:Bool) (j k:LI) (l:Bool) (o p:LI) (q r:LR) (s:Bool) (t u:LI) (v x y:Bool) (z d0:LI) (d1:Bool) (d2 d3:LI) (d4 d5:LR) (k0:Bool->Bool->Bool->LI->LI->Bool->LI->LI->LR->LR->Option α):Option α:=A5 (W6 n) m (((),(),(),(),a,b,c,()),((d,e,f,g,h,i,j,k,()),(l,o,p,q,r,s,t,u,()),(v,(),(),(),(),x,(),(),()),(y,z,d0,(),(),d1,d2,d3,()),d4,d5,())) (fun w=>k0 w.2.1.1 w.2.1.2.2.2.2.2.1 w.2.2.1.1 w.2.2.1.2.1 w.2.2.1.2.2.1 w.2.2.1.2.2.2.2.2.1 w.2.2.1.2.2.2.2.2.2.1 w.2.2.1.2.2.2.2.2.2.2.1 w.2.2.2.1 w.2.2.2.2.1,())
abbrev Ag1:Tm:=⟨[(2,.k (.hp 2 0 0)),(3,.k (.hp 3 0 0)),(4,.k (.hp 4 0 0))],[(2,.var 81 true false [.d .bool,.d hIs,.d hIs,.d hRs,.d hRs,.d .bool,.d hIs,.d hIs]),(3,.var 81 true false [.d .bool,.d hIs,.d hIs,.d hRs,.d hRs,.d .bool,.d hIs,.d hIs]),(4,.var 81 true false [.d .bool,.d .nil,.d .nil,.d .nil,.d .nil,.d .bool,.d .nil,.d .nil])],[],[]⟩
abbrev Ag0:Tm:=⟨[(2,.k (.hp 2 0 0)),(3,.k (.hp 3 0 0)),(4,.k (.hp 4 0 0)),(5,.k (.hp 5 0 0)),(6,.d hI),(7,.k (.hp 7 0 0)),(20,.d hRs),(21,.d hI),(22,.d hI)],[(2,.var 81 true false [.d .bool,.d hIs,.d hIs,.d hRs,.d hRs,.d .bool,.d hIs,.d hIs]),(3,.var 81 true false [.d .bool,.d hIs,.d hIs,.d hRs,.d hRs,.d .bool,.d hIs,.d hIs]),(4,.var 81 true false [.d .bool,.d .nil,.d .nil,.d .nil,.d .nil,.d .bool,.d .nil,.d .nil]),(5,.var 81 true false [.d .bool,.d hIs,.d hIs,.d .nil,.d .nil,.d .bool,.d hIs,.d hIs]),(7,.var 31 true false [.d .bool,.d hIs,.d hIs])],[],[]⟩
abbrev A52:Tm:=⟨[(2,.k (.hp 2 0 0)),(3,.k (.hp 3 0 0)),(4,.k (.hp 4 0 0)),(5,.k (.hp 5 0 0)),(6,.d hI),(7,.k (.hp 7 0 0)),(20,.d hRs),(21,.d hI),(22,.d hI)],[(2,.var 81 true false [.d .bool,.d hIs,.d hIs,.d hRs,.d hRs,.d .bool,.d hIs,.d hIs]),(3,.var 81 true false [.d .bool,.d hIs,.d hIs,.d hRs,.d hRs,.d .bool,.d hIs,.d hIs]),(4,.var 81 true false [.d .bool,.d .nil,.d .nil,.d .nil,.d .nil,.d .bool,.d .nil,.d .nil]),(5,.var 81 false false [.d .bool,.d hIs,.d hIs,.k (.hw 37),.k (.hw 56),.d .bool,.d hIs,.d hIs]),(7,.var 31 true false [.d .bool,.d hIs,.d hIs]),(37,.arr 31 hR false),(56,.arr 31 hR false)],[],[]⟩
abbrev Afz:Tm:=⟨[(2,.k (.hp 2 0 0)),(3,.k (.hp 3 0 0)),(4,.k (.hp 4 0 0)),(5,.k (.hp 5 0 0)),(6,.d hI),(20,.d hRs),(21,.d hI),(22,.d hI)],[(2,.var 81 true false [.d .bool,.d hIs,.d hIs,.d hRs,.d hRs,.d .bool,.d hIs,.d hIs]),(3,.var 81 true false [.d .bool,.d hIs,.d hIs,.d hRs,.d hRs,.d .bool,.d hIs,.d hIs]),(4,.var 81 true false [.d .bool,.d .nil,.d .nil,.d .nil,.d .nil,.d .bool,.d .nil,.d .nil]),(5,.var 81 false false [.d .bool,.d hIs,.d hIs,.k (.hw 37),.d .nil,.d .bool,.d hIs,.d hIs]),(37,.arr 31 hR false)],[7,36],[]⟩
abbrev A51:Tm:=⟨[(2,.k (.hp 2 0 0)),(3,.k (.hp 3 0 0)),(4,.k (.hp 4 0 0)),(5,.k (.hp 5 0 0)),(6,.d hI),(20,.d hRs),(21,.d hI),(22,.d hI)],[(2,.var 81 true false [.d .bool,.d hIs,.d hIs,.d hRs,.d hRs,.d .bool,.d hIs,.d hIs]),(3,.var 81 true false [.d .bool,.d hIs,.d hIs,.d hRs,.d hRs,.d .bool,.d hIs,.d hIs]),(4,.var 81 true false [.d .bool,.d .nil,.d .nil,.d .nil,.d .nil,.d .bool,.d .nil,.d .nil]),(5,.var 81 false false [.d .bool,.d hIs,.d hIs,.k (.hw 37),.k (.hw 56),.d .bool,.d hIs,.d hIs]),(37,.arr 31 hR false),(56,.arr 31 hR false)],[7,36],[]⟩
def Ll (n:Nat) (a0 a1:Rq × LR × LR × Rq):Option (Rq × LR × LR × Rq) :=
 ob (f161 n a0.1 a1.1) fun a =>
 ob (f161 n a0.2.2.2 a1.2.2.2) fun b =>
 bif (decide (0 < (a0.2.1.length:Int))) then
  gd (decide (0 < (a0.2.1.length:Int))) (
   let c:=a0.2.1.getD 0 (false,[],[])
   gd (decide (0 < (a1.2.1.length:Int))) (
    let d:=a1.2.1.getD 0 (false,[],[])
    ob (f161 n c d) fun e =>
    gd ((!a0.2.2.1.isEmpty)) (
     gd (decide (0 < (a0.2.2.1.length:Int))) (
      let f:=a0.2.2.1.getD 0 (false,[],[])
      gd (decide (0 < (a1.2.2.1.length:Int))) (
       let g:=a1.2.2.1.getD 0 (false,[],[])
       ob (f161 n f g) fun h =>
       Az5 n n a0.2.1 (a0.2.1.length:Int) 1 a0.1.1 a0.1.2.1 a0.1.2.2 a0.2.1 a0.2.2.1 a0.2.2.2.1 a0.2.2.2.2.1 a0.2.2.2.2.2 a1.1.1 a1.1.2.1 a1.1.2.2 a1.2.1 a1.2.2.1 a1.2.2.2.1 a1.2.2.2.2.1 a1.2.2.2.2.2 false false a.1 a.2.1 a.2.2 b.1 b.2.1 b.2.2 [e] [h]
        (fun r s i j k l m o p q=>(
         some ((i,j,k),p,q,l,m,o))))))))
 else
  some (a,[],[],b)
def A7v (n:Nat):Ent:=⟨192,[(.st (.pair hR (.pair hRs (.pair hRs hR)))),(.st (.pair hR (.pair hRs (.pair hRs hR))))],[(.st (.pair hR (.pair hRs (.pair hRs hR))))],fun x=>Ll n x.1 x.2⟩
def A7w (α:Type) (n:Nat):D3 α:={ reg:=[(1,⟨0,[],[(4,{ ent:=some (Aj n) }),(9,{ ent:=some (Aj n) })]⟩),(5,⟨0,[],[(8,{ ent:=some (Aj n) }),(9,{ sh:=some hR }),(10,{ sh:=some hR })]⟩),(7,⟨0,[],[(12,{ ent:=some (Aj n) }),(13,{ sh:=some hR }),(14,{ sh:=some hR })]⟩)],join:=[],loop:=[(3,⟨Ob,W7,A5 (W6 n) n⟩)],any:=[(1,Ag1),(5,Ag0),(5,A52),(7,Afz),(7,A51)] }
set_option maxHeartbeats 8000000 in
theorem Az6 (n:Nat):Ar TT ⟨60,[]⟩ [(4,{ ent:=some (Aj n) }),(9,{ ent:=some (Aj n) })] Ag1 (Aa ((A1 Tryz.f192).at [1,0])):=by
 refine ⟨by kernel_rfl,fun w q hq=>?_⟩
 have e:WT [(4,{ ent:=some (Aj n) }),(9,{ ent:=some (Aj n) })] (A8 (Aa ((A1 Tryz.f192).at [1,0])).toList) q = (∃ (y0:HL (Aj n).rs) (q0:List (Nat × RV)),q = (4,.sv (Al (Aj n).rs y0)) :: q0 /\ ∃ (y1:HL (Aj n).rs) (q1:List (Nat × RV)),q0 = (9,.sv (Al (Aj n).rs y1)) :: q1 /\ q1 = []):=by kernel_rfl
 rw [e] at hq;obtain ⟨y0,q0,rfl,y1,q1,rfl,rfl⟩:=hq
 all_goals exact .inr ⟨12,by kernel_rfl,by kernel_rfl,by kernel_rfl⟩
set_option maxHeartbeats 8000000 in
theorem Ag3 (n:Nat):Ar TT ⟨60,[]⟩ [(8,{ ent:=some (Aj n) }),(9,{ sh:=some hR }),(10,{ sh:=some hR })] Ag0 (Aa ((A1 Tryz.f192).at [1,1,0,1,0,0,1,1,0,0,1,0])):=by
 refine ⟨by kernel_rfl,fun w q hq=>?_⟩
 have e:WT [(8,{ ent:=some (Aj n) }),(9,{ sh:=some hR }),(10,{ sh:=some hR })] (A8 (Aa ((A1 Tryz.f192).at [1,1,0,1,0,0,1,1,0,0,1,0])).toList) q = (∃ (y0:HL (Aj n).rs) (q0:List (Nat × RV)),q = (8,.sv (Al (Aj n).rs y0)) :: q0 /\ q0 = []):=by kernel_rfl
 rw [e] at hq;obtain ⟨y0,q0,rfl,rfl⟩:=hq
 all_goals exact .inr ⟨10,by kernel_rfl,by kernel_rfl,by kernel_rfl⟩
set_option maxHeartbeats 8000000 in
theorem A54 (n:Nat):Ar TT ⟨60,[]⟩ [(8,{ ent:=some (Aj n) }),(9,{ sh:=some hR }),(10,{ sh:=some hR })] A52 (Aa ((A1 Tryz.f192).at [1,1,0,1,0,0,1,1,0,0,1,0])):=by
 refine ⟨by kernel_rfl,fun w q hq=>?_⟩
 have e:WT [(8,{ ent:=some (Aj n) }),(9,{ sh:=some hR }),(10,{ sh:=some hR })] (A8 (Aa ((A1 Tryz.f192).at [1,1,0,1,0,0,1,1,0,0,1,0])).toList) q = (∃ (y0:HL (Aj n).rs) (q0:List (Nat × RV)),q = (8,.sv (Al (Aj n).rs y0)) :: q0 /\ q0 = []):=by kernel_rfl
 rw [e] at hq;obtain ⟨y0,q0,rfl,rfl⟩:=hq
 all_goals exact .inr ⟨10,by kernel_rfl,by kernel_rfl,by kernel_rfl⟩
set_option maxHeartbeats 8000000 in
theorem Ag2 (n:Nat):Ar TT ⟨60,[]⟩ [(12,{ ent:=some (Aj n) }),(13,{ sh:=some hR }),(14,{ sh:=some hR })] Afz (Aa ((A1 Tryz.f192).at [1,1,0,1,0,0,1,1,0,0,1,1,1,0])):=by
 refine ⟨by kernel_rfl,fun w q hq=>?_⟩
 have e:WT [(12,{ ent:=some (Aj n) }),(13,{ sh:=some hR }),(14,{ sh:=some hR })] (A8 (Aa ((A1 Tryz.f192).at [1,1,0,1,0,0,1,1,0,0,1,1,1,0])).toList) q = (∃ (y0:HL (Aj n).rs) (q0:List (Nat × RV)),q = (12,.sv (Al (Aj n).rs y0)) :: q0 /\ q0 = []):=by kernel_rfl
 rw [e] at hq;obtain ⟨y0,q0,rfl,rfl⟩:=hq
 all_goals exact .inr ⟨14,by kernel_rfl,by kernel_rfl,by kernel_rfl⟩
set_option maxHeartbeats 8000000 in
theorem A53 (n:Nat):Ar TT ⟨60,[]⟩ [(12,{ ent:=some (Aj n) }),(13,{ sh:=some hR }),(14,{ sh:=some hR })] A51 (Aa ((A1 Tryz.f192).at [1,1,0,1,0,0,1,1,0,0,1,1,1,0])):=by
 refine ⟨by kernel_rfl,fun w q hq=>?_⟩
 have e:WT [(12,{ ent:=some (Aj n) }),(13,{ sh:=some hR }),(14,{ sh:=some hR })] (A8 (Aa ((A1 Tryz.f192).at [1,1,0,1,0,0,1,1,0,0,1,1,1,0])).toList) q = (∃ (y0:HL (Aj n).rs) (q0:List (Nat × RV)),q = (12,.sv (Al (Aj n).rs y0)) :: q0 /\ q0 = []):=by kernel_rfl
 rw [e] at hq;obtain ⟨y0,q0,rfl,rfl⟩:=hq
 all_goals exact .inr ⟨14,by kernel_rfl,by kernel_rfl,by kernel_rfl⟩
theorem A50 (α:Type) (n:Nat):Ao PP (Ai (A7w α n).reg):=⟨Fd n,Fd n,Fd n,Fd n,trivial⟩
theorem Aod (α:Type) (n:Nat):D3.OK PP TT ⟨60,[]⟩ (A7w α n) ((A1 Tryz.f192).at [1,1,0,1,0,0]) :=
 D3.OK.mk3a (A50 α n) (show Ab ((A1 Tryz.f192).at [1,1,0,1,0,0]) = [] by kernel_rfl) trivial (show Av ((A1 Tryz.f192).at [1,1,0,1,0,0]) = [(5,Aa ((A1 Tryz.f192).at [1,1,0,1,0,0,1,1,0,0,1,0])),(7,Aa ((A1 Tryz.f192).at [1,1,0,1,0,0,1,1,0,0,1,1,1,0]))] by kernel_rfl) ⟨⟨Ag3 n,A54 n,trivial⟩,⟨Ag2 n,A53 n,trivial⟩,trivial⟩
theorem Aip (α:Type) (n:Nat):LO.Sound (α:=α) PP ⟨60,[]⟩ ⟨Ob,W7,A5 (W6 n) n⟩ (.loop ((A1 Tryz.f192).at [1,1,0,1,0,0])):=lk (Aod α n) n
theorem B3g (α:Type) (n:Nat):D3.OK PP TT ⟨60,[]⟩ (A7w α n) (A1 Tryz.f192) :=
 D3.OK.mk3a (A50 α n) (show Ab (A1 Tryz.f192) = [(3,(.loop ((A1 Tryz.f192).at [1,1,0,1,0,0])))] by kernel_rfl) ⟨Ad rfl (Aip α n),trivial⟩ (show Av (A1 Tryz.f192) = [(1,Aa ((A1 Tryz.f192).at [1,0])),(5,Aa ((A1 Tryz.f192).at [1,1,0,1,0,0,1,1,0,0,1,0])),(7,Aa ((A1 Tryz.f192).at [1,1,0,1,0,0,1,1,0,0,1,1,1,0]))] by kernel_rfl) ⟨⟨Az6 n,trivial⟩,⟨Ag3 n,A54 n,trivial⟩,⟨Ag2 n,A53 n,trivial⟩,trivial⟩
theorem Afy (n:Nat):(A7v n).Sound PP:=fk (fn:=Tryz.f192) (B3g _ n)

def f178 (n:Nat) (a0 a1:Rq):Option Rq :=
 ob (f200 n a0.2.1 a1.2.1) fun a =>
 ob (f200 n a0.2.2 a1.2.2) fun b =>
 ob (f201 n (!(a0.1 == a1.1)) a b) fun c =>
 some c
def Af (n:Nat):Ent:=⟨178,[hR,hR],[hR],fun x=>f178 n x.1 x.2⟩
def B86 (α:Type) (n:Nat):D3 α:={ reg:=[(1,⟨15,[],[(9,{ ent:=some (H2 n) }),(14,{ ent:=some (H2 n) }),(15,{ ent:=some (Pt n) })]⟩)],join:=[],loop:=[] }
theorem Bf (n:Nat):(Af n).Sound PP:=At (fn:=Tryz.f178) (D:=B86 _ n) ⟨Gb n,Gb n,Ps n,trivial⟩

def f221 (n:Nat) (a0 a1:Rq):Option Rq :=
 ob (f178 n a0 a1) fun a =>
 some a
def H0 (n:Nat):Ent:=⟨221,[hR,(.ref hR)],[hR],fun x=>f221 n x.1 x.2⟩
def B7d (α:Type) (n:Nat):D3 α:={ reg:=[(1,⟨0,[],[(2,{ ent:=some (Af n) })]⟩)],join:=[],loop:=[] }
theorem B2s (n:Nat):(H0 n).Sound PP:=At (fn:=Tryz.f221) (D:=B7d _ n) ⟨Bf n,trivial⟩

def f222 (n:Nat) (a0:Int) (a1:Bool × LI × LI × LR × LR × Bool × LI × LI) (a2:Rq):Option Rq :=
 gd (decide (0 <= a0) && decide (a0 < (a1.2.2.2.2.1.length:Int))) (
  let a:=a1.2.2.2.2.1.getD a0.toNat (false,[],[])
  ob (f178 n a a2) fun b =>
  some b)
def Gz (n:Nat):Ent:=⟨222,[hI,(.ref (.st (.pair .bool (.pair hIs (.pair hIs (.pair hRs (.pair hRs (.pair .bool (.pair hIs hIs))))))))),(.ref hR)],[hR],fun x=>f222 n x.1 x.2.1 x.2.2⟩
def B7c (α:Type) (n:Nat):D3 α:={ reg:=[(1,⟨6,[],[(6,{ ent:=some (Af n) })]⟩)],join:=[],loop:=[] }
theorem B2r (n:Nat):(Gz n).Sound PP:=At (fn:=Tryz.f222) (D:=B7c _ n) ⟨Bf n,trivial⟩

def Z6 {α:Type} (n:Nat) (g:Rq) (b:(Bool × LI × LI × LR × LR × Bool × LI × LI) × Rq) (c:LR) (h a:Int) (s:Bool) (t u:LI) (v i:LR) (w:Bool) (x y:LI) (j k l:Bool) (m o:LI) (p:Bool) (q r:LI) (d e:LR) (f:Rq->((Bool × LI × LI × LR × LR × Bool × LI × LI) × Rq)->LR->Int->Int->Bool->LI->LI->LR->LR->Bool->LI->LI->Bool->Bool->Bool->LI->LI->Bool->LI->LI->LR->LR->Option α) (k0:Bool->Bool->Bool->LI->LI->Bool->LI->LI->LR->LR->Option α):Option α :=
 bif (decide (a < h)) then
  gd (decide (0 <= a) && decide (a < (c.length:Int))) (
   let z:=c.getD a.toNat (false,[],[])
   ob (f221 n z g) fun d0 =>
   gd (decide ((d.length + 1) * 56 <= 140737488355328)) (
    gd ((!i.isEmpty)) (
     ob (f222 n a b.1 b.2) fun d1 =>
     gd (decide ((e.length + 1) * 56 <= 140737488355328)) (
      f g b c h (W (a + 1)) s t u v i w x y j k l m o p q r (d ++ [d0]) (e ++ [d1])))))
 else
  k0 j k l m o p q r d e
abbrev Eg:Tm:=⟨[(3,.d (.clo 221 (.ref hR))),(4,.d (.clo 222 (.pair (.ref (.st (.pair .bool (.pair hIs (.pair hIs (.pair hRs (.pair hRs (.pair .bool (.pair hIs hIs))))))))) (.ref hR)))),(5,.k (.hp 5 0 0)),(10,.k (.hp 10 0 0)),(11,.k (.hp 11 0 0)),(18,.d hRs),(19,.d hI),(20,.d hI)],[(5,.var 81 true false [.d .bool,.d hIs,.d hIs,.d hRs,.d hRs,.d .bool,.d hIs,.d hIs]),(10,.var 81 true false [.d .bool,.d .nil,.d .nil,.d .nil,.d .nil,.d .bool,.d .nil,.d .nil]),(11,.var 81 false false [.d .bool,.d hIs,.d hIs,.k (.hw 31),.k (.hw 42),.d .bool,.d hIs,.d hIs]),(31,.arr 31 hR false),(42,.arr 31 hR false)],[41],[]⟩
abbrev Vq:Tm:=⟨[(10,.k (.hp 10 0 0)),(11,.k (.hp 11 0 0))],[(10,.var 81 true false [.d .bool,.d .nil,.d .nil,.d .nil,.d .nil,.d .bool,.d .nil,.d .nil]),(11,.var 81 false false [.d .bool,.d hIs,.d hIs,.k (.hw 31),.k (.hw 42),.d .bool,.d hIs,.d hIs]),(31,.arr 31 hR false),(42,.arr 31 hR false)],[5],[]⟩
abbrev Gl:List (Exit × Tm):=[(.exit 0,Vq)]
def Gk {α:Type} (n:Nat) (v:Eg.den) (f:Eg.den->Option α) (ks:KS α Gl):Option α:=Z6 n v.1.1 v.1.2.1 v.1.2.2.2.2.2.1 v.1.2.2.2.2.2.2.1 v.1.2.2.2.2.2.2.2.1 v.2.1.1 v.2.1.2.1 v.2.1.2.2.1 v.2.1.2.2.2.1 v.2.1.2.2.2.2.1 v.2.1.2.2.2.2.2.1 v.2.1.2.2.2.2.2.2.1 v.2.1.2.2.2.2.2.2.2.1 v.2.2.1.1 v.2.2.1.2.2.2.2.2.1 v.2.2.2.1.1 v.2.2.2.1.2.1 v.2.2.2.1.2.2.1 v.2.2.2.1.2.2.2.2.2.1 v.2.2.2.1.2.2.2.2.2.2.1 v.2.2.2.1.2.2.2.2.2.2.2.1 v.2.2.2.2.1 v.2.2.2.2.2.1 (fun a b c d e g h i j k l m o p q r s t u w x y z=>f ((a,b,(),(),(),c,d,e,()),((g,h,i,j,k,l,m,o,()),(p,(),(),(),(),q,(),(),()),(r,s,t,(),(),u,w,x,()),y,z,()))) (fun w0 w1 w2 w3 w4 w5 w6 w7 w8 w9=>ks.1 (((),(),()),((w0,(),(),(),(),w1,(),(),()),(w2,w3,w4,(),(),w5,w6,w7,()),w8,w9,())))
def A12 {α:Type} (n m:Nat) (a:Rq) (b:(Bool × LI × LI × LR × LR × Bool × LI × LI) × Rq) (c:LR) (d e:Int) (f:Bool) (g h:LI) (i j:LR) (k:Bool) (l o:LI) (p q r:Bool) (s t:LI) (u:Bool) (v x:LI) (y z:LR) (k0:Bool->Bool->Bool->LI->LI->Bool->LI->LI->LR->LR->Option α):Option α:=A5 (Gk n) m ((a,b,(),(),(),c,d,e,()),((f,g,h,i,j,k,l,o,()),(p,(),(),(),(),q,(),(),()),(r,s,t,(),(),u,v,x,()),y,z,())) (fun w=>k0 w.2.1.1 w.2.1.2.2.2.2.2.1 w.2.2.1.1 w.2.2.1.2.1 w.2.2.1.2.2.1 w.2.2.1.2.2.2.2.2.1 w.2.2.1.2.2.2.2.2.2.1 w.2.2.1.2.2.2.2.2.2.2.1 w.2.2.2.1 w.2.2.2.2.1,())
abbrev N2:Tm:=⟨[(3,.d (.clo 221 (.ref hR))),(4,.d (.clo 222 (.pair (.ref (.st (.pair .bool (.pair hIs (.pair hIs (.pair hRs (.pair hRs (.pair .bool (.pair hIs hIs))))))))) (.ref hR)))),(5,.k (.hp 5 0 0)),(10,.k (.hp 10 0 0)),(11,.k (.hp 11 0 0)),(12,.d hI),(13,.k (.hp 13 0 0)),(18,.d hRs),(19,.d hI),(20,.d hI)],[(5,.var 81 true false [.d .bool,.d hIs,.d hIs,.d hRs,.d hRs,.d .bool,.d hIs,.d hIs]),(10,.var 81 true false [.d .bool,.d .nil,.d .nil,.d .nil,.d .nil,.d .bool,.d .nil,.d .nil]),(11,.var 81 true false [.d .bool,.d hIs,.d hIs,.d .nil,.d .nil,.d .bool,.d hIs,.d hIs]),(13,.var 31 true false [.d .bool,.d hIs,.d hIs])],[6,7],[]⟩
abbrev Kl:Tm:=⟨[(3,.d (.clo 221 (.ref hR))),(4,.d (.clo 222 (.pair (.ref (.st (.pair .bool (.pair hIs (.pair hIs (.pair hRs (.pair hRs (.pair .bool (.pair hIs hIs))))))))) (.ref hR)))),(5,.k (.hp 5 0 0)),(10,.k (.hp 10 0 0)),(11,.k (.hp 11 0 0)),(12,.d hI),(13,.k (.hp 13 0 0)),(18,.d hRs),(19,.d hI),(20,.d hI)],[(5,.var 81 true false [.d .bool,.d hIs,.d hIs,.d hRs,.d hRs,.d .bool,.d hIs,.d hIs]),(10,.var 81 true false [.d .bool,.d .nil,.d .nil,.d .nil,.d .nil,.d .bool,.d .nil,.d .nil]),(11,.var 81 false false [.d .bool,.d hIs,.d hIs,.k (.hw 31),.k (.hw 42),.d .bool,.d hIs,.d hIs]),(13,.var 31 true false [.d .bool,.d hIs,.d hIs]),(31,.arr 31 hR false),(42,.arr 31 hR false)],[],[]⟩
abbrev N1:Tm:=⟨[(3,.d (.clo 221 (.ref hR))),(4,.d (.clo 222 (.pair (.ref (.st (.pair .bool (.pair hIs (.pair hIs (.pair hRs (.pair hRs (.pair .bool (.pair hIs hIs))))))))) (.ref hR)))),(5,.k (.hp 5 0 0)),(10,.k (.hp 10 0 0)),(11,.k (.hp 11 0 0)),(12,.d hI),(18,.d hRs),(19,.d hI),(20,.d hI)],[(5,.var 81 true false [.d .bool,.d hIs,.d hIs,.d hRs,.d hRs,.d .bool,.d hIs,.d hIs]),(10,.var 81 true false [.d .bool,.d .nil,.d .nil,.d .nil,.d .nil,.d .bool,.d .nil,.d .nil]),(11,.var 81 false false [.d .bool,.d hIs,.d hIs,.k (.hw 31),.d .nil,.d .bool,.d hIs,.d hIs]),(31,.arr 31 hR false)],[13,30],[]⟩
abbrev Kk:Tm:=⟨[(3,.d (.clo 221 (.ref hR))),(4,.d (.clo 222 (.pair (.ref (.st (.pair .bool (.pair hIs (.pair hIs (.pair hRs (.pair hRs (.pair .bool (.pair hIs hIs))))))))) (.ref hR)))),(5,.k (.hp 5 0 0)),(10,.k (.hp 10 0 0)),(11,.k (.hp 11 0 0)),(12,.d hI),(18,.d hRs),(19,.d hI),(20,.d hI)],[(5,.var 81 true false [.d .bool,.d hIs,.d hIs,.d hRs,.d hRs,.d .bool,.d hIs,.d hIs]),(10,.var 81 true false [.d .bool,.d .nil,.d .nil,.d .nil,.d .nil,.d .bool,.d .nil,.d .nil]),(11,.var 81 false false [.d .bool,.d hIs,.d hIs,.k (.hw 31),.k (.hw 42),.d .bool,.d hIs,.d hIs]),(31,.arr 31 hR false),(42,.arr 31 hR false)],[13,30],[]⟩
def U5 (n:Nat) (a0:Rq × LR × LR × Rq) (a1 a2 a3:Rq) (a4:(Bool × LI × LI × LR × LR × Bool × LI × LI) × Rq):Option (Rq × LR × LR × Rq) :=
 bif (decide (0 < (a0.2.1.length:Int))) then
  gd (decide (0 < (a0.2.1.length:Int))) (
   let a:=a0.2.1.getD 0 (false,[],[])
   ob (f221 n a a3) fun b =>
   gd ((!a0.2.2.1.isEmpty)) (
    ob (f222 n 0 a4.1 a4.2) fun c =>
    A12 n n a3 a4 a0.2.1 (a0.2.1.length:Int) 1 a0.1.1 a0.1.2.1 a0.1.2.2 a0.2.1 a0.2.2.1 a0.2.2.2.1 a0.2.2.2.2.1 a0.2.2.2.2.2 false false a1.1 a1.2.1 a1.2.2 a2.1 a2.2.1 a2.2.2 [b] [c]
     (fun l m d e f g h i j k=>(
      some ((d,e,f),j,k,g,h,i)))))
 else
  some (a1,[],[],a2)
def Cx (n:Nat):Ent:=⟨220,[(.st (.pair hR (.pair hRs (.pair hRs hR)))),hR,hR,(.clo 221 (.ref hR)),(.clo 222 (.pair (.ref (.st (.pair .bool (.pair hIs (.pair hIs (.pair hRs (.pair hRs (.pair .bool (.pair hIs hIs))))))))) (.ref hR)))],[(.st (.pair hR (.pair hRs (.pair hRs hR))))],fun x=>U5 n x.1 x.2.1 x.2.2.1 x.2.2.2.1 x.2.2.2.2⟩
def Ih (α:Type) (n:Nat):D3 α:={ reg:=[(5,⟨0,[],[(4,{ ent:=some (H0 n) }),(5,{ sh:=some hR }),(6,{ sh:=some hR })]⟩),(7,⟨0,[],[(4,{ ent:=some (Gz n) }),(5,{ sh:=some hR }),(6,{ sh:=some hR })]⟩)],join:=[],loop:=[(3,⟨Eg,Gl,A5 (Gk n) n⟩)],any:=[(5,N2),(5,Kl),(7,N1),(7,Kk)] }
set_option maxHeartbeats 8000000 in
theorem N4 (n:Nat):Ar TT ⟨46,[]⟩ [(4,{ ent:=some (H0 n) }),(5,{ sh:=some hR }),(6,{ sh:=some hR })] N2 (Aa ((A1 Tryz.f220).at [1,1,0,1,0,0,1,1,0,0,1,0])):=by
 refine ⟨by kernel_rfl,fun w q hq=>?_⟩
 have e:WT [(4,{ ent:=some (H0 n) }),(5,{ sh:=some hR }),(6,{ sh:=some hR })] (A8 (Aa ((A1 Tryz.f220).at [1,1,0,1,0,0,1,1,0,0,1,0])).toList) q = (∃ (y0:HL (H0 n).rs) (q0:List (Nat × RV)),q = (4,.sv (Al (H0 n).rs y0)) :: q0 /\ q0 = []):=by kernel_rfl
 rw [e] at hq;obtain ⟨y0,q0,rfl,rfl⟩:=hq
 all_goals exact .inr ⟨6,by kernel_rfl,by kernel_rfl,by kernel_rfl⟩
set_option maxHeartbeats 8000000 in
theorem Kn (n:Nat):Ar TT ⟨46,[]⟩ [(4,{ ent:=some (H0 n) }),(5,{ sh:=some hR }),(6,{ sh:=some hR })] Kl (Aa ((A1 Tryz.f220).at [1,1,0,1,0,0,1,1,0,0,1,0])):=by
 refine ⟨by kernel_rfl,fun w q hq=>?_⟩
 have e:WT [(4,{ ent:=some (H0 n) }),(5,{ sh:=some hR }),(6,{ sh:=some hR })] (A8 (Aa ((A1 Tryz.f220).at [1,1,0,1,0,0,1,1,0,0,1,0])).toList) q = (∃ (y0:HL (H0 n).rs) (q0:List (Nat × RV)),q = (4,.sv (Al (H0 n).rs y0)) :: q0 /\ q0 = []):=by kernel_rfl
 rw [e] at hq;obtain ⟨y0,q0,rfl,rfl⟩:=hq
 all_goals exact .inr ⟨6,by kernel_rfl,by kernel_rfl,by kernel_rfl⟩
set_option maxHeartbeats 8000000 in
theorem N3 (n:Nat):Ar TT ⟨46,[]⟩ [(4,{ ent:=some (Gz n) }),(5,{ sh:=some hR }),(6,{ sh:=some hR })] N1 (Aa ((A1 Tryz.f220).at [1,1,0,1,0,0,1,1,0,0,1,1,1,0])):=by
 refine ⟨by kernel_rfl,fun w q hq=>?_⟩
 have e:WT [(4,{ ent:=some (Gz n) }),(5,{ sh:=some hR }),(6,{ sh:=some hR })] (A8 (Aa ((A1 Tryz.f220).at [1,1,0,1,0,0,1,1,0,0,1,1,1,0])).toList) q = (∃ (y0:HL (Gz n).rs) (q0:List (Nat × RV)),q = (4,.sv (Al (Gz n).rs y0)) :: q0 /\ q0 = []):=by kernel_rfl
 rw [e] at hq;obtain ⟨y0,q0,rfl,rfl⟩:=hq
 all_goals exact .inr ⟨6,by kernel_rfl,by kernel_rfl,by kernel_rfl⟩
set_option maxHeartbeats 8000000 in
theorem Km (n:Nat):Ar TT ⟨46,[]⟩ [(4,{ ent:=some (Gz n) }),(5,{ sh:=some hR }),(6,{ sh:=some hR })] Kk (Aa ((A1 Tryz.f220).at [1,1,0,1,0,0,1,1,0,0,1,1,1,0])):=by
 refine ⟨by kernel_rfl,fun w q hq=>?_⟩
 have e:WT [(4,{ ent:=some (Gz n) }),(5,{ sh:=some hR }),(6,{ sh:=some hR })] (A8 (Aa ((A1 Tryz.f220).at [1,1,0,1,0,0,1,1,0,0,1,1,1,0])).toList) q = (∃ (y0:HL (Gz n).rs) (q0:List (Nat × RV)),q = (4,.sv (Al (Gz n).rs y0)) :: q0 /\ q0 = []):=by kernel_rfl
 rw [e] at hq;obtain ⟨y0,q0,rfl,rfl⟩:=hq
 all_goals exact .inr ⟨6,by kernel_rfl,by kernel_rfl,by kernel_rfl⟩
theorem Kj (α:Type) (n:Nat):Ao PP (Ai (Ih α n).reg):=⟨B2s n,B2r n,trivial⟩
theorem Vp (α:Type) (n:Nat):D3.OK PP TT ⟨46,[]⟩ (Ih α n) ((A1 Tryz.f220).at [1,1,0,1,0,0]) :=
 D3.OK.mk3a (Kj α n) (show Ab ((A1 Tryz.f220).at [1,1,0,1,0,0]) = [] by kernel_rfl) trivial (show Av ((A1 Tryz.f220).at [1,1,0,1,0,0]) = [(5,Aa ((A1 Tryz.f220).at [1,1,0,1,0,0,1,1,0,0,1,0])),(7,Aa ((A1 Tryz.f220).at [1,1,0,1,0,0,1,1,0,0,1,1,1,0]))] by kernel_rfl) ⟨⟨N4 n,Kn n,trivial⟩,⟨N3 n,Km n,trivial⟩,trivial⟩
theorem Uc (α:Type) (n:Nat):LO.Sound (α:=α) PP ⟨46,[]⟩ ⟨Eg,Gl,A5 (Gk n) n⟩ (.loop ((A1 Tryz.f220).at [1,1,0,1,0,0])):=lk (Vp α n) n
theorem A4o (α:Type) (n:Nat):D3.OK PP TT ⟨46,[]⟩ (Ih α n) (A1 Tryz.f220) :=
 D3.OK.mk3a (Kj α n) (show Ab (A1 Tryz.f220) = [(3,(.loop ((A1 Tryz.f220).at [1,1,0,1,0,0])))] by kernel_rfl) ⟨Ad rfl (Uc α n),trivial⟩ (show Av (A1 Tryz.f220) = [(5,Aa ((A1 Tryz.f220).at [1,1,0,1,0,0,1,1,0,0,1,0])),(7,Aa ((A1 Tryz.f220).at [1,1,0,1,0,0,1,1,0,0,1,1,1,0]))] by kernel_rfl) ⟨⟨N4 n,Kn n,trivial⟩,⟨N3 n,Km n,trivial⟩,trivial⟩
theorem A11 (n:Nat):(Cx n).Sound PP:=fk (fn:=Tryz.f220) (A4o _ n)

abbrev Afx:Tm:=⟨[(2,.k (.hp 2 0 0)),(3,.k (.hp 3 0 0)),(4,.k (.hp 4 0 0))],[(2,.var 81 true false [.d .bool,.d hIs,.d hIs,.d hRs,.d hRs,.d .bool,.d hIs,.d hIs]),(3,.var 31 true false [.d .bool,.d hIs,.d hIs]),(4,.var 81 true false [.d .bool,.d .nil,.d .nil,.d .nil,.d .nil,.d .bool,.d .nil,.d .nil])],[],[]⟩
def Lk (n:Nat) (a0:Rq × LR × LR × Rq) (a1:Rq):Option (Rq × LR × LR × Rq) :=
 ob (f178 n a0.1 a1) fun a =>
 ob (f178 n a0.2.2.2 a1) fun b =>
 ob (U5 n a0 a b a1 ((a0.1.1,a0.1.2.1,a0.1.2.2,a0.2),a1)) fun c =>
 some c
def A7u (n:Nat):Ent:=⟨193,[(.st (.pair hR (.pair hRs (.pair hRs hR)))),hR],[(.st (.pair hR (.pair hRs (.pair hRs hR))))],fun x=>Lk n x.1 x.2⟩
def Ako (α:Type) (n:Nat):D3 α:={ reg:=[(1,⟨0,[],[(4,{ ent:=some (Af n) }),(8,{ ent:=some (Af n) }),(9,{ sh:=some (.ref hR) }),(10,{ sh:=some (.pair (.ref (.st (.pair .bool (.pair hIs (.pair hIs (.pair hRs (.pair hRs (.pair .bool (.pair hIs hIs))))))))) (.ref hR)) }),(11,{ ent:=some (Cx n) })]⟩)],join:=[],loop:=[],any:=[(1,Afx)] }
set_option maxHeartbeats 8000000 in
theorem Az4 (n:Nat):Ar TT ⟨17,[]⟩ [(4,{ ent:=some (Af n) }),(8,{ ent:=some (Af n) }),(9,{ sh:=some (.ref hR) }),(10,{ sh:=some (.pair (.ref (.st (.pair .bool (.pair hIs (.pair hIs (.pair hRs (.pair hRs (.pair .bool (.pair hIs hIs))))))))) (.ref hR)) }),(11,{ ent:=some (Cx n) })] Afx (Aa ((A1 Tryz.f193).at [1,0])):=by
 refine ⟨by kernel_rfl,fun w q hq=>?_⟩
 have e:WT [(4,{ ent:=some (Af n) }),(8,{ ent:=some (Af n) }),(9,{ sh:=some (.ref hR) }),(10,{ sh:=some (.pair (.ref (.st (.pair .bool (.pair hIs (.pair hIs (.pair hRs (.pair hRs (.pair .bool (.pair hIs hIs))))))))) (.ref hR)) }),(11,{ ent:=some (Cx n) })] (A8 (Aa ((A1 Tryz.f193).at [1,0])).toList) q = (∃ (y0:HL (Af n).rs) (q0:List (Nat × RV)),q = (4,.sv (Al (Af n).rs y0)) :: q0 /\ ∃ (y1:HL (Af n).rs) (q1:List (Nat × RV)),q0 = (8,.sv (Al (Af n).rs y1)) :: q1 /\ ∃ (y2:HL (Cx n).rs) (q2:List (Nat × RV)),q1 = (11,.sv (Al (Cx n).rs y2)) :: q2 /\ q2 = []):=by kernel_rfl
 rw [e] at hq;obtain ⟨y0,q0,rfl,y1,q1,rfl,y2,q2,rfl,rfl⟩:=hq
 all_goals exact .inl (Iw.mk (by kernel_rfl))
theorem Aoc (α:Type) (n:Nat):Ao PP (Ai (Ako α n).reg):=⟨Bf n,Bf n,A11 n,trivial⟩
theorem B3f (α:Type) (n:Nat):D3.OK PP TT ⟨17,[]⟩ (Ako α n) (A1 Tryz.f193) :=
 D3.OK.mk3a (Aoc α n) (show Ab (A1 Tryz.f193) = [] by kernel_rfl) trivial (show Av (A1 Tryz.f193) = [(1,Aa ((A1 Tryz.f193).at [1,0]))] by kernel_rfl) ⟨⟨Az4 n,trivial⟩,trivial⟩
theorem Afw (n:Nat):(A7u n).Sound PP:=fk (fn:=Tryz.f193) (B3f _ n)

def Atq {α:Type} (n:Nat) (c:LR) (p a:Int) (d:Bool) (e g:LI) (d6 b:LR) (q:Bool) (r s:LI) (h:Bool) (i j:LI) (k l:LR) (t:Bool) (u v:LI) (w x y:Bool) (z d0:LI) (d1:Bool) (d2 d3:LI) (m o:LR) (f:LR->Int->Int->Bool->LI->LI->LR->LR->Bool->LI->LI->Bool->LI->LI->LR->LR->Bool->LI->LI->Bool->Bool->Bool->LI->LI->Bool->LI->LI->LR->LR->Option α) (k0:Bool->Bool->Bool->LI->LI->Bool->LI->LI->LR->LR->Option α):Option α :=
 bif (decide (a < p)) then
  gd (decide (0 <= a) && decide (a < (c.length:Int))) (
   let d4:=c.getD a.toNat (false,[],[])
   gd (decide (0 <= a) && decide (a < (k.length:Int))) (
    let d5:=k.getD a.toNat (false,[],[])
    ob (f178 n d4 (h,i,j)) fun d7 =>
    ob (f178 n (d,e,g) d5) fun d8 =>
    ob (f161 n d7 d8) fun d9 =>
    gd (decide ((m.length + 1) * 56 <= 140737488355328)) (
     gd ((!b.isEmpty)) (
      gd (decide (0 <= a) && decide (a < (b.length:Int))) (
       let e0:=b.getD a.toNat (false,[],[])
       ob (f178 n e0 (h,i,j)) fun e1 =>
       ob (f178 n d4 (t,u,v)) fun e2 =>
       ob (f161 n e1 e2) fun e3 =>
       ob (f178 n (q,r,s) d5) fun e4 =>
       ob (f161 n e3 e4) fun e5 =>
       gd (decide (0 <= a) && decide (a < (l.length:Int))) (
        let e6:=l.getD a.toNat (false,[],[])
        ob (f178 n (d,e,g) e6) fun e7 =>
        ob (f161 n e5 e7) fun e8 =>
        gd (decide ((o.length + 1) * 56 <= 140737488355328)) (
         f c p (W (a + 1)) d e g d6 b q r s h i j k l t u v w x y z d0 d1 d2 d3 (m ++ [d9]) (o ++ [e8]))))))))
 else
  k0 w x y z d0 d1 d2 d3 m o
abbrev Oa:Tm:=⟨[(2,.k (.hp 2 0 0)),(3,.k (.hp 3 0 0)),(4,.k (.hp 4 0 0)),(5,.k (.hp 5 0 0)),(28,.d hRs),(29,.d hI),(30,.d hI)],[(2,.var 81 true false [.d .bool,.d hIs,.d hIs,.d hRs,.d hRs,.d .bool,.d hIs,.d hIs]),(3,.var 81 true false [.d .bool,.d hIs,.d hIs,.d hRs,.d hRs,.d .bool,.d hIs,.d hIs]),(4,.var 81 true false [.d .bool,.d .nil,.d .nil,.d .nil,.d .nil,.d .bool,.d .nil,.d .nil]),(5,.var 81 false false [.d .bool,.d hIs,.d hIs,.k (.hw 52),.k (.hw 88),.d .bool,.d hIs,.d hIs]),(52,.arr 31 hR false),(88,.arr 31 hR false)],[8,9,87],[]⟩
abbrev Aob:Tm:=⟨[(4,.k (.hp 4 0 0)),(5,.k (.hp 5 0 0))],[(4,.var 81 true false [.d .bool,.d .nil,.d .nil,.d .nil,.d .nil,.d .bool,.d .nil,.d .nil]),(5,.var 81 false false [.d .bool,.d hIs,.d hIs,.k (.hw 52),.k (.hw 88),.d .bool,.d hIs,.d hIs]),(52,.arr 31 hR false),(88,.arr 31 hR false)],[2,3],[]⟩
abbrev W5:List (Exit × Tm):=[(.exit 0,Aob)]
def W0 {α:Type} (n:Nat) (v:Oa.den) (f:Oa.den->Option α) (ks:KS α W5):Option α:=Atq n v.1.2.2.2.2.1 v.1.2.2.2.2.2.1 v.1.2.2.2.2.2.2.1 v.2.1.1 v.2.1.2.1 v.2.1.2.2.1 v.2.1.2.2.2.1 v.2.1.2.2.2.2.1 v.2.1.2.2.2.2.2.1 v.2.1.2.2.2.2.2.2.1 v.2.1.2.2.2.2.2.2.2.1 v.2.2.1.1 v.2.2.1.2.1 v.2.2.1.2.2.1 v.2.2.1.2.2.2.1 v.2.2.1.2.2.2.2.1 v.2.2.1.2.2.2.2.2.1 v.2.2.1.2.2.2.2.2.2.1 v.2.2.1.2.2.2.2.2.2.2.1 v.2.2.2.1.1 v.2.2.2.1.2.2.2.2.2.1 v.2.2.2.2.1.1 v.2.2.2.2.1.2.1 v.2.2.2.2.1.2.2.1 v.2.2.2.2.1.2.2.2.2.2.1 v.2.2.2.2.1.2.2.2.2.2.2.1 v.2.2.2.2.1.2.2.2.2.2.2.2.1 v.2.2.2.2.2.1 v.2.2.2.2.2.2.1 (fun a b c d e g h i j k l m o p q r s t u w x y z d0 d1 d2 d3 d4 d5=>f (((),(),(),(),a,b,c,()),((d,e,g,h,i,j,k,l,()),(m,o,p,q,r,s,t,u,()),(w,(),(),(),(),x,(),(),()),(y,z,d0,(),(),d1,d2,d3,()),d4,d5,()))) (fun w0 w1 w2 w3 w4 w5 w6 w7 w8 w9=>ks.1 (((),(),()),((w0,(),(),(),(),w1,(),(),()),(w2,w3,w4,(),(),w5,w6,w7,()),w8,w9,())))
def Az2 {α:Type} (n m:Nat) (a:LR) (b c:Int) (d:Bool) (e f:LI) (g h:LR) (i:Bool) (j k:LI) (l:Bool) (o p:LI) (q r:LR) (s:Bool) (t u:LI) (v x y:Bool) (z d0:LI) (d1:Bool) (d2 d3:LI) (d4 d5:LR) (k0:Bool->Bool->Bool->LI->LI->Bool->LI->LI->LR->LR->Option α):Option α:=A5 (W0 n) m (((),(),(),(),a,b,c,()),((d,e,f,g,h,i,j,k,()),(l,o,p,q,r,s,t,u,()),(v,(),(),(),(),x,(),(),()),(y,z,d0,(),(),d1,d2,d3,()),d4,d5,())) (fun w=>k0 w.2.1.1 w.2.1.2.2.2.2.2.1 w.2.2.1.1 w.2.2.1.2.1 w.2.2.1.2.2.1 w.2.2.1.2.2.2.2.2.1 w.2.2.1.2.2.2.2.2.2.1 w.2.2.1.2.2.2.2.2.2.2.1 w.2.2.2.1 w.2.2.2.2.1,())
abbrev Afs:Tm:=⟨[(2,.k (.hp 2 0 0)),(3,.k (.hp 3 0 0)),(4,.k (.hp 4 0 0))],[(2,.var 81 true false [.d .bool,.d hIs,.d hIs,.d hRs,.d hRs,.d .bool,.d hIs,.d hIs]),(3,.var 81 true false [.d .bool,.d hIs,.d hIs,.d hRs,.d hRs,.d .bool,.d hIs,.d hIs]),(4,.var 81 true false [.d .bool,.d .nil,.d .nil,.d .nil,.d .nil,.d .bool,.d .nil,.d .nil])],[],[]⟩
abbrev Afr:Tm:=⟨[(2,.k (.hp 2 0 0)),(3,.k (.hp 3 0 0)),(4,.k (.hp 4 0 0)),(5,.k (.hp 5 0 0)),(6,.d hI),(7,.k (.hp 7 0 0)),(8,.k (.hp 8 0 0)),(28,.d hRs),(29,.d hI),(30,.d hI)],[(2,.var 81 true false [.d .bool,.d hIs,.d hIs,.d hRs,.d hRs,.d .bool,.d hIs,.d hIs]),(3,.var 81 true false [.d .bool,.d hIs,.d hIs,.d hRs,.d hRs,.d .bool,.d hIs,.d hIs]),(4,.var 81 true false [.d .bool,.d .nil,.d .nil,.d .nil,.d .nil,.d .bool,.d .nil,.d .nil]),(5,.var 81 true false [.d .bool,.d hIs,.d hIs,.d .nil,.d .nil,.d .bool,.d hIs,.d hIs]),(7,.var 31 true false [.d .bool,.d hIs,.d hIs]),(8,.var 31 true false [.d .bool,.d hIs,.d hIs])],[],[]⟩
abbrev A4w:Tm:=⟨[(2,.k (.hp 2 0 0)),(3,.k (.hp 3 0 0)),(4,.k (.hp 4 0 0)),(5,.k (.hp 5 0 0)),(6,.d hI),(7,.k (.hp 7 0 0)),(8,.k (.hp 8 0 0)),(28,.d hRs),(29,.d hI),(30,.d hI)],[(2,.var 81 true false [.d .bool,.d hIs,.d hIs,.d hRs,.d hRs,.d .bool,.d hIs,.d hIs]),(3,.var 81 true false [.d .bool,.d hIs,.d hIs,.d hRs,.d hRs,.d .bool,.d hIs,.d hIs]),(4,.var 81 true false [.d .bool,.d .nil,.d .nil,.d .nil,.d .nil,.d .bool,.d .nil,.d .nil]),(5,.var 81 false false [.d .bool,.d hIs,.d hIs,.k (.hw 52),.k (.hw 88),.d .bool,.d hIs,.d hIs]),(7,.var 31 true false [.d .bool,.d hIs,.d hIs]),(8,.var 31 true false [.d .bool,.d hIs,.d hIs]),(52,.arr 31 hR false),(88,.arr 31 hR false)],[],[]⟩
abbrev Afq:Tm:=⟨[(2,.k (.hp 2 0 0)),(3,.k (.hp 3 0 0)),(4,.k (.hp 4 0 0)),(5,.k (.hp 5 0 0)),(6,.d hI),(7,.k (.hp 7 0 0)),(8,.k (.hp 8 0 0)),(28,.d hRs),(29,.d hI),(30,.d hI)],[(2,.var 81 true false [.d .bool,.d hIs,.d hIs,.d hRs,.d hRs,.d .bool,.d hIs,.d hIs]),(3,.var 81 true false [.d .bool,.d hIs,.d hIs,.d hRs,.d hRs,.d .bool,.d hIs,.d hIs]),(4,.var 81 true false [.d .bool,.d .nil,.d .nil,.d .nil,.d .nil,.d .bool,.d .nil,.d .nil]),(5,.var 81 false false [.d .bool,.d hIs,.d hIs,.k (.hw 52),.d .nil,.d .bool,.d hIs,.d hIs]),(7,.var 31 true false [.d .bool,.d hIs,.d hIs]),(8,.var 31 true false [.d .bool,.d hIs,.d hIs]),(52,.arr 31 hR false)],[51],[]⟩
abbrev A4v:Tm:=⟨[(2,.k (.hp 2 0 0)),(3,.k (.hp 3 0 0)),(4,.k (.hp 4 0 0)),(5,.k (.hp 5 0 0)),(6,.d hI),(7,.k (.hp 7 0 0)),(8,.k (.hp 8 0 0)),(28,.d hRs),(29,.d hI),(30,.d hI)],[(2,.var 81 true false [.d .bool,.d hIs,.d hIs,.d hRs,.d hRs,.d .bool,.d hIs,.d hIs]),(3,.var 81 true false [.d .bool,.d hIs,.d hIs,.d hRs,.d hRs,.d .bool,.d hIs,.d hIs]),(4,.var 81 true false [.d .bool,.d .nil,.d .nil,.d .nil,.d .nil,.d .bool,.d .nil,.d .nil]),(5,.var 81 false false [.d .bool,.d hIs,.d hIs,.k (.hw 52),.k (.hw 88),.d .bool,.d hIs,.d hIs]),(7,.var 31 true false [.d .bool,.d hIs,.d hIs]),(8,.var 31 true false [.d .bool,.d hIs,.d hIs]),(52,.arr 31 hR false),(88,.arr 31 hR false)],[51],[]⟩
abbrev Afp:Tm:=⟨[(2,.k (.hp 2 0 0)),(3,.k (.hp 3 0 0)),(4,.k (.hp 4 0 0)),(5,.k (.hp 5 0 0)),(6,.d hI),(8,.k (.hp 8 0 0)),(9,.k (.hp 9 0 0)),(28,.d hRs),(29,.d hI),(30,.d hI)],[(2,.var 81 true false [.d .bool,.d hIs,.d hIs,.d hRs,.d hRs,.d .bool,.d hIs,.d hIs]),(3,.var 81 true false [.d .bool,.d hIs,.d hIs,.d hRs,.d hRs,.d .bool,.d hIs,.d hIs]),(4,.var 81 true false [.d .bool,.d .nil,.d .nil,.d .nil,.d .nil,.d .bool,.d .nil,.d .nil]),(5,.var 81 false false [.d .bool,.d hIs,.d hIs,.k (.hw 52),.d .nil,.d .bool,.d hIs,.d hIs]),(8,.var 31 true false [.d .bool,.d hIs,.d hIs]),(9,.var 31 true false [.d .bool,.d hIs,.d hIs]),(52,.arr 31 hR false)],[7],[]⟩
abbrev A4u:Tm:=⟨[(2,.k (.hp 2 0 0)),(3,.k (.hp 3 0 0)),(4,.k (.hp 4 0 0)),(5,.k (.hp 5 0 0)),(6,.d hI),(8,.k (.hp 8 0 0)),(9,.k (.hp 9 0 0)),(28,.d hRs),(29,.d hI),(30,.d hI)],[(2,.var 81 true false [.d .bool,.d hIs,.d hIs,.d hRs,.d hRs,.d .bool,.d hIs,.d hIs]),(3,.var 81 true false [.d .bool,.d hIs,.d hIs,.d hRs,.d hRs,.d .bool,.d hIs,.d hIs]),(4,.var 81 true false [.d .bool,.d .nil,.d .nil,.d .nil,.d .nil,.d .bool,.d .nil,.d .nil]),(5,.var 81 false false [.d .bool,.d hIs,.d hIs,.k (.hw 52),.k (.hw 88),.d .bool,.d hIs,.d hIs]),(8,.var 31 true false [.d .bool,.d hIs,.d hIs]),(9,.var 31 true false [.d .bool,.d hIs,.d hIs]),(52,.arr 31 hR false),(88,.arr 31 hR false)],[7],[]⟩
def Lj (n:Nat) (a0 a1:Rq × LR × LR × Rq):Option (Rq × LR × LR × Rq) :=
 ob (f178 n a0.1 a1.1) fun a =>
 ob (f178 n a0.2.2.2 a1.1) fun e =>
 ob (f178 n a0.1 a1.2.2.2) fun f =>
 ob (f161 n e f) fun b =>
 bif (decide (0 < (a0.2.1.length:Int))) then
  gd (decide (0 < (a0.2.1.length:Int))) (
   let c:=a0.2.1.getD 0 (false,[],[])
   gd (decide (0 < (a1.2.1.length:Int))) (
    let d:=a1.2.1.getD 0 (false,[],[])
    ob (f178 n c a1.1) fun g =>
    ob (f178 n a0.1 d) fun h =>
    ob (f161 n g h) fun i =>
    gd ((!a0.2.2.1.isEmpty)) (
     gd (decide (0 < (a0.2.2.1.length:Int))) (
      let j:=a0.2.2.1.getD 0 (false,[],[])
      ob (f178 n j a1.1) fun k =>
      ob (f178 n c a1.2.2.2) fun l =>
      ob (f161 n k l) fun m =>
      ob (f178 n a0.2.2.2 d) fun o =>
      ob (f161 n m o) fun p =>
      gd (decide (0 < (a1.2.2.1.length:Int))) (
       let q:=a1.2.2.1.getD 0 (false,[],[])
       ob (f178 n a0.1 q) fun r =>
       ob (f161 n p r) fun s =>
       Az2 n n a0.2.1 (a0.2.1.length:Int) 1 a0.1.1 a0.1.2.1 a0.1.2.2 a0.2.1 a0.2.2.1 a0.2.2.2.1 a0.2.2.2.2.1 a0.2.2.2.2.2 a1.1.1 a1.1.2.1 a1.1.2.2 a1.2.1 a1.2.2.1 a1.2.2.2.1 a1.2.2.2.2.1 a1.2.2.2.2.2 false false a.1 a.2.1 a.2.2 b.1 b.2.1 b.2.2 [i] [s]
        (fun d1 d2 t u v w x y z d0=>(
         some ((t,u,v),z,d0,w,x,y))))))))
 else
  some (a,[],[],b)
def A7s (n:Nat):Ent:=⟨194,[(.st (.pair hR (.pair hRs (.pair hRs hR)))),(.st (.pair hR (.pair hRs (.pair hRs hR))))],[(.st (.pair hR (.pair hRs (.pair hRs hR))))],fun x=>Lj n x.1 x.2⟩
def A7t (α:Type) (n:Nat):D3 α:={ reg:=[(1,⟨0,[],[(4,{ ent:=some (Af n) }),(9,{ ent:=some (Af n) }),(14,{ ent:=some (Af n) }),(15,{ ent:=some (Aj n) })]⟩),(6,⟨0,[],[(5,{ ent:=some (Af n) }),(9,{ ent:=some (Af n) }),(10,{ ent:=some (Aj n) }),(11,{ sh:=some hR }),(12,{ sh:=some hR })]⟩),(8,⟨0,[],[(7,{ ent:=some (Af n) }),(11,{ ent:=some (Af n) }),(12,{ ent:=some (Aj n) })]⟩),(9,⟨0,[],[(6,{ ent:=some (Af n) }),(7,{ ent:=some (Aj n) }),(15,{ ent:=some (Af n) }),(16,{ ent:=some (Aj n) }),(17,{ sh:=some hR }),(18,{ sh:=some hR })]⟩)],join:=[],loop:=[(3,⟨Oa,W5,A5 (W0 n) n⟩)],any:=[(1,Afs),(6,Afr),(6,A4w),(8,Afq),(8,A4v),(9,Afp),(9,A4u)] }
set_option maxHeartbeats 8000000 in
theorem Az3 (n:Nat):Ar TT ⟨92,[]⟩ [(4,{ ent:=some (Af n) }),(9,{ ent:=some (Af n) }),(14,{ ent:=some (Af n) }),(15,{ ent:=some (Aj n) })] Afs (Aa ((A1 Tryz.f194).at [1,0])):=by
 refine ⟨by kernel_rfl,fun w q hq=>?_⟩
 have e:WT [(4,{ ent:=some (Af n) }),(9,{ ent:=some (Af n) }),(14,{ ent:=some (Af n) }),(15,{ ent:=some (Aj n) })] (A8 (Aa ((A1 Tryz.f194).at [1,0])).toList) q = (∃ (y0:HL (Af n).rs) (q0:List (Nat × RV)),q = (4,.sv (Al (Af n).rs y0)) :: q0 /\ ∃ (y1:HL (Af n).rs) (q1:List (Nat × RV)),q0 = (9,.sv (Al (Af n).rs y1)) :: q1 /\ ∃ (y2:HL (Af n).rs) (q2:List (Nat × RV)),q1 = (14,.sv (Al (Af n).rs y2)) :: q2 /\ ∃ (y3:HL (Aj n).rs) (q3:List (Nat × RV)),q2 = (15,.sv (Al (Aj n).rs y3)) :: q3 /\ q3 = []):=by kernel_rfl
 rw [e] at hq;obtain ⟨y0,q0,rfl,y1,q1,rfl,y2,q2,rfl,y3,q3,rfl,rfl⟩:=hq
 all_goals exact .inr ⟨18,by kernel_rfl,by kernel_rfl,by kernel_rfl⟩
set_option maxHeartbeats 8000000 in
theorem Afv (n:Nat):Ar TT ⟨92,[]⟩ [(5,{ ent:=some (Af n) }),(9,{ ent:=some (Af n) }),(10,{ ent:=some (Aj n) }),(11,{ sh:=some hR }),(12,{ sh:=some hR })] Afr (Aa ((A1 Tryz.f194).at [1,1,0,1,0,0,1,1,0,0,1,1,0])):=by
 refine ⟨by kernel_rfl,fun w q hq=>?_⟩
 have e:WT [(5,{ ent:=some (Af n) }),(9,{ ent:=some (Af n) }),(10,{ ent:=some (Aj n) }),(11,{ sh:=some hR }),(12,{ sh:=some hR })] (A8 (Aa ((A1 Tryz.f194).at [1,1,0,1,0,0,1,1,0,0,1,1,0])).toList) q = (∃ (y0:HL (Af n).rs) (q0:List (Nat × RV)),q = (5,.sv (Al (Af n).rs y0)) :: q0 /\ ∃ (y1:HL (Af n).rs) (q1:List (Nat × RV)),q0 = (9,.sv (Al (Af n).rs y1)) :: q1 /\ ∃ (y2:HL (Aj n).rs) (q2:List (Nat × RV)),q1 = (10,.sv (Al (Aj n).rs y2)) :: q2 /\ q2 = []):=by kernel_rfl
 rw [e] at hq;obtain ⟨y0,q0,rfl,y1,q1,rfl,y2,q2,rfl,rfl⟩:=hq
 all_goals exact .inr ⟨12,by kernel_rfl,by kernel_rfl,by kernel_rfl⟩
set_option maxHeartbeats 8000000 in
theorem A4z (n:Nat):Ar TT ⟨92,[]⟩ [(5,{ ent:=some (Af n) }),(9,{ ent:=some (Af n) }),(10,{ ent:=some (Aj n) }),(11,{ sh:=some hR }),(12,{ sh:=some hR })] A4w (Aa ((A1 Tryz.f194).at [1,1,0,1,0,0,1,1,0,0,1,1,0])):=by
 refine ⟨by kernel_rfl,fun w q hq=>?_⟩
 have e:WT [(5,{ ent:=some (Af n) }),(9,{ ent:=some (Af n) }),(10,{ ent:=some (Aj n) }),(11,{ sh:=some hR }),(12,{ sh:=some hR })] (A8 (Aa ((A1 Tryz.f194).at [1,1,0,1,0,0,1,1,0,0,1,1,0])).toList) q = (∃ (y0:HL (Af n).rs) (q0:List (Nat × RV)),q = (5,.sv (Al (Af n).rs y0)) :: q0 /\ ∃ (y1:HL (Af n).rs) (q1:List (Nat × RV)),q0 = (9,.sv (Al (Af n).rs y1)) :: q1 /\ ∃ (y2:HL (Aj n).rs) (q2:List (Nat × RV)),q1 = (10,.sv (Al (Aj n).rs y2)) :: q2 /\ q2 = []):=by kernel_rfl
 rw [e] at hq;obtain ⟨y0,q0,rfl,y1,q1,rfl,y2,q2,rfl,rfl⟩:=hq
 all_goals exact .inr ⟨12,by kernel_rfl,by kernel_rfl,by kernel_rfl⟩
set_option maxHeartbeats 8000000 in
theorem Afu (n:Nat):Ar TT ⟨92,[]⟩ [(7,{ ent:=some (Af n) }),(11,{ ent:=some (Af n) }),(12,{ ent:=some (Aj n) })] Afq (Aa ((A1 Tryz.f194).at [1,1,0,1,0,0,1,1,0,0,1,1,1,1,0,0])):=by
 refine ⟨by kernel_rfl,fun w q hq=>?_⟩
 have e:WT [(7,{ ent:=some (Af n) }),(11,{ ent:=some (Af n) }),(12,{ ent:=some (Aj n) })] (A8 (Aa ((A1 Tryz.f194).at [1,1,0,1,0,0,1,1,0,0,1,1,1,1,0,0])).toList) q = (∃ (y0:HL (Af n).rs) (q0:List (Nat × RV)),q = (7,.sv (Al (Af n).rs y0)) :: q0 /\ ∃ (y1:HL (Af n).rs) (q1:List (Nat × RV)),q0 = (11,.sv (Al (Af n).rs y1)) :: q1 /\ ∃ (y2:HL (Aj n).rs) (q2:List (Nat × RV)),q1 = (12,.sv (Al (Aj n).rs y2)) :: q2 /\ q2 = []):=by kernel_rfl
 rw [e] at hq;obtain ⟨y0,q0,rfl,y1,q1,rfl,y2,q2,rfl,rfl⟩:=hq
 all_goals exact .inr ⟨14,by kernel_rfl,by kernel_rfl,by kernel_rfl⟩
set_option maxHeartbeats 8000000 in
theorem A4y (n:Nat):Ar TT ⟨92,[]⟩ [(7,{ ent:=some (Af n) }),(11,{ ent:=some (Af n) }),(12,{ ent:=some (Aj n) })] A4v (Aa ((A1 Tryz.f194).at [1,1,0,1,0,0,1,1,0,0,1,1,1,1,0,0])):=by
 refine ⟨by kernel_rfl,fun w q hq=>?_⟩
 have e:WT [(7,{ ent:=some (Af n) }),(11,{ ent:=some (Af n) }),(12,{ ent:=some (Aj n) })] (A8 (Aa ((A1 Tryz.f194).at [1,1,0,1,0,0,1,1,0,0,1,1,1,1,0,0])).toList) q = (∃ (y0:HL (Af n).rs) (q0:List (Nat × RV)),q = (7,.sv (Al (Af n).rs y0)) :: q0 /\ ∃ (y1:HL (Af n).rs) (q1:List (Nat × RV)),q0 = (11,.sv (Al (Af n).rs y1)) :: q1 /\ ∃ (y2:HL (Aj n).rs) (q2:List (Nat × RV)),q1 = (12,.sv (Al (Aj n).rs y2)) :: q2 /\ q2 = []):=by kernel_rfl
 rw [e] at hq;obtain ⟨y0,q0,rfl,y1,q1,rfl,y2,q2,rfl,rfl⟩:=hq
 all_goals exact .inr ⟨14,by kernel_rfl,by kernel_rfl,by kernel_rfl⟩
set_option maxHeartbeats 8000000 in
theorem Aft (n:Nat):Ar TT ⟨92,[]⟩ [(6,{ ent:=some (Af n) }),(7,{ ent:=some (Aj n) }),(15,{ ent:=some (Af n) }),(16,{ ent:=some (Aj n) }),(17,{ sh:=some hR }),(18,{ sh:=some hR })] Afp (Aa ((A1 Tryz.f194).at [1,1,0,1,0,0,1,1,0,0,1,1,1,1,0,1])):=by
 refine ⟨by kernel_rfl,fun w q hq=>?_⟩
 have e:WT [(6,{ ent:=some (Af n) }),(7,{ ent:=some (Aj n) }),(15,{ ent:=some (Af n) }),(16,{ ent:=some (Aj n) }),(17,{ sh:=some hR }),(18,{ sh:=some hR })] (A8 (Aa ((A1 Tryz.f194).at [1,1,0,1,0,0,1,1,0,0,1,1,1,1,0,1])).toList) q = (∃ (y0:HL (Af n).rs) (q0:List (Nat × RV)),q = (6,.sv (Al (Af n).rs y0)) :: q0 /\ ∃ (y1:HL (Aj n).rs) (q1:List (Nat × RV)),q0 = (7,.sv (Al (Aj n).rs y1)) :: q1 /\ ∃ (y2:HL (Af n).rs) (q2:List (Nat × RV)),q1 = (15,.sv (Al (Af n).rs y2)) :: q2 /\ ∃ (y3:HL (Aj n).rs) (q3:List (Nat × RV)),q2 = (16,.sv (Al (Aj n).rs y3)) :: q3 /\ q3 = []):=by kernel_rfl
 rw [e] at hq;obtain ⟨y0,q0,rfl,y1,q1,rfl,y2,q2,rfl,y3,q3,rfl,rfl⟩:=hq
 all_goals exact .inr ⟨18,by kernel_rfl,by kernel_rfl,by kernel_rfl⟩
set_option maxHeartbeats 8000000 in
theorem A4x (n:Nat):Ar TT ⟨92,[]⟩ [(6,{ ent:=some (Af n) }),(7,{ ent:=some (Aj n) }),(15,{ ent:=some (Af n) }),(16,{ ent:=some (Aj n) }),(17,{ sh:=some hR }),(18,{ sh:=some hR })] A4u (Aa ((A1 Tryz.f194).at [1,1,0,1,0,0,1,1,0,0,1,1,1,1,0,1])):=by
 refine ⟨by kernel_rfl,fun w q hq=>?_⟩
 have e:WT [(6,{ ent:=some (Af n) }),(7,{ ent:=some (Aj n) }),(15,{ ent:=some (Af n) }),(16,{ ent:=some (Aj n) }),(17,{ sh:=some hR }),(18,{ sh:=some hR })] (A8 (Aa ((A1 Tryz.f194).at [1,1,0,1,0,0,1,1,0,0,1,1,1,1,0,1])).toList) q = (∃ (y0:HL (Af n).rs) (q0:List (Nat × RV)),q = (6,.sv (Al (Af n).rs y0)) :: q0 /\ ∃ (y1:HL (Aj n).rs) (q1:List (Nat × RV)),q0 = (7,.sv (Al (Aj n).rs y1)) :: q1 /\ ∃ (y2:HL (Af n).rs) (q2:List (Nat × RV)),q1 = (15,.sv (Al (Af n).rs y2)) :: q2 /\ ∃ (y3:HL (Aj n).rs) (q3:List (Nat × RV)),q2 = (16,.sv (Al (Aj n).rs y3)) :: q3 /\ q3 = []):=by kernel_rfl
 rw [e] at hq;obtain ⟨y0,q0,rfl,y1,q1,rfl,y2,q2,rfl,y3,q3,rfl,rfl⟩:=hq
 all_goals exact .inr ⟨18,by kernel_rfl,by kernel_rfl,by kernel_rfl⟩
theorem A4t (α:Type) (n:Nat):Ao PP (Ai (A7t α n).reg):=⟨Bf n,Bf n,Bf n,Fd n,Bf n,Bf n,Fd n,Bf n,Bf n,Fd n,Bf n,Fd n,Bf n,Fd n,trivial⟩
theorem Aoa (α:Type) (n:Nat):D3.OK PP TT ⟨92,[]⟩ (A7t α n) ((A1 Tryz.f194).at [1,1,0,1,0,0]) :=
 D3.OK.mk3a (A4t α n) (show Ab ((A1 Tryz.f194).at [1,1,0,1,0,0]) = [] by kernel_rfl) trivial (show Av ((A1 Tryz.f194).at [1,1,0,1,0,0]) = [(6,Aa ((A1 Tryz.f194).at [1,1,0,1,0,0,1,1,0,0,1,1,0])),(8,Aa ((A1 Tryz.f194).at [1,1,0,1,0,0,1,1,0,0,1,1,1,1,0,0])),(9,Aa ((A1 Tryz.f194).at [1,1,0,1,0,0,1,1,0,0,1,1,1,1,0,1]))] by kernel_rfl) ⟨⟨Afv n,A4z n,trivial⟩,⟨Afu n,A4y n,trivial⟩,⟨Aft n,A4x n,trivial⟩,trivial⟩
theorem Aio (α:Type) (n:Nat):LO.Sound (α:=α) PP ⟨92,[]⟩ ⟨Oa,W5,A5 (W0 n) n⟩ (.loop ((A1 Tryz.f194).at [1,1,0,1,0,0])):=lk (Aoa α n) n
theorem B3e (α:Type) (n:Nat):D3.OK PP TT ⟨92,[]⟩ (A7t α n) (A1 Tryz.f194) :=
 D3.OK.mk3a (A4t α n) (show Ab (A1 Tryz.f194) = [(3,(.loop ((A1 Tryz.f194).at [1,1,0,1,0,0])))] by kernel_rfl) ⟨Ad rfl (Aio α n),trivial⟩ (show Av (A1 Tryz.f194) = [(1,Aa ((A1 Tryz.f194).at [1,0])),(6,Aa ((A1 Tryz.f194).at [1,1,0,1,0,0,1,1,0,0,1,1,0])),(8,Aa ((A1 Tryz.f194).at [1,1,0,1,0,0,1,1,0,0,1,1,1,1,0,0])),(9,Aa ((A1 Tryz.f194).at [1,1,0,1,0,0,1,1,0,0,1,1,1,1,0,1]))] by kernel_rfl) ⟨⟨Az3 n,trivial⟩,⟨Afv n,A4z n,trivial⟩,⟨Afu n,A4y n,trivial⟩,⟨Aft n,A4x n,trivial⟩,trivial⟩
theorem Afo (n:Nat):(A7s n).Sound PP:=fk (fn:=Tryz.f194) (B3e _ n)

end Go.Ev
