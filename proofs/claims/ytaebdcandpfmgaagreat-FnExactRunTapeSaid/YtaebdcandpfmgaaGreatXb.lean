/- DERIVED. What the functions compute, and that they do. -/
import Derived.Test.YtaebdcandpfmgaaGreatXa

set_option linter.all false
set_option linter.unusedVariables false
set_option linter.unusedSimpArgs false

namespace Go.Ev
open Go Go.Proofs Go.RowKit Go.Shelf
def Zr {α:Type} (n:Nat) (i:Nat) (z:Int) (b:LI) (a:LI) (c:Int) (f:LI->LI->Int->Option α) (k0:Int->Option α) (k1:Int->Option α):Option α :=
 gd (decide (0 <= (i:Int)) && decide ((i:Int) < (a.length:Int))) (
  bif (z != (a.getD ((i:Int).toNat) 0)) then
   gd (decide (0 <= (i:Int)) && decide ((i:Int) < (a.length:Int))) (
    bif (decide (z < (a.getD ((i:Int).toNat) 0))) then
     k1 (-1)
    else
     k1 1)
  else
   f b a c)
abbrev Iq:Tm:=⟨[(3,.k (.hp 3 0 0)),(4,.k (.hp 4 0 0)),(18,.d (.clo 235 (.ref hIs)))],[(3,.var 29 true false [.d hIs]),(4,.var 3 true false [.d hI])],[],[]⟩
abbrev Aqq:Tm:=⟨[(4,.k (.hp 4 0 0))],[(4,.var 3 true false [.d hI])],[3],[]⟩
abbrev Aqp:Tm:=⟨[(4,.k (.hp 4 0 0))],[(4,.var 3 true false [.d hI])],[3],[]⟩
abbrev Qp:List (Exit × Tm):=[(.normal,Aqq),(.ret,Aqp)]
def M2 (v:Iq.den):List Int:=(fun a b c=>a) v.1.2.2.1 v.2.1.1 v.2.2.1.1
def M3 {α:Type} (n:Nat) (i:Nat) (z:Int) (v:Iq.den) (f:Iq.den->Option α) (ks:KS α Qp):Option α:=Zr n i z v.1.2.2.1 v.2.1.1 v.2.2.1.1 (fun a b c=>f (((),(),a,()),((b,()),(c,()),()))) (fun w0=>ks.1 (((),()),((w0,()),()))) (fun w0=>ks.2.1 (((),()),((w0,()),())))
def M5 {α:Type} (v:Iq.den) (ks:KS α Qp):Option α:=(fun b c a=>ks.1 (((),()),((a,()),()))) v.1.2.2.1 v.2.1.1 v.2.2.1.1
def Ahx {α:Type} (n:Nat) (a:LI) (b:LI) (c:Int) (k0:Int->Option α) (k1:Int->Option α):Option α:=Lk M2 (M3 n) M5 (((),(),a,()),((b,()),(c,()),())) (fun w=>k0 w.2.1.1,fun w=>k1 w.2.1.1,())
def M4 {α:Type} (n:Nat) (zs:List Int) (i:Nat) (a:LI) (b:LI) (c:Int) (k0:Int->Option α) (k1:Int->Option α):Option α:=Ll M2 (M3 n) zs i (((),(),a,()),((b,()),(c,()),())) (fun v=>M5 v (fun w=>k0 w.2.1.1,fun w=>k1 w.2.1.1,())) (fun w=>k0 w.2.1.1,fun w=>k1 w.2.1.1,())
theorem Aqn {α:Type} (n:Nat) (a:LI) (b:LI) (c:Int) (k0:Int->Option α) (k1:Int->Option α):Ahx (α:=α) n a b c k0 k1 = gd (decide (a.length <= 4611686018427387904)) (M4 n a a.length a b c k0 k1):=rfl
theorem Aqo {α:Type} (n:Nat) (zs:List Int) (b:LI) (c:LI) (a:Int) (k0:Int->Option α) (k1:Int->Option α):M4 (α:=α) n zs 0 b c a k0 k1 = k0 a:=rfl
theorem Aqm {α:Type} (n:Nat) (zs:List Int) (i:Nat) (a:LI) (b:LI) (c:Int) (k0:Int->Option α) (k1:Int->Option α):M4 (α:=α) n zs (i + 1) a b c k0 k1 = Zr n i (zs.getD i 0) a b c (fun a b c=>gd (decide (a = zs)) (M4 n zs i a b c k0 k1)) k0 k1:=rfl
def f203 (n:Nat) (a0 a1:LI):Option Int :=
 bif ((a0.length:Int) != (a1.length:Int)) then
  bif (decide ((a0.length:Int) < (a1.length:Int))) then
   some (-1)
  else
   some 1
 else
  ob (f228 n a0) fun a =>
  Ahx n a a1 0
   (fun c=>(
    some 0))
   (fun b=>(
    some b))
def Um (n:Nat):Ent:=⟨203,[hIs,hIs],[hI],fun x=>f203 n x.1 x.2⟩
def A37 (α:Type) (n:Nat):D3 α:={ reg:=[(5,⟨0,[],[(1,{ ent:=some (Acr n) })]⟩)],join:=[],loop:=[(6,⟨Iq,Qp,Lk M2 (M3 n) M5⟩)] }
theorem Ul (α:Type) (n:Nat):Al PP (Ah (A37 α n).reg):=⟨Ahn n,trivial⟩
theorem Ali (α:Type) (n:Nat):D3.OK PP TT ⟨33,[]⟩ (A37 α n) ((A1 Tryz.f203).at [1,1,0,1,0,0]) :=
 D3.OK.mk3 (Ul α n) (show Aa ((A1 Tryz.f203).at [1,1,0,1,0,0]) = [] by kernel_rfl) trivial
theorem Alh (α:Type) (n:Nat):D3.OK PP TT ⟨33,[]⟩ (A37 α n) ((A1 Tryz.f203).at [1,1,0,1,0,1]) :=
 D3.OK.mk3 (Ul α n) (show Aa ((A1 Tryz.f203).at [1,1,0,1,0,1]) = [] by kernel_rfl) trivial
theorem Alg (α:Type) (n:Nat):LO.Sound (α:=α) PP ⟨33,[]⟩ ⟨Iq,Qp,Lk M2 (M3 n) M5⟩ (.rangeFunc (.tmp 18) #[19,20] ((A1 Tryz.f203).at [1,1,0,1,0,0]) ((A1 Tryz.f203).at [1,1,0,1,0,1])) :=
 Aay (Nv _) Ln M2 (M3 n) M5 Aj4 rfl rfl rfl rfl (Ali α n) (Alh α n) (by intro v;rfl) (by intro i z v f ks;kernel_rfl) (by intro v ks;kernel_rfl)
theorem B5e (α:Type) (n:Nat):D3.OK PP TT ⟨33,[]⟩ (A37 α n) (A1 Tryz.f203) :=
 D3.OK.mk3 (Ul α n) (show Aa (A1 Tryz.f203) = [(6,(.rangeFunc (.tmp 18) #[19,20] ((A1 Tryz.f203).at [1,1,0,1,0,0]) ((A1 Tryz.f203).at [1,1,0,1,0,1])))] by kernel_rfl) ⟨Ab rfl (Alg α n),trivial⟩
theorem Wm (n:Nat):(Um n).Sound PP:=fk (fn:=Tryz.f203) (B5e _ n)

def Amc (n:Nat) (a0:LI):Option LI :=
 gd ((!a0.isEmpty)) (
  gd (decide ((0 + a0.length) * 8 <= 140737488355328)) (
   some a0))
def B26 (n:Nat):Ent:=⟨117,[hIs],[hIs],fun x=>Amc n x⟩
def B27 (α:Type) (n:Nat):D3 α:={ reg:=[(3,⟨0,[],[(0,{ sh:=some hI })]⟩)],join:=[],loop:=[] }
theorem Aws (n:Nat):(B26 n).Sound PP:=As (fn:=Tryz.f117) (D:=B27 _ n) trivial

set_option maxRecDepth 100000 in
set_option maxHeartbeats 2000000 in
theorem Atl (ad:Option Addr) (cap:Nat) (hc:ad = none->cap = 0) (w:World):Calls Tryz.prog 117 #[.slice ad 0 cap] w fun e w'=>(∃ a c,e = .returned (.slice a 0 c) /\ (a = none->c = 0)) /\ w.grownBy w' none:=by
 refine (callsIn_wide (n:=3)).1 ?_;refine callsIn_of_wp Tryz.func117 rfl trivial ?_ rfl;simp only [Tryz.ntmps117,List.size_toArray,ZA,ZZ,Nat.reduceAdd,Nat.reduceSub,Array.replicate_succ,Array.replicate_zero,List.push_toArray,List.append_toArray,KN,YG];have hi:∃ i,Tryz.prog.info? 3 = some i:=⟨_,rfl⟩;obtain ⟨i3,hi3⟩:=hi
 have hap:∀ (base:Option Addr) (sCap:Nat) (a:Option Addr) (cp:Nat) (w:World),(Builtin.append_ #[29,29] 29 #[.slice base 0 sCap,.slice a 0 cp]).run Tryz.prog w = .ok (.slice base 0 sCap) w:=fun base sCap a cp w =>
  Mp w 29 29 3 i3 Tryz.underlying29 hi3 base 0 sCap (KD _) a cp
 cases ad with
 | none =>
  obtain rfl:=hc rfl
  have hb:∀ w,(binOp BinOp.eql 29 (.slice none 0 0) (.slice none 0 0)).run Tryz.prog w = .ok (.bool true) w:=fun w=>by kernel_rfl
  gi_wp2
  refine bodyPost_ret (results_tmp rfl _ _ _) rfl ?_;exact ⟨⟨none,0,rfl,fun _=>rfl⟩,⟨rfl,rfl,rfl,QY _,fun _ _ _=>rfl⟩⟩
 | some ad =>
  have hb:∀ w,(binOp BinOp.eql 29 (.slice (some ad) 0 cap) (.slice none 0 0)).run Tryz.prog w = .ok (.bool false) w:=fun w=>by kernel_rfl
  gi_wp2
  refine bodyPost_ret (results_tmp rfl _ _ _) rfl ?_;exact ⟨⟨_,0,rfl,fun _=>rfl⟩,World.grownBy_alloc w _ none⟩
def f117 (n:Nat) (a0:List Int):Option (List Int):=bif a0.isEmpty then some [] else Amc n a0
def Jl (n:Nat):Ent:=⟨117,[hIs],[hIs],fun x=>f117 n x⟩
theorem Ae6 (nt:Nat):I2 Tryz.prog 117 nt [] [] [.one (.i (.sl 0 false 1 []))] (.v (.one (.i (.sl 0 false 1 [])))) nt []:=by
 refine ⟨⟨Tryz.f117,by kernel_rfl,by kernel_rfl,by kernel_rfl⟩,fun w E vs hin hv=>?_⟩
 obtain ⟨hl,hget⟩:=hv
 match vs,hl with
 | [v],_ =>
  have h1:Rv w E v (.one (.i (.sl 0 false 1 []))):=hget 0 v _ rfl rfl
  cases h1 with
  | one h1 =>
   cases h1 with
   | i h1 =>
    cases h1 with
    | sl _ _ _ _ _ _ _ hne=>exact absurd rfl hne
    | nil _ _ cap a _ hn hc =>
     refine (Atl a cap hc w).mono ?_
     rintro e w' ⟨⟨a',c',rfl,hc'⟩,hg⟩
     exact ⟨_,E,rfl,.v (.one (.i (.nil 0 1 c' a' false (fun e=>by cases e) hc'))),⟨hg.os,hg.tape,hg.output,hg.size,fun b hb _=>hg.block b hb (by simp)⟩,
      ⟨fun b hb=>ZQ (hin.wf.alt b hb) hg.size,hin.wf.tag,hin.wf.inj,fun b h hb=>by cases hin.odom b h hb⟩,fun _ _=>Iff.rfl,QY _,fun _ _=>rfl,fun t g ht h=>absurd (hin.wf.tag t g h).1 (Nat.not_lt.2 ht),
      fun h b hb=>(by cases hb),fun h h' b b' g g' z z' hb=>(by cases hb),fun h b g z hb=>(by cases hb),fun h b hb=>(by cases hb),fun g h hg=>(by cases hin.odom g h hg)⟩
theorem Ir (n:Nat):(Jl n).Sound Tryz.prog:=by
 intro nt x r h
 cases x with
 | cons z l=>exact Aws n nt (z :: l) r h
 | nil =>
  have h:some ([]:List Int) = some r:=h;obtain rfl:=QA h;exact Ae6 nt

def Z7 {α:Type} (n:Nat) (b:LI) (a:Int) (f:LI->Int->Option α) (k0:LI->Int->Option α):Option α :=
 bif (decide (a > 0)) then
  gd (decide (0 <= (W (a - 1))) && decide ((W (a - 1)) < (b.length:Int))) (
   bif ((b.getD ((W (a - 1)).toNat) 0) == 0) then
    f b (W (a - 1))
   else
    k0 b a)
 else
  k0 b a
abbrev Qh:Tm:=⟨[(0,.d hIs),(3,.d hI)],[],[],[]⟩
abbrev Apy:Tm:=⟨[(0,.d hIs),(3,.d hI)],[],[],[]⟩
abbrev Z6:List (Exit × Tm):=[(.exit 0,Apy)]
def Z5 {α:Type} (n:Nat) (v:Qh.den) (f:Qh.den->Option α) (ks:KS α Z6):Option α:=Z7 n v.1.1 v.1.2.1 (fun a b=>f ((a,b,()),())) (fun w0 w1=>ks.1 ((w0,w1,()),()))
def Wh {α:Type} (n m:Nat) (a:LI) (b:Int) (k0:LI->Int->Option α):Option α:=A5 (Z5 n) m ((a,b,()),()) (fun w=>k0 w.1.1 w.1.2.1,())
theorem Apx {α n m a b k0}:Wh (α:=α) n (m + 1) a b k0 = Z7 n a b (fun a b=>Wh n m a b k0) k0:=rfl
def f225 (n:Nat) (a0:LI):Option LI :=
 Wh n n a0 (a0.length:Int)
  (fun b a=>(
   gd (decide (0 <= a) && decide (a <= (b.length:Int))) (
    some ((b.drop 0).take (a.toNat - 0)))))
def G7 (n:Nat):Ent:=⟨225,[hIs],[hIs],fun x=>f225 n x⟩
def Ad0 (α:Type) (n:Nat):D3 α:={ reg:=[],join:=[],loop:=[(2,⟨Qh,Z6,A5 (Z5 n) n⟩)] }
theorem A7q (α:Type) (n:Nat):Al PP (Ah (Ad0 α n).reg):=trivial
theorem Al7 (α:Type) (n:Nat):LO.Sound (α:=α) PP ⟨21,[]⟩ ⟨Qh,Z6,A5 (Z5 n) n⟩ (.loop ((A1 Tryz.f225).at [1,1,0,0,0])):=Bb (D:=Ad0 α n) (A7q α n) n
theorem B4z (α:Type) (n:Nat):D3.OK PP TT ⟨21,[]⟩ (Ad0 α n) (A1 Tryz.f225) :=
 D3.OK.mk3 (A7q α n) (show Aa (A1 Tryz.f225) = [(2,(.loop ((A1 Tryz.f225).at [1,1,0,0,0])))] by kernel_rfl) ⟨Ab rfl (Al7 α n),trivial⟩
theorem Ob (n:Nat):(G7 n).Sound PP:=fk (fn:=Tryz.f225) (B4z _ n)

def A0x {α:Type} (n:Nat) (a:Int) (b:LI) (f:Int->LI->Option α) (k0:LI->Option α):Option α :=
 bif (decide (a > 0)) then
  gd (decide ((b.length + 1) * 8 <= 140737488355328)) (
   f (W (Int.tdiv a 10000)) (b ++ [(Int.tmod a 10000)]))
 else
  k0 b
abbrev R6:Tm:=⟨[(0,.d hI),(3,.k (.hw 4))],[(4,.arr 3 hI false)],[12],[]⟩
abbrev Arz:Tm:=⟨[(3,.k (.hw 4))],[(4,.arr 3 hI false)],[],[]⟩
abbrev A0w:List (Exit × Tm):=[(.exit 0,Arz)]
def A0v {α:Type} (n:Nat) (v:R6.den) (f:R6.den->Option α) (ks:KS α A0w):Option α:=A0x n v.1.1 v.2.1 (fun a b=>f ((a,(),()),(b,()))) (fun w0=>ks.1 (((),()),(w0,())))
def Wv {α:Type} (n m:Nat) (a:Int) (b:LI) (k0:LI->Option α):Option α:=A5 (A0v n) m ((a,(),()),(b,())) (fun w=>k0 w.2.1,())
theorem Ary {α n m a b k0}:Wv (α:=α) n (m + 1) a b k0 = A0x n a b (fun a b=>Wv n m a b k0) k0:=rfl
def f179 (n:Nat) (a0:Int):Option LI :=
 Wv n n a0 []
  (fun a=>(
   some a))
def Jk (n:Nat):Ent:=⟨179,[hI],[hIs],fun x=>f179 n x⟩
def Adn (α:Type) (n:Nat):D3 α:={ reg:=[(1,⟨0,[],[(0,{ sh:=some hI })]⟩),(4,⟨0,[],[(3,{ sh:=some hI })]⟩)],join:=[],loop:=[(2,⟨R6,A0w,A5 (A0v n) n⟩)] }
theorem A8e (α:Type) (n:Nat):Al PP (Ah (Adn α n).reg):=trivial
theorem Am0 (α:Type) (n:Nat):LO.Sound (α:=α) PP ⟨15,[]⟩ ⟨R6,A0w,A5 (A0v n) n⟩ (.loop ((A1 Tryz.f179).at [1,1,0,0,0])):=Bb (D:=Adn α n) (A8e α n) n
theorem B60 (α:Type) (n:Nat):D3.OK PP TT ⟨15,[]⟩ (Adn α n) (A1 Tryz.f179) :=
 D3.OK.mk3 (A8e α n) (show Aa (A1 Tryz.f179) = [(2,(.loop ((A1 Tryz.f179).at [1,1,0,0,0])))] by kernel_rfl) ⟨Ab rfl (Am0 α n),trivial⟩
theorem A5w (n:Nat):(Jk n).Sound PP:=fk (fn:=Tryz.f179) (B60 _ n)

def Kl (n:Nat) (a0:LI):Option LI :=
 gd ((!a0.isEmpty)) (
  gd (decide ((0 + a0.length) * 8 <= 140737488355328)) (
   some a0))
def H4 (n:Nat):Ent3:=⟨117,[.im hIs],[[.one (.own 3 hI)]],fun x=>Kl n x⟩
def B28 (α:Type) (n:Nat):D3 α:={ reg:=[(3,⟨0,[],[(0,{ sh:=some hI })]⟩)],join:=[],loop:=[] }
theorem A1h (n:Nat):(H4 n).Sound PP:=Abj (fn:=Tryz.f117) (D:=B28 _ n) trivial

def U8 {α:Type} (n:Nat) (s0o s0l:Nat) (c:LI) (d e g i a:Int) (b:LI) (f:Nat->Nat->LI->Int->Int->Int->Int->Int->LI->Option α) (k0:Nat->Nat->LI->Int->Int->Int->LI->Option α):Option α :=
 bif (decide (a < i)) then
  gd (decide (0 <= a) && decide (a < (s0l:Int))) (
   gd (decide ((s0o + a.toNat) < b.length)) (
    let j:=fun (h:Int)=>(
     let k:=fun (l:Int)=>(
      gd (decide (0 <= a) && decide (a < (s0l:Int))) (
       gd (decide ((s0o + a.toNat) < b.length)) (
        f s0o s0l c d e l i (W (a + 1)) (b.set (s0o + a.toNat) (W (h - (W (l * 10000))))))))
     bif (decide (h < 0)) then
      k (W (Int.tdiv (W ((W (h - 10000)) + 1)) 10000))
     else
      k 0)
    bif (decide (a < d)) then
     gd (decide (0 <= a) && decide (a < (c.length:Int))) (
      j (W ((W ((b.getD (s0o + a.toNat) 0) + g)) - (W (e * (c.getD a.toNat 0))))))
    else
     j (W ((b.getD (s0o + a.toNat) 0) + g))))
 else
  k0 s0o s0l c d e g b
abbrev Mw:Tm:=⟨[(0,.hs 1000),(1,.d hIs),(5,.d hI),(7,.d hI),(8,.d hI),(50,.d hI),(51,.d hI)],[(1000,.arr 3 hI false)],[],[]⟩
abbrev Al0:Tm:=⟨[(0,.hs 1000),(1,.d hIs),(5,.d hI),(7,.d hI),(8,.d hI)],[(1000,.arr 3 hI false)],[],[]⟩
abbrev U7:List (Exit × Tm):=[(.exit 0,Al0)]
def U6 {α:Type} (n:Nat) (v:Mw.den) (f:Mw.den->Option α) (ks:KS α U7):Option α:=U8 n v.1.1.1 v.1.1.2 v.1.2.1 v.1.2.2.1 v.1.2.2.2.1 v.1.2.2.2.2.1 v.1.2.2.2.2.2.1 v.1.2.2.2.2.2.2.1 v.2.1 (fun s0o s0l a b c d e g h=>f (((s0o,s0l),a,b,c,d,e,g,()),(h,()))) (fun w0 w1 w2 w3 w4 w5 w6=>ks.1 (((w0,w1),w2,w3,w4,w5,()),(w6,())))
def Fa {α:Type} (n m:Nat) (s0o s0l:Nat) (a:LI) (b c d e f:Int) (g:LI) (k0:Nat->Nat->LI->Int->Int->Int->LI->Option α):Option α:=A5 (U6 n) m (((s0o,s0l),a,b,c,d,e,f,()),(g,())) (fun w=>k0 w.1.1.1 w.1.1.2 w.1.2.1 w.1.2.2.1 w.1.2.2.2.1 w.1.2.2.2.2.1 w.2.1,())
theorem Akz {α n m s0o s0l a b c d e f g k0}:Fa (α:=α) n (m + 1) s0o s0l a b c d e f g k0 = U8 n s0o s0l a b c d e f g (fun s0o s0l a b c d e f g=>Fa n m s0o s0l a b c d e f g k0) k0:=rfl
def Qa {α:Type} (n:Nat) (s0o s0l:Nat) (c:LI) (d g h e i a:Int) (b:LI) (f:Nat->Nat->LI->Int->Int->Int->Int->Int->Int->LI->Option α) (k0:Nat->Nat->LI->Int->Int->Int->Int->LI->Option α):Option α :=
 bif (decide (a < i)) then
  gd (decide (0 <= a) && decide (a < (s0l:Int))) (
   gd (decide ((s0o + a.toNat) < b.length)) (
    let j:=fun (k:Int)=>(
     gd (decide (0 <= a) && decide (a < (s0l:Int))) (
      gd (decide ((s0o + a.toNat) < b.length)) (
       f s0o s0l c d g h (W (Int.tdiv k 10000)) i (W (a + 1)) (b.set (s0o + a.toNat) (Int.tmod k 10000)))))
    bif (decide (a < d)) then
     gd (decide (0 <= a) && decide (a < (c.length:Int))) (
      j (W ((W ((b.getD (s0o + a.toNat) 0) + e)) + (c.getD a.toNat 0))))
    else
     j (W ((b.getD (s0o + a.toNat) 0) + e))))
 else
  k0 s0o s0l c d g h e b
abbrev Kj:Tm:=⟨[(0,.hs 1000),(1,.d hIs),(5,.d hI),(7,.d hI),(8,.d hI),(11,.d hI),(90,.d hI),(91,.d hI)],[(1000,.arr 3 hI false)],[],[]⟩
abbrev Ag2:Tm:=⟨[(0,.hs 1000),(1,.d hIs),(5,.d hI),(7,.d hI),(8,.d hI),(11,.d hI)],[(1000,.arr 3 hI false)],[],[]⟩
abbrev Q9:List (Exit × Tm):=[(.exit 4,Ag2)]
def Q8 {α:Type} (n:Nat) (v:Kj.den) (f:Kj.den->Option α) (ks:KS α Q9):Option α:=Qa n v.1.1.1 v.1.1.2 v.1.2.1 v.1.2.2.1 v.1.2.2.2.1 v.1.2.2.2.2.1 v.1.2.2.2.2.2.1 v.1.2.2.2.2.2.2.1 v.1.2.2.2.2.2.2.2.1 v.2.1 (fun s0o s0l a b c d e g h i=>f (((s0o,s0l),a,b,c,d,e,g,h,()),(i,()))) (fun w0 w1 w2 w3 w4 w5 w6 w7=>ks.1 (((w0,w1),w2,w3,w4,w5,w6,()),(w7,())))
def H0 {α:Type} (n m:Nat) (s0o s0l:Nat) (a:LI) (b c d e f g:Int) (h:LI) (k0:Nat->Nat->LI->Int->Int->Int->Int->LI->Option α):Option α:=A5 (Q8 n) m (((s0o,s0l),a,b,c,d,e,f,g,()),(h,())) (fun w=>k0 w.1.1.1 w.1.1.2 w.1.2.1 w.1.2.2.1 w.1.2.2.2.1 w.1.2.2.2.2.1 w.1.2.2.2.2.2.1 w.2.1,())
theorem Ag1 {α n m s0o s0l a b c d e f g h k0}:H0 (α:=α) n (m + 1) s0o s0l a b c d e f g h k0 = Qa n s0o s0l a b c d e f g h (fun s0o s0l a b c d e f g h=>H0 n m s0o s0l a b c d e f g h k0) k0:=rfl
def Qd {α:Type} (n:Nat) (s0o s0l:Nat) (d:LI) (e a b:Int) (c:LI) (f:Nat->Nat->LI->Int->Int->Int->LI->Option α) (k0:Int->LI->Option α):Option α :=
 bif (decide (b < 0)) then
  H0 n n s0o s0l d e (W (a - 1)) b 0 (s0l:Int) 0 c
   (fun g h i j k l m o=>(
    f g h i j k (W (l + m)) o))
 else
  k0 a c
abbrev Kk:Tm:=⟨[(0,.hs 1000),(1,.d hIs),(5,.d hI),(7,.d hI),(8,.d hI)],[(1000,.arr 3 hI false)],[],[]⟩
abbrev Ag5:Tm:=⟨[(7,.d hI)],[(1000,.arr 3 hI false)],[],[]⟩
abbrev Qc:List (Exit × Tm):=[(.exit 2,Ag5)]
def Qb {α:Type} (n:Nat) (v:Kk.den) (f:Kk.den->Option α) (ks:KS α Qc):Option α:=Qd n v.1.1.1 v.1.1.2 v.1.2.1 v.1.2.2.1 v.1.2.2.2.1 v.1.2.2.2.2.1 v.2.1 (fun s0o s0l a b c d e=>f (((s0o,s0l),a,b,c,d,()),(e,()))) (fun w0 w1=>ks.1 ((w0,()),(w1,())))
def H2 {α:Type} (n m:Nat) (s0o s0l:Nat) (a:LI) (b c d:Int) (e:LI) (k0:Int->LI->Option α):Option α:=A5 (Qb n) m (((s0o,s0l),a,b,c,d,()),(e,())) (fun w=>k0 w.1.1 w.2.1,())
theorem Ag3 {α n m s0o s0l a b c d e k0}:H2 (α:=α) n (m + 1) s0o s0l a b c d e k0 = Qd n s0o s0l a b c d e (fun s0o s0l a b c d e=>H2 n m s0o s0l a b c d e k0) k0:=rfl
abbrev App:Tm:=⟨[(0,.hs 1000),(1,.d hIs),(5,.d hI),(7,.d hI),(9,.d hI),(10,.d hI),(50,.d hI),(51,.d hI)],[(1000,.arr 3 hI false)],[],[]⟩
abbrev Apo:Tm:=⟨[(0,.hs 1000),(1,.d hIs),(5,.d hI),(7,.d hI),(8,.d hI),(9,.d hI),(10,.d hI),(50,.d hI),(51,.d hI)],[(1000,.arr 3 hI false)],[],[]⟩
abbrev Apn:Tm:=⟨[(0,.hs 1000),(1,.d hIs),(5,.d hI),(7,.d hI),(8,.d hI),(12,.d hI),(13,.d hI),(90,.d hI),(91,.d hI)],[(1000,.arr 3 hI false)],[],[]⟩
def A9y (n:Nat) (a0:LI × Nat × Nat) (a1:LI):Option (Int × LI) :=
 gd (decide (0 <= (a1.length:Int)) && decide ((a1.length:Int) < (a0.2.2:Int))) (
  gd (decide ((a0.2.1 + (a1.length:Int).toNat) < a0.1.length)) (
   gd (decide (0 <= (W ((a1.length:Int) - 1))) && decide ((W ((a1.length:Int) - 1)) < (a0.2.2:Int))) (
    gd (decide ((a0.2.1 + (W ((a1.length:Int) - 1)).toNat) < a0.1.length)) (
     gd (decide (0 <= (W ((a1.length:Int) - 2))) && decide ((W ((a1.length:Int) - 2)) < (a0.2.2:Int))) (
      gd (decide ((a0.2.1 + (W ((a1.length:Int) - 2)).toNat) < a0.1.length)) (
       gd (decide (0 <= (W ((a1.length:Int) - 1))) && decide ((W ((a1.length:Int) - 1)) < (a1.length:Int))) (
        gd (decide (0 <= (W ((a1.length:Int) - 2))) && decide ((W ((a1.length:Int) - 2)) < (a1.length:Int))) (
         gd (decide ((W ((W ((a1.getD ((W ((a1.length:Int) - 1)).toNat) 0) * 10000)) + (a1.getD ((W ((a1.length:Int) - 2)).toNat) 0))) ≠ 0)) (
          Fa n n a0.2.1 a0.2.2 a1 (a1.length:Int) (min (W (Int.tdiv (W ((W ((W ((W ((a0.1.getD (a0.2.1 + (a1.length:Int).toNat) 0) * 10000)) + (a0.1.getD (a0.2.1 + (W ((a1.length:Int) - 1)).toNat) 0))) * 10000)) + (a0.1.getD (a0.2.1 + (W ((a1.length:Int) - 2)).toNat) 0))) (W ((W ((a1.getD ((W ((a1.length:Int) - 1)).toNat) 0) * 10000)) + (a1.getD ((W ((a1.length:Int) - 2)).toNat) 0))))) 9999) 0 (a0.2.2:Int) 0 a0.1
           (fun a b c d e f g=>(
            H2 n n a b c d e f g
             (fun h i=>(
              some (h,i))))))))))))))
def Ij (n:Nat):Ent3:=⟨234,[.one (.win 3 hI),.im hIs],[[.im hI]],fun x=>A9y n x.1 x.2⟩
def Oa (α:Type) (n:Nat):D3 α:={ reg:=[(2,⟨17,[],[]⟩),(3,⟨13,[],[]⟩)],join:=[(11,App),(14,Apo),(25,Apn)],loop:=[(6,⟨Mw,U7,A5 (U6 n) n⟩),(20,⟨Kj,Q9,A5 (Q8 n) n⟩),(16,⟨Kk,Qc,A5 (Qb n) n⟩)] }
theorem Ki (α:Type) (n:Nat):Al PP (Ah (Oa α n).reg):=trivial
theorem Ag0 (α:Type) (n:Nat):LO.Sound (α:=α) PP ⟨121,[]⟩ ⟨Mw,U7,A5 (U6 n) n⟩ (.loop ((A1 Tryz.f234).at [1,1,1,1,1,0,1,0,0])):=Bb (D:=Oa α n) (Ki α n) n
theorem Aco (α:Type) (n:Nat):LO.Sound (α:=α) PP ⟨121,[]⟩ ⟨Kj,Q9,A5 (Q8 n) n⟩ (.loop ((A1 Tryz.f234).at [1,1,1,1,1,1,0,0,0,1,0,1,1,0,1,0,0])):=Bb (D:=Oa α n) (Ki α n) n
theorem Ag4 (α:Type) (n:Nat):D3.OK PP TT ⟨121,[]⟩ (Oa α n) ((A1 Tryz.f234).at [1,1,1,1,1,1,0,0,0]) :=
 D3.OK.mk3 (Ki α n) (show Aa ((A1 Tryz.f234).at [1,1,1,1,1,1,0,0,0]) = [(20,(.loop ((A1 Tryz.f234).at [1,1,1,1,1,1,0,0,0,1,0,1,1,0,1,0,0])))] by kernel_rfl) ⟨Ab rfl (Aco α n),trivial⟩
theorem Acp (α:Type) (n:Nat):LO.Sound (α:=α) PP ⟨121,[]⟩ ⟨Kk,Qc,A5 (Qb n) n⟩ (.loop ((A1 Tryz.f234).at [1,1,1,1,1,1,0,0,0])):=lk (Ag4 α n) n
theorem Azx (α:Type) (n:Nat):D3.OK PP TT ⟨121,[]⟩ (Oa α n) (A1 Tryz.f234) :=
 D3.OK.mk3 (Ki α n) (show Aa (A1 Tryz.f234) = [(6,(.loop ((A1 Tryz.f234).at [1,1,1,1,1,0,1,0,0]))),(16,(.loop ((A1 Tryz.f234).at [1,1,1,1,1,1,0,0,0])))] by kernel_rfl) ⟨Ab rfl (Ag0 α n),Ab rfl (Acp α n),trivial⟩
theorem Awd (n:Nat):(Ij n).Sound PP:=O6 (fn:=Tryz.f234) (Azx _ n)

def Z0 {α:Type} (n:Nat) (i:Nat) (z:Int) (d:LI) (a:LI) (c:Int) (b:LI) (f:LI->LI->Int->LI->Option α) (k0:Int->LI->Option α):Option α :=
 gd (decide (0 < (a.length:Int))) (
  gd (decide ((a.getD 0 0) ≠ 0)) (
   gd (decide (0 < (a.length:Int))) (
    gd (decide ((a.getD 0 0) ≠ 0)) (
     gd (decide (0 <= (i:Int)) && decide ((i:Int) < (b.length:Int))) (
      gd (decide ((i:Int).toNat < b.length)) (
       f d a (Int.tmod (W ((W (c * 10000)) + z)) (a.getD 0 0)) (b.set ((i:Int).toNat) (W (Int.tdiv (W ((W (c * 10000)) + z)) (a.getD 0 0))))))))))
abbrev Il:Tm:=⟨[(3,.k (.hp 3 0 0)),(7,.k (.hp 7 0 0)),(8,.k (.hp 8 0 0)),(29,.d (.clo 235 (.ref hIs)))],[(3,.var 29 true false [.d hIs]),(7,.var 29 false false [.k (.hw 27)]),(8,.var 3 true false [.d hI]),(27,.arr 3 hI false)],[],[]⟩
abbrev Apv:Tm:=⟨[(7,.k (.hp 7 0 0)),(8,.k (.hp 8 0 0))],[(7,.var 29 false false [.k (.hw 27)]),(8,.var 3 true false [.d hI]),(27,.arr 3 hI false)],[3],[]⟩
abbrev Qe:List (Exit × Tm):=[(.normal,Apv)]
def Ly (v:Il.den):List Int:=(fun a b c d=>a) v.1.2.2.2.1 v.2.1.1 v.2.2.2.1.1 v.2.2.2.2.1
def Lz {α:Type} (n:Nat) (i:Nat) (z:Int) (v:Il.den) (f:Il.den->Option α) (ks:KS α Qe):Option α:=Z0 n i z v.1.2.2.2.1 v.2.1.1 v.2.2.2.1.1 v.2.2.2.2.1 (fun a b c d=>f (((),(),(),a,()),((b,()),((),()),(c,()),d,()))) (fun w0 w1=>ks.1 (((),(),()),(((),()),(w0,()),w1,())))
def M0 {α:Type} (v:Il.den) (ks:KS α Qe):Option α:=(fun c d a b=>ks.1 (((),(),()),(((),()),(a,()),b,()))) v.1.2.2.2.1 v.2.1.1 v.2.2.2.1.1 v.2.2.2.2.1
def Aho {α:Type} (n:Nat) (a:LI) (b:LI) (c:Int) (d:LI) (k0:Int->LI->Option α):Option α:=Lk Ly (Lz n) M0 (((),(),(),a,()),((b,()),((),()),(c,()),d,())) (fun w=>k0 w.2.2.1.1 w.2.2.2.1,())
def Ik {α:Type} (n:Nat) (zs:List Int) (i:Nat) (a:LI) (b:LI) (c:Int) (d:LI) (k0:Int->LI->Option α):Option α:=Ll Ly (Lz n) zs i (((),(),(),a,()),((b,()),((),()),(c,()),d,())) (fun v=>M0 v (fun w=>k0 w.2.2.1.1 w.2.2.2.1,())) (fun w=>k0 w.2.2.1.1 w.2.2.2.1,())
theorem Apt {α:Type} (n:Nat) (a:LI) (b:LI) (c:Int) (d:LI) (k0:Int->LI->Option α):Aho (α:=α) n a b c d k0 = gd (decide (a.length <= 4611686018427387904)) (Ik n a a.length a b c d k0):=rfl
theorem Apu {α:Type} (n:Nat) (zs:List Int) (c:LI) (d:LI) (a:Int) (b:LI) (k0:Int->LI->Option α):Ik (α:=α) n zs 0 c d a b k0 = k0 a b:=rfl
theorem Aps {α:Type} (n:Nat) (zs:List Int) (i:Nat) (a:LI) (b:LI) (c:Int) (d:LI) (k0:Int->LI->Option α):Ik (α:=α) n zs (i + 1) a b c d k0 = Z0 n i (zs.getD i 0) a b c d (fun a b c d=>gd (decide (a = zs)) (Ik n zs i a b c d k0)) k0:=rfl
def Mz {α:Type} (n:Nat) (b a:Int) (g c d:LI) (f:Int->Int->LI->LI->LI->Option α) (k0:LI->LI->Option α):Option α :=
 bif (decide (a >= 0)) then
  gd (decide (0 <= a) && decide (a <= (W ((W (a + b)) + 1))) && decide ((W ((W (a + b)) + 1)) <= (d.length:Int))) (
   ob (A9y n (d,a.toNat,((W ((W (a + b)) + 1)).toNat - a.toNat)) g) fun e =>
   gd (Nat.beq e.2.length d.length && true) (
    gd (decide (0 <= a) && decide (a < (c.length:Int))) (
     gd (decide (a.toNat < c.length)) (
      f b (W (a - 1)) g (c.set a.toNat e.1) e.2))))
 else
  k0 c d
abbrev My:Tm:=⟨[(3,.k (.hp 3 0 0)),(6,.d hI),(11,.k (.hw 310)),(12,.k (.hw 62)),(13,.d hI)],[(3,.var 29 true false [.d hIs]),(62,.arr 3 hI false),(310,.arr 3 hI false)],[55],[]⟩
abbrev Al5:Tm:=⟨[(11,.k (.hw 310)),(12,.k (.hw 62))],[(62,.arr 3 hI false),(310,.arr 3 hI false)],[3],[]⟩
abbrev Ua:List (Exit × Tm):=[(.exit 2,Al5)]
def U9 {α:Type} (n:Nat) (v:My.den) (f:My.den->Option α) (ks:KS α Ua):Option α:=Mz n v.1.2.1 v.1.2.2.2.2.1 v.2.1.1 v.2.2.1 v.2.2.2.1 (fun a b c d e=>f (((),a,(),(),b,()),((c,()),d,e,()))) (fun w0 w1=>ks.1 (((),(),()),(w0,w1,())))
def Qf {α:Type} (n m:Nat) (a b:Int) (c d e:LI) (k0:LI->LI->Option α):Option α:=A5 (U9 n) m (((),a,(),(),b,()),((c,()),d,e,())) (fun w=>k0 w.2.1 w.2.2.1,())
theorem A2z {α n m a b c d e k0}:Qf (α:=α) n (m + 1) a b c d e k0 = Mz n a b c d e (fun a b c d e=>Qf n m a b c d e k0) k0:=rfl
abbrev Acw:Tm:=⟨[(3,.k (.hp 3 0 0)),(7,.k (.hp 7 0 0)),(8,.k (.hp 8 0 0)),(9,.d hI),(10,.d hI),(29,.d (.clo 235 (.ref hIs))),(30,.d hI),(31,.d hI)],[(3,.var 29 true false [.d hIs]),(7,.var 29 false false [.k (.hw 27)]),(8,.var 3 true false [.d hI]),(27,.arr 3 hI false)],[],[]⟩
abbrev Acv:Tm:=⟨[(7,.k (.hp 7 0 0)),(8,.k (.hp 8 0 0))],[(7,.var 29 false false [.k (.hw 27)]),(8,.var 3 true false [.d hI]),(27,.arr 3 hI false)],[],[]⟩
abbrev Acu:Tm:=⟨[(0,.d hIs),(3,.k (.hp 3 0 0)),(6,.d hI)],[(3,.var 29 true false [.d hIs])],[],[]⟩
abbrev Acs:Tm:=⟨[(3,.k (.hp 3 0 0)),(6,.d hI),(11,.k (.hw 310)),(12,.k (.hw 62)),(13,.d hI)],[(3,.var 29 true false [.d hIs]),(62,.arr 3 hI false),(310,.arr 3 hI false)],[],[]⟩
def f227 (n:Nat) (a0 a1:LI):Option (LI × LI) :=
 ob (f203 n a0 a1) fun b =>
 bif (decide (b < 0)) then
  ob (f117 n a0) fun c =>
  some ([],c)
 else
  bif ((a1.length:Int) == 1) then
   gd (decide (0 <= (a0.length:Int)) && decide ((a0.length:Int) <= 4611686018427387904) && decide ((8:Int) * (a0.length:Int) <= 281474976710656)) (
    ob (f228 n a0) fun d =>
    Aho n d a1 0 (List.replicate ((a0.length:Int).toNat) 0)
     (fun e f=>(
      ob (f225 n f) fun g =>
      ob (f179 n e) fun h =>
      some (g,h))))
  else
   ob (Kl n a0) fun a =>
   gd (decide ((a.length + 1) * 8 <= 140737488355328)) (
    gd (decide (0 <= (W ((W ((a0.length:Int) - (a1.length:Int))) + 1))) && decide ((W ((W ((a0.length:Int) - (a1.length:Int))) + 1)) <= 4611686018427387904) && decide ((8:Int) * (W ((W ((a0.length:Int) - (a1.length:Int))) + 1)) <= 281474976710656)) (
     Qf n n (a1.length:Int) (W ((a0.length:Int) - (a1.length:Int))) a1 (List.replicate ((W ((W ((a0.length:Int) - (a1.length:Int))) + 1)).toNat) 0) (a ++ [0])
      (fun i j=>(
       ob (f225 n i) fun k =>
       ob (f225 n j) fun l =>
       some (k,l)))))
def A30 (n:Nat):Ent:=⟨227,[hIs,hIs],[hIs,hIs],fun x=>f227 n x.1 x.2⟩
def Ub (α:Type) (n:Nat):D3 α:={ reg:=[(1,⟨0,[],[(2,{ ent:=some (Um n) })]⟩),(2,⟨0,[],[(0,{ sh:=some hI }),(2,{ ent:=some (Jl n) })]⟩),(6,⟨0,[],[(1,{ ent:=some (Acr n) })]⟩),(11,⟨0,[],[(1,{ ent:=some (G7 n),fz:=[(49,hIs)] }),(3,{ ent:=some (Jk n) })]⟩),(12,⟨0,[],[(1,{ entB:=some (H4 n),hb:=310 }),(2,{ sh:=some hI })]⟩),(16,⟨0,[],[(10,{ entB:=some (Ij n),hb:=320 })]⟩),(17,⟨0,[],[(1,{ ent:=some (G7 n),fz:=[(83,hIs)] }),(3,{ ent:=some (G7 n),fz:=[(85,hIs)] })]⟩)],join:=[],loop:=[(7,⟨Il,Qe,Lk Ly (Lz n) M0⟩),(14,⟨My,Ua,A5 (U9 n) n⟩)],any:=[(10,Acw),(11,Acv),(12,Acu),(16,Acs)] }
set_option maxHeartbeats 8000000 in
theorem Awh (n:Nat):B4 TT ⟨87,[]⟩ [] Acw (Af ((A1 Tryz.f227).at [1,1,1,0,1,0,1,0,1,0,1,0,1])):=by
 refine ⟨by kernel_rfl,fun w q hq=>?_⟩
 have e:WT [] (A9 (Af ((A1 Tryz.f227).at [1,1,1,0,1,0,1,0,1,0,1,0,1])).toList) q = (q = []):=by kernel_rfl
 rw [e] at hq;obtain rfl:=hq
 all_goals exact .inr ⟨14,by kernel_rfl,by kernel_rfl,by kernel_rfl⟩
set_option maxHeartbeats 8000000 in
theorem Awg (n:Nat):B4 TT ⟨87,[]⟩ [(1,{ ent:=some (G7 n),fz:=[(49,hIs)] }),(3,{ ent:=some (Jk n) })] Acv (Af ((A1 Tryz.f227).at [1,1,1,0,1,0,1,1,0])):=by
 refine ⟨by kernel_rfl,fun w q hq=>?_⟩
 have e:WT [(1,{ ent:=some (G7 n),fz:=[(49,hIs)] }),(3,{ ent:=some (Jk n) })] (A9 (Af ((A1 Tryz.f227).at [1,1,1,0,1,0,1,1,0])).toList) q = (∃ (y0:HL (G7 n).rs) (q0:List (Nat × RV)),q = (1,.sv (Aq (G7 n).rs y0)) :: q0 /\ ∃ (y1:HL (Jk n).rs) (q1:List (Nat × RV)),q0 = (3,.sv (Aq (Jk n).rs y1)) :: q1 /\ q1 = []):=by kernel_rfl
 rw [e] at hq;obtain ⟨y0,q0,rfl,y1,q1,rfl,rfl⟩:=hq
 all_goals exact .inl (Jc.mk (by kernel_rfl))
set_option maxHeartbeats 8000000 in
theorem Awf (n:Nat):B4 TT ⟨87,[]⟩ [(1,{ entB:=some (H4 n),hb:=310 }),(2,{ sh:=some hI })] Acu (Af ((A1 Tryz.f227).at [1,1,1,1,0])):=by
 refine ⟨by kernel_rfl,fun w q hq=>?_⟩
 have e:WT [(1,{ entB:=some (H4 n),hb:=310 }),(2,{ sh:=some hI })] (A9 (Af ((A1 Tryz.f227).at [1,1,1,1,0])).toList) q = (∃ (y0:HF (Aj 1000 (H4 n).ts) (H4 n).forms) (q0:List (Nat × RV)),q = (1,.bx (H4 n) y0) :: q0 /\ q0 = []):=by kernel_rfl
 rw [e] at hq;obtain ⟨y0,q0,rfl,rfl⟩:=hq
 all_goals exact .inl (Jc.mk (by kernel_rfl))
set_option maxHeartbeats 8000000 in
theorem Acx (n:Nat):B4 TT ⟨87,[]⟩ [(10,{ entB:=some (Ij n),hb:=320 })] Acs (Af ((A1 Tryz.f227).at [1,1,1,1,1,0,1,0,0,1,0,0])):=by
 refine ⟨by kernel_rfl,fun w q hq=>?_⟩
 have e:WT [(10,{ entB:=some (Ij n),hb:=320 })] (A9 (Af ((A1 Tryz.f227).at [1,1,1,1,1,0,1,0,0,1,0,0])).toList) q = (∃ (y0:HF (Aj 1000 (Ij n).ts) (Ij n).forms) (q0:List (Nat × RV)),q = (10,.bx (Ij n) y0) :: q0 /\ q0 = []):=by kernel_rfl
 rw [e] at hq;obtain ⟨y0,q0,rfl,rfl⟩:=hq
 all_goals exact .inr ⟨11,by kernel_rfl,by kernel_rfl,by kernel_rfl⟩
theorem Mx (α:Type) (n:Nat):Al PP (Ah (Ub α n).reg):=⟨Wm n,Ir n,Ahn n,Ob n,A5w n,A1h n,Awd n,Ob n,Ob n,trivial⟩
theorem Al3 (α:Type) (n:Nat):D3.OK PP TT ⟨87,[]⟩ (Ub α n) ((A1 Tryz.f227).at [1,1,1,0,1,0,1,0,1,0,0]) :=
 D3.OK.mk3a (Mx α n) (show Aa ((A1 Tryz.f227).at [1,1,1,0,1,0,1,0,1,0,0]) = [] by kernel_rfl) trivial (show Ax ((A1 Tryz.f227).at [1,1,1,0,1,0,1,0,1,0,0]) = [] by kernel_rfl) trivial
theorem Al2 (α:Type) (n:Nat):D3.OK PP TT ⟨87,[]⟩ (Ub α n) ((A1 Tryz.f227).at [1,1,1,0,1,0,1,0,1,0,1]) :=
 D3.OK.mk3a (Mx α n) (show Aa ((A1 Tryz.f227).at [1,1,1,0,1,0,1,0,1,0,1]) = [] by kernel_rfl) trivial (show Ax ((A1 Tryz.f227).at [1,1,1,0,1,0,1,0,1,0,1]) = [(10,Af ((A1 Tryz.f227).at [1,1,1,0,1,0,1,0,1,0,1,0,1]))] by kernel_rfl) ⟨⟨Awh n,trivial⟩,trivial⟩
theorem Al1 (α:Type) (n:Nat):LO.Sound (α:=α) PP ⟨87,[]⟩ ⟨Il,Qe,Lk Ly (Lz n) M0⟩ (.rangeFunc (.tmp 29) #[30,31] ((A1 Tryz.f227).at [1,1,1,0,1,0,1,0,1,0,0]) ((A1 Tryz.f227).at [1,1,1,0,1,0,1,0,1,0,1])) :=
 Aay (Nv _) Ln Ly (Lz n) M0 Aj4 rfl rfl rfl rfl (Al3 α n) (Al2 α n) (by intro v;rfl) (by intro i z v f ks;kernel_rfl) (by intro v ks;kernel_rfl)
theorem Al4 (α:Type) (n:Nat):D3.OK PP TT ⟨87,[]⟩ (Ub α n) ((A1 Tryz.f227).at [1,1,1,1,1,0,1,0,0]) :=
 D3.OK.mk3a (Mx α n) (show Aa ((A1 Tryz.f227).at [1,1,1,1,1,0,1,0,0]) = [] by kernel_rfl) trivial (show Ax ((A1 Tryz.f227).at [1,1,1,1,1,0,1,0,0]) = [(16,Af ((A1 Tryz.f227).at [1,1,1,1,1,0,1,0,0,1,0,0]))] by kernel_rfl) ⟨⟨Acx n,trivial⟩,trivial⟩
theorem Ag6 (α:Type) (n:Nat):LO.Sound (α:=α) PP ⟨87,[]⟩ ⟨My,Ua,A5 (U9 n) n⟩ (.loop ((A1 Tryz.f227).at [1,1,1,1,1,0,1,0,0])):=lk (Al4 α n) n
theorem B4x (α:Type) (n:Nat):D3.OK PP TT ⟨87,[]⟩ (Ub α n) (A1 Tryz.f227) :=
 D3.OK.mk3a (Mx α n) (show Aa (A1 Tryz.f227) = [(7,(.rangeFunc (.tmp 29) #[30,31] ((A1 Tryz.f227).at [1,1,1,0,1,0,1,0,1,0,0]) ((A1 Tryz.f227).at [1,1,1,0,1,0,1,0,1,0,1]))),(14,(.loop ((A1 Tryz.f227).at [1,1,1,1,1,0,1,0,0])))] by kernel_rfl) ⟨Ab rfl (Al1 α n),Ab rfl (Ag6 α n),trivial⟩ (show Ax (A1 Tryz.f227) = [(11,Af ((A1 Tryz.f227).at [1,1,1,0,1,0,1,1,0])),(12,Af ((A1 Tryz.f227).at [1,1,1,1,0])),(16,Af ((A1 Tryz.f227).at [1,1,1,1,1,0,1,0,0,1,0,0]))] by kernel_rfl) ⟨⟨Awg n,trivial⟩,⟨Awf n,trivial⟩,⟨Acx n,trivial⟩,trivial⟩
theorem A5p (n:Nat):(A30 n).Sound PP:=fk (fn:=Tryz.f227) (B4x _ n)

def Z3 {α:Type} (n:Nat) (b a:LI) (f:LI->LI->Option α) (k0:LI->Option α):Option α :=
 bif (decide ((a.length:Int) > 0)) then
  ob (f227 n b a) fun c =>
  f a c.2
 else
  k0 b
abbrev Qg:Tm:=⟨[(0,.d hIs),(1,.d hIs)],[],[],[]⟩
abbrev Apw:Tm:=⟨[(0,.d hIs)],[],[],[]⟩
abbrev Z2:List (Exit × Tm):=[(.exit 0,Apw)]
def Z1 {α:Type} (n:Nat) (v:Qg.den) (f:Qg.den->Option α) (ks:KS α Z2):Option α:=Z3 n v.1.1 v.1.2.1 (fun a b=>f ((a,b,()),())) (fun w0=>ks.1 ((w0,()),()))
def Im {α:Type} (n m:Nat) (a b:LI) (k0:LI->Option α):Option α:=A5 (Z1 n) m ((a,b,()),()) (fun w=>k0 w.1.1,())
theorem A7p {α n m a b k0}:Im (α:=α) n (m + 1) a b k0 = Z3 n a b (fun a b=>Im n m a b k0) k0:=rfl
def f226 (n:Nat) (a0 a1:LI):Option LI :=
 Im n n a0 a1
  (fun a=>(
   some a))
def Acy (n:Nat):Ent:=⟨226,[hIs,hIs],[hIs],fun x=>f226 n x.1 x.2⟩
def Acz (α:Type) (n:Nat):D3 α:={ reg:=[(2,⟨0,[],[(2,{ ent:=some (A30 n) })]⟩)],join:=[],loop:=[(1,⟨Qg,Z2,A5 (Z1 n) n⟩)] }
theorem A7o (α:Type) (n:Nat):Al PP (Ah (Acz α n).reg):=⟨A5p n,trivial⟩
theorem Al6 (α:Type) (n:Nat):LO.Sound (α:=α) PP ⟨19,[]⟩ ⟨Qg,Z2,A5 (Z1 n) n⟩ (.loop ((A1 Tryz.f226).at [1,0,0,0])):=Bb (D:=Acz α n) (A7o α n) n
theorem B4y (α:Type) (n:Nat):D3.OK PP TT ⟨19,[]⟩ (Acz α n) (A1 Tryz.f226) :=
 D3.OK.mk3 (A7o α n) (show Aa (A1 Tryz.f226) = [(1,(.loop ((A1 Tryz.f226).at [1,0,0,0])))] by kernel_rfl) ⟨Ab rfl (Al6 α n),trivial⟩
theorem Ahp (n:Nat):(Acy n).Sound PP:=fk (fn:=Tryz.f226) (B4y _ n)

def f180 (n:Nat)  : Option LI :=
 some [1]
def Oq (n:Nat):Ent:=⟨180,[],[hIs],fun _=>f180 n⟩
def B5z (α:Type) (n:Nat):D3 α:={ reg:=[(1,⟨0,[],[(0,{ sh:=some hI })]⟩)],join:=[],loop:=[] }
theorem Oo (n:Nat):(Oq n).Sound PP:=As (fn:=Tryz.f180) (D:=B5z _ n) trivial

abbrev B08:Tm:=⟨[(1,.k (.hp 1 0 0))],[(1,.var 31 true false [.d .bool,.d hIs,.d hIs])],[],[]⟩
def f215 (n:Nat) (a0:Rq):Option Bool :=
 let a:=fun (_:Unit)=>(
  ob (f226 n a0.2.1 a0.2.2) fun b =>
  ob (f180 n) fun c =>
  ob (f203 n b c) fun d =>
  some (d == 0))
 ob (f231 n a0.2.1) fun e =>
 bif (!e) then
  some false
 else
  ob (f231 n a0.2.2) fun f =>
  bif (!f) then
   some false
  else
   bif ((a0.2.2.length:Int) == 0) then
    some false
   else
    bif a0.1 then
     ob (f195 n a0) fun g =>
     bif g then
      some false
     else
      a ()
    else
     a ()
def Aq9 (n:Nat):Ent:=⟨215,[hR],[.bool],fun x=>f215 n x⟩
def B57 (α:Type) (n:Nat):D3 α:={ reg:=[(1,⟨0,[],[(2,{ ent:=some (Acq n) }),(7,{ ent:=some (Acq n) }),(21,{ ent:=some (Ok n) })]⟩),(3,⟨0,[],[(4,{ ent:=some (Acy n) }),(5,{ ent:=some (Oq n) }),(6,{ ent:=some (Um n) })]⟩)],join:=[(3,B08)],loop:=[] }
theorem B06 (n:Nat):(Aq9 n).Sound PP:=As (fn:=Tryz.f215) (D:=B57 _ n) ⟨Ahl n,Ahl n,Oj n,Ahp n,Oo n,Wm n,trivial⟩

def f214 (n:Nat) (a0:Rq):Option Bool :=
 ob (f215 n a0) fun a =>
 some (!a)
def Aqa (n:Nat):Ent:=⟨214,[hR],[.bool],fun x=>f214 n x⟩
def B58 (α:Type) (n:Nat):D3 α:={ reg:=[(1,⟨0,[],[(1,{ ent:=some (Aq9 n) })]⟩)],join:=[],loop:=[] }
theorem B09 (n:Nat):(Aqa n).Sound PP:=As (fn:=Tryz.f214) (D:=B58 _ n) ⟨B06 n,trivial⟩

def M9 {α:Type} (n:Nat) (b:LR) (c a:Int) (f:LR->Int->Int->Option α) (k0:Int->Option α) (k1:Unit->Option α):Option α :=
 bif (decide (a < c)) then
  gd (decide (0 <= a) && decide (a < (b.length:Int))) (
   let d:=b.getD a.toNat (false,[],[])
   ob (f214 n d) fun e =>
   bif e then
    k0 a
   else
    f b c (W (a + 1)))
 else
  k1 ()
abbrev Hn:Tm:=⟨[(0,.d hRs),(1,.d (.fn 214)),(7,.d hI),(8,.d hI)],[],[],[]⟩
abbrev A9g:Tm:=⟨[(4,.d hI)],[],[],[]⟩
abbrev A9f:Tm:=⟨[],[],[],[]⟩
abbrev M8:List (Exit × Tm):=[(.ret,A9g),(.exit 0,A9f)]
def M7 {α:Type} (n:Nat) (v:Hn.den) (f:Hn.den->Option α) (ks:KS α M8):Option α:=M9 n v.1.1 v.1.2.2.1 v.1.2.2.2.1 (fun a b c=>f ((a,(),b,c,()),())) (fun w0=>ks.1 ((w0,()),())) (fun _=>ks.2.1 ((),()))
def Gb {α:Type} (n m:Nat) (a:LR) (b c:Int) (k0:Int->Option α) (k1:Unit->Option α):Option α:=A5 (M7 n) m ((a,(),b,c,()),()) (fun w=>k0 w.1.1,fun w=>k1 (),())
theorem A9e {α n m a b c k0 k1}:Gb (α:=α) n (m + 1) a b c k0 k1 = M9 n a b c (fun a b c=>Gb n m a b c k0 k1) k0 k1:=rfl
def A0q (n:Nat) (a0:LR) (a1:Unit):Option Int :=
 Gb n n a0 (a0.length:Int) 0
  (fun a=>(
   some a))
  (fun (_:Unit)=>(
   some (-1)))
def A3b (n:Nat):Ent:=⟨182,[hRs,(.fn 214)],[hI],fun x=>A0q n x.1 x.2⟩
def R2 (α:Type) (n:Nat):D3 α:={ reg:=[(4,⟨0,[],[(5,{ ent:=some (Aqa n) })]⟩)],join:=[],loop:=[(2,⟨Hn,M8,A5 (M7 n) n⟩)] }
theorem Sx (α:Type) (n:Nat):Al PP (Ah (R2 α n).reg):=⟨B09 n,trivial⟩
theorem A5u (α:Type) (n:Nat):LO.Sound (α:=α) PP ⟨19,[]⟩ ⟨Hn,M8,A5 (M7 n) n⟩ (.loop ((A1 Tryz.f182).at [1,0,1,0,0])):=Bb (D:=R2 α n) (Sx α n) n
theorem Alx (α:Type) (n:Nat):D3.OK PP TT ⟨19,[]⟩ (R2 α n) (A1 Tryz.f182) :=
 D3.OK.mk3 (Sx α n) (show Aa (A1 Tryz.f182) = [(2,(.loop ((A1 Tryz.f182).at [1,0,1,0,0])))] by kernel_rfl) ⟨Ab rfl (A5u α n),trivial⟩
theorem Ag8 (n:Nat):(A3b n).Sound PP:=fk (fn:=Tryz.f182) (Alx _ n)

def Rb (n:Nat) (a0:LR) (a1:Unit):Option Bool :=
 ob (A0q n a0 a1) fun a =>
 some (decide (a >= 0))
def A3g (n:Nat):Ent:=⟨129,[hRs,(.fn 214)],[.bool],fun x=>Rb n x.1 x.2⟩
def Am7 (α:Type) (n:Nat):D3 α:={ reg:=[(1,⟨0,[],[(2,{ ent:=some (A3b n) })]⟩)],join:=[],loop:=[] }
theorem Agb (n:Nat):(A3g n).Sound PP:=As (fn:=Tryz.f129) (D:=Am7 _ n) ⟨Ag8 n,trivial⟩

def f173 (n:Nat) (a0:LR):Option Int :=
 ob (Rb n a0 ()) fun a =>
 ob (f114 n (!a) 1) fun b =>
 some b
def As2 (n:Nat):Ent:=⟨173,[hRs],[hI],fun x=>f173 n x⟩
def B65 (α:Type) (n:Nat):D3 α:={ reg:=[(1,⟨0,[],[(1,{ ent:=some (A3g n) }),(3,{ ent:=some (Hp n) })]⟩)],join:=[],loop:=[] }
theorem B1k (n:Nat):(As2 n).Sound PP:=As (fn:=Tryz.f173) (D:=B65 _ n) ⟨Agb n,X3 n,trivial⟩

def f115 (n:Nat) (a0:LR):Option Bool :=
 bif (decide ((a0.length:Int) >= 1)) then
  bif (decide ((a0.length:Int) <= 4)) then
   ob (f173 n a0) fun a =>
   some (a == 0)
  else
   some false
 else
  some false
def Oz (n:Nat):Ent:=⟨115,[hRs],[.bool],fun x=>f115 n x⟩
def B6y (α:Type) (n:Nat):D3 α:={ reg:=[(1,⟨0,[],[(10,{ ent:=some (As2 n) })]⟩)],join:=[],loop:=[] }
theorem B2b (n:Nat):(Oz n).Sound PP:=As (fn:=Tryz.f115) (D:=B6y _ n) ⟨B1k n,trivial⟩

def A58 {α:Type} (n:Nat) (b:LI) (c a:Int) (f:LI->Int->Int->Option α) (k0:Int->Option α) (k1:Unit->Option α):Option α :=
 bif (decide (a < c)) then
  gd (decide (0 <= a) && decide (a < (b.length:Int))) (
   bif ((b.getD a.toNat 0) != 0) then
    k0 (b.getD a.toNat 0)
   else
    f b c (W (a + 1)))
 else
  k1 ()
abbrev W7:Tm:=⟨[(5,.d hIs),(6,.d hI),(7,.d hI)],[],[],[]⟩
abbrev Aw0:Tm:=⟨[(2,.d hI)],[],[],[]⟩
abbrev Avz:Tm:=⟨[],[],[],[]⟩
abbrev A57:List (Exit × Tm):=[(.ret,Aw0),(.exit 0,Avz)]
def A56 {α:Type} (n:Nat) (v:W7.den) (f:W7.den->Option α) (ks:KS α A57):Option α:=A58 n v.1.1 v.1.2.1 v.1.2.2.1 (fun a b c=>f ((a,b,c,()),())) (fun w0=>ks.1 ((w0,()),())) (fun _=>ks.2.1 ((),()))
def A2q {α:Type} (n m:Nat) (a:LI) (b c:Int) (k0:Int->Option α) (k1:Unit->Option α):Option α:=A5 (A56 n) m ((a,b,c,()),()) (fun w=>k0 w.1.1,fun w=>k1 (),())
theorem Avy {α n m a b c k0 k1}:A2q (α:=α) n (m + 1) a b c k0 k1 = A58 n a b c (fun a b c=>A2q n m a b c k0 k1) k0 k1:=rfl
def f64 (n:Nat) (a0:LI):Option Int :=
 A2q n n a0 (a0.length:Int) 0
  (fun a=>(
   some a))
  (fun (_:Unit)=>(
   some 0))
def Q2 (n:Nat):Ent:=⟨64,[hIs],[hI],fun x=>f64 n x⟩
def Akm (α:Type) (n:Nat):D3 α:={ reg:=[],join:=[],loop:=[(2,⟨W7,A57,A5 (A56 n) n⟩)] }
theorem Ac5 (α:Type) (n:Nat):Al PP (Ah (Akm α n).reg):=trivial
theorem Ap3 (α:Type) (n:Nat):LO.Sound (α:=α) PP ⟨15,[]⟩ ⟨W7,A57,A5 (A56 n) n⟩ (.loop ((A1 Tryz.f64).at [1,0,1,0,0])):=Bb (D:=Akm α n) (Ac5 α n) n
theorem B8d (α:Type) (n:Nat):D3.OK PP TT ⟨15,[]⟩ (Akm α n) (A1 Tryz.f64) :=
 D3.OK.mk3 (Ac5 α n) (show Aa (A1 Tryz.f64) = [(2,(.loop ((A1 Tryz.f64).at [1,0,1,0,0])))] by kernel_rfl) ⟨Ab rfl (Ap3 α n),trivial⟩
theorem Ap2 (n:Nat):(Q2 n).Sound PP:=fk (fn:=Tryz.f64) (B8d _ n)

def A1k {α:Type} (n:Nat) (c:Int) (b:LN) (d a:Int) (f:Int->LN->Int->Int->Option α) (k0:Int->Option α):Option α :=
 bif (decide (a < d)) then
  gd (decide (0 <= a) && decide (a < (b.length:Int))) (
   let e:=b.getD a.toNat (0,0,0,0)
   bif (e.1 == 2) then
    f (max c (W (e.2.2.2 + 1))) b d (W (a + 1))
   else
    f c b d (W (a + 1)))
 else
  k0 c
abbrev Rg:Tm:=⟨[(3,.d hI),(6,.d hNs),(7,.d hI),(8,.d hI)],[],[5],[]⟩
abbrev Asx:Tm:=⟨[(3,.d hI)],[],[],[]⟩
abbrev A1j:List (Exit × Tm):=[(.exit 0,Asx)]
def A1i {α:Type} (n:Nat) (v:Rg.den) (f:Rg.den->Option α) (ks:KS α A1j):Option α:=A1k n v.1.1 v.1.2.1 v.1.2.2.1 v.1.2.2.2.1 (fun a b c d=>f ((a,b,c,d,()),())) (fun w0=>ks.1 ((w0,()),()))
def X2 {α:Type} (n m:Nat) (a:Int) (b:LN) (c d:Int) (k0:Int->Option α):Option α:=A5 (A1i n) m ((a,b,c,d,()),()) (fun w=>k0 w.1.1,())
theorem Asw {α n m a b c d k0}:X2 (α:=α) n (m + 1) a b c d k0 = A1k n a b c d (fun a b c d=>X2 n m a b c d k0) k0:=rfl
def f116 (n:Nat) (a0:LN):Option Int :=
 X2 n n 0 a0 (a0.length:Int) 0
  (fun a=>(
   some a))
def Asy (n:Nat):Ent:=⟨116,[hNs],[hI],fun x=>f116 n x⟩
def Ae8 (α:Type) (n:Nat):D3 α:={ reg:=[],join:=[],loop:=[(3,⟨Rg,A1j,A5 (A1i n) n⟩)] }
theorem A8r (α:Type) (n:Nat):Al PP (Ah (Ae8 α n).reg):=trivial
theorem Amd (α:Type) (n:Nat):LO.Sound (α:=α) PP ⟨22,[]⟩ ⟨Rg,A1j,A5 (A1i n) n⟩ (.loop ((A1 Tryz.f116).at [1,1,0,1,0,0])):=Bb (D:=Ae8 α n) (A8r α n) n
theorem B6x (α:Type) (n:Nat):D3.OK PP TT ⟨22,[]⟩ (Ae8 α n) (A1 Tryz.f116) :=
 D3.OK.mk3 (A8r α n) (show Aa (A1 Tryz.f116) = [(3,(.loop ((A1 Tryz.f116).at [1,1,0,1,0,0])))] by kernel_rfl) ⟨Ab rfl (Amd α n),trivial⟩
theorem B29 (n:Nat):(Asy n).Sound PP:=fk (fn:=Tryz.f116) (B6x _ n)

abbrev Aiw:Tm:=⟨[(1,.d hRs),(2,.k (.hp 2 0 0))],[(2,.var 65 true false [.d hNs,.d hI])],[],[]⟩
def f103 (n:Nat) (a0:LN × Int) (a1:LR):Option Int :=
 ob (f65 n [a1]) fun b =>
 ob (f166 n a0) fun c =>
 ob (f115 n a1) fun d =>
 ob (f114 n d 1) fun e =>
 ob (f64 n [b,c,e]) fun a =>
 bif (a != 0) then
  ob (f114 n true 8) fun f =>
  ob (f64 n [a,f]) fun g =>
  some g
 else
  ob (f116 n a0.1) fun h =>
  ob (f114 n (decide ((a1.length:Int) >= h)) 8) fun i =>
  ob (f64 n [a,i]) fun j =>
  some j
def Aee (n:Nat):Ent:=⟨103,[(.st (.pair hNs hI)),hRs],[hI],fun x=>f103 n x.1 x.2⟩
def At7 (α:Type) (n:Nat):D3 α:={ reg:=[(1,⟨0,[],[(1,{ sh:=some hRs }),(2,{ ent:=some (W6 n) }),(4,{ ent:=some (Ou n) }),(6,{ ent:=some (Oz n) }),(7,{ ent:=some (Hp n) }),(8,{ sh:=some hI }),(9,{ ent:=some (Q2 n) })]⟩),(2,⟨0,[],[(8,{ ent:=some (Asy n) }),(11,{ ent:=some (Hp n) }),(12,{ sh:=some hI }),(13,{ ent:=some (Q2 n) })]⟩)],join:=[],loop:=[],any:=[(1,Aiw)] }
set_option maxHeartbeats 8000000 in
theorem B2f (n:Nat):B4 TT ⟨30,[]⟩ [(1,{ sh:=some hRs }),(2,{ ent:=some (W6 n) }),(4,{ ent:=some (Ou n) }),(6,{ ent:=some (Oz n) }),(7,{ ent:=some (Hp n) }),(8,{ sh:=some hI }),(9,{ ent:=some (Q2 n) })] Aiw (Af ((A1 Tryz.f103).at [1,0])):=by
 refine ⟨by kernel_rfl,fun w q hq=>?_⟩
 have e:WT [(1,{ sh:=some hRs }),(2,{ ent:=some (W6 n) }),(4,{ ent:=some (Ou n) }),(6,{ ent:=some (Oz n) }),(7,{ ent:=some (Hp n) }),(8,{ sh:=some hI }),(9,{ ent:=some (Q2 n) })] (A9 (Af ((A1 Tryz.f103).at [1,0])).toList) q = (∃ (y0:HL (W6 n).rs) (q0:List (Nat × RV)),q = (2,.sv (Aq (W6 n).rs y0)) :: q0 /\ ∃ (y1:HL (Ou n).rs) (q1:List (Nat × RV)),q0 = (4,.sv (Aq (Ou n).rs y1)) :: q1 /\ ∃ (y2:HL (Oz n).rs) (q2:List (Nat × RV)),q1 = (6,.sv (Aq (Oz n).rs y2)) :: q2 /\ ∃ (y3:HL (Hp n).rs) (q3:List (Nat × RV)),q2 = (7,.sv (Aq (Hp n).rs y3)) :: q3 /\ ∃ (y4:HL (Q2 n).rs) (q4:List (Nat × RV)),q3 = (9,.sv (Aq (Q2 n).rs y4)) :: q4 /\ q4 = []):=by kernel_rfl
 rw [e] at hq;obtain ⟨y0,q0,rfl,y1,q1,rfl,y2,q2,rfl,y3,q3,rfl,y4,q4,rfl,rfl⟩:=hq
 all_goals exact .inr ⟨6,by kernel_rfl,by kernel_rfl,by kernel_rfl⟩
theorem At6 (α:Type) (n:Nat):Al PP (Ah (At7 α n).reg):=⟨B43 n,B1n n,B2b n,X3 n,Ap2 n,B29 n,X3 n,Ap2 n,trivial⟩
theorem B76 (α:Type) (n:Nat):D3.OK PP TT ⟨30,[]⟩ (At7 α n) (A1 Tryz.f103) :=
 D3.OK.mk3a (At6 α n) (show Aa (A1 Tryz.f103) = [] by kernel_rfl) trivial (show Ax (A1 Tryz.f103) = [(1,Af ((A1 Tryz.f103).at [1,0]))] by kernel_rfl) ⟨⟨B2f n,trivial⟩,trivial⟩
theorem Aiv (n:Nat):(Aee n).Sound PP:=fk (fn:=Tryz.f103) (B76 _ n)

def f126 (n:Nat) (a0:Int):Option Rq :=
 bif (decide (a0 < 0)) then
  ob (f179 n (W (0 - a0))) fun a =>
  ob (f180 n) fun b =>
  some (true,a,b)
 else
  ob (f179 n a0) fun c =>
  ob (f180 n) fun d =>
  some (false,c,d)
def B7 (n:Nat):Ent:=⟨126,[hI],[hR],fun x=>f126 n x⟩
def B6t (α:Type) (n:Nat):D3 α:={ reg:=[(2,⟨0,[],[(2,{ ent:=some (Jk n) }),(3,{ ent:=some (Oq n) })]⟩),(3,⟨0,[],[(1,{ ent:=some (Jk n) }),(2,{ ent:=some (Oq n) })]⟩)],join:=[],loop:=[] }
theorem C8 (n:Nat):(B7 n).Sound PP:=As (fn:=Tryz.f126) (D:=B6t _ n) ⟨A5w n,Oo n,A5w n,Oo n,trivial⟩

def Aww {α:Type} (n:Nat) (b c:Int) (a:LR) (f:Int->Int->LR->Option α) (k0:LR->Option α):Option α :=
 bif (decide (c < b)) then
  ob (f126 n 0) fun d =>
  gd (decide ((a.length + 1) * 56 <= 140737488355328)) (
   f b (W (c + 1)) (a ++ [d]))
 else
  k0 a
abbrev Rm:Tm:=⟨[(3,.k (.hw 4)),(5,.d hI),(6,.d hI)],[(4,.arr 31 hR false)],[10],[]⟩
abbrev At9:Tm:=⟨[(3,.k (.hw 4))],[(4,.arr 31 hR false)],[],[]⟩
abbrev A1s:List (Exit × Tm):=[(.exit 0,At9)]
def A1r {α:Type} (n:Nat) (v:Rm.den) (f:Rm.den->Option α) (ks:KS α A1s):Option α:=Aww n v.1.2.1 v.1.2.2.1 v.2.1 (fun a b c=>f (((),a,b,()),(c,()))) (fun w0=>ks.1 (((),()),(w0,())))
def B2j {α:Type} (n m:Nat) (a b:Int) (c:LR) (k0:LR->Option α):Option α:=A5 (A1r n) m (((),a,b,()),(c,())) (fun w=>k0 w.2.1,())
def f100 (n:Nat) (a0:Int):Option LR :=
 B2j n n a0 0 []
  (fun a=>(
   some a))
def P2 (n:Nat):Ent:=⟨100,[hI],[hRs],fun x=>f100 n x⟩
def Aef (α:Type) (n:Nat):D3 α:={ reg:=[(1,⟨0,[],[(0,{ sh:=some hR })]⟩),(4,⟨0,[],[(1,{ ent:=some (B7 n) }),(2,{ sh:=some hR })]⟩)],join:=[],loop:=[(3,⟨Rm,A1s,A5 (A1r n) n⟩)] }
theorem A8w (α:Type) (n:Nat):Al PP (Ah (Aef α n).reg):=⟨C8 n,trivial⟩
theorem Amh (α:Type) (n:Nat):LO.Sound (α:=α) PP ⟨14,[]⟩ ⟨Rm,A1s,A5 (A1r n) n⟩ (.loop ((A1 Tryz.f100).at [1,1,0,1,0,0])):=Bb (D:=Aef α n) (A8w α n) n
theorem B78 (α:Type) (n:Nat):D3.OK PP TT ⟨14,[]⟩ (Aef α n) (A1 Tryz.f100) :=
 D3.OK.mk3 (A8w α n) (show Aa (A1 Tryz.f100) = [(3,(.loop ((A1 Tryz.f100).at [1,1,0,1,0,0])))] by kernel_rfl) ⟨Ab rfl (Amh α n),trivial⟩
theorem B2i (n:Nat):(P2 n).Sound PP:=fk (fn:=Tryz.f100) (B78 _ n)

abbrev Ai9:Tm:=⟨[(2,.k (.hp 2 0 0)),(3,.k (.hp 3 0 0)),(4,.k (.hp 4 0 0))],[(2,.var 84 true false [.d hI,.d .nil]),(3,.var 31 true false [.d .bool,.d hIs,.d hIs]),(4,.var 81 true false [.d .bool,.d .nil,.d .nil,.d .nil,.d .nil,.d .bool,.d .nil,.d .nil])],[],[]⟩
def f190 (n:Nat) (a0:Int × Unit) (a1:Rq):Option (Rq × LR × Unit × Rq) :=
 ob (f100 n a0.1) fun a =>
 ob (f126 n 0) fun b =>
 some (a1,a,(),b)
def Arh (n:Nat):Ent:=⟨190,[(.st (.pair hI .nil)),hR],[(.st (.pair hR (.pair hRs (.pair .nil hR))))],fun x=>f190 n x.1 x.2⟩
def Ari (α:Type) (n:Nat):D3 α:={ reg:=[(1,⟨0,[],[(3,{ ent:=some (P2 n) }),(4,{ ent:=some (B7 n) })]⟩)],join:=[],loop:=[],any:=[(1,Ai9)] }
set_option maxHeartbeats 8000000 in
theorem B14 (n:Nat):B4 TT ⟨20,[]⟩ [(3,{ ent:=some (P2 n) }),(4,{ ent:=some (B7 n) })] Ai9 (Af ((A1 Tryz.f190).at [1,0])):=by
 refine ⟨by kernel_rfl,fun w q hq=>?_⟩
 have e:WT [(3,{ ent:=some (P2 n) }),(4,{ ent:=some (B7 n) })] (A9 (Af ((A1 Tryz.f190).at [1,0])).toList) q = (∃ (y0:HL (P2 n).rs) (q0:List (Nat × RV)),q = (3,.sv (Aq (P2 n).rs y0)) :: q0 /\ ∃ (y1:HL (B7 n).rs) (q1:List (Nat × RV)),q0 = (4,.sv (Aq (B7 n).rs y1)) :: q1 /\ q1 = []):=by kernel_rfl
 rw [e] at hq;obtain ⟨y0,q0,rfl,y1,q1,rfl,rfl⟩:=hq
 all_goals exact .inr ⟨7,by kernel_rfl,by kernel_rfl,by kernel_rfl⟩
theorem Arg (α:Type) (n:Nat):Al PP (Ah (Ari α n).reg):=⟨B2i n,C8 n,trivial⟩
theorem B5r (α:Type) (n:Nat):D3.OK PP TT ⟨20,[]⟩ (Ari α n) (A1 Tryz.f190) :=
 D3.OK.mk3a (Arg α n) (show Aa (A1 Tryz.f190) = [] by kernel_rfl) trivial (show Ax (A1 Tryz.f190) = [(1,Af ((A1 Tryz.f190).at [1,0]))] by kernel_rfl) ⟨⟨B14 n,trivial⟩,trivial⟩
theorem B13 (n:Nat):(Arh n).Sound PP:=fk (fn:=Tryz.f190) (B5r _ n)

def Ata {α:Type} (n:Nat) (b c:Int) (a:LR) (f:Int->Int->LR->Option α) (k0:LR->Option α):Option α :=
 bif (decide (c < b)) then
  ob (f126 n 0) fun d =>
  gd (decide ((a.length + 1) * 56 <= 140737488355328)) (
   f b (W (c + 1)) (a ++ [d]))
 else
  k0 a
abbrev N7:Tm:=⟨[(3,.k (.hw 4)),(5,.d hI),(6,.d hI)],[(4,.arr 31 hR false)],[10],[]⟩
abbrev Ami:Tm:=⟨[(3,.k (.hw 4))],[(4,.arr 31 hR false)],[],[]⟩
abbrev Uz:List (Exit × Tm):=[(.exit 0,Ami)]
def Uy {α:Type} (n:Nat) (v:N7.den) (f:N7.den->Option α) (ks:KS α Uz):Option α:=Ata n v.1.2.1 v.1.2.2.1 v.2.1 (fun a b c=>f (((),a,b,()),(c,()))) (fun w0=>ks.1 (((),()),(w0,())))
def Awy {α:Type} (n m:Nat) (a b:Int) (c:LR) (k0:LR->Option α):Option α:=A5 (Uy n) m (((),a,b,()),(c,())) (fun w=>k0 w.2.1,())
def Amj (n:Nat) (a0:Int):Option LR :=
 Awy n n a0 0 []
  (fun a=>(
   some a))
def Iu (n:Nat):Ent3:=⟨100,[.im hI],[[.one (.own 31 hR)]],fun x=>Amj n x⟩
def A64 (α:Type) (n:Nat):D3 α:={ reg:=[(1,⟨0,[],[(0,{ sh:=some hR })]⟩),(4,⟨0,[],[(1,{ ent:=some (B7 n) }),(2,{ sh:=some hR })]⟩)],join:=[],loop:=[(3,⟨N7,Uz,A5 (Uy n) n⟩)] }
theorem A3m (α:Type) (n:Nat):Al PP (Ah (A64 α n).reg):=⟨C8 n,trivial⟩
theorem Agg (α:Type) (n:Nat):LO.Sound (α:=α) PP ⟨14,[]⟩ ⟨N7,Uz,A5 (Uy n) n⟩ (.loop ((A1 Tryz.f100).at [1,1,0,1,0,0])):=Bb (D:=A64 α n) (A3m α n) n
theorem B2k (α:Type) (n:Nat):D3.OK PP TT ⟨14,[]⟩ (A64 α n) (A1 Tryz.f100) :=
 D3.OK.mk3 (A3m α n) (show Aa (A1 Tryz.f100) = [(3,(.loop ((A1 Tryz.f100).at [1,1,0,1,0,0])))] by kernel_rfl) ⟨Ab rfl (Agg α n),trivial⟩
theorem Awx (n:Nat):(Iu n).Sound PP:=O6 (fn:=Tryz.f100) (B2k _ n)

abbrev Adi:Tm:=⟨[(2,.k (.hp 2 0 0)),(3,.k (.hp 3 0 0)),(4,.k (.hp 4 0 0))],[(2,.var 84 true false [.d hI,.d .nil]),(3,.var 31 true false [.d .bool,.d hIs,.d hIs]),(4,.var 81 true false [.d .bool,.d .nil,.d .nil,.d .nil,.d .nil,.d .bool,.d .nil,.d .nil])],[],[]⟩
def Alr (n:Nat) (a0:Int × Unit) (a1:Rq):Option (Bool × LI × LI × LR × Unit × Bool × LI × LI) :=
 ob (Amj n a0.1) fun b =>
 ob (f126 n 0) fun a =>
 some (a1.1,a1.2.1,a1.2.2,b,(),a.1,a.2.1,a.2.2)
def Aia (n:Nat):Ent3:=⟨190,[.im (.st (.pair hI .nil)),.im hR],[[.mix [.im .bool,.im hIs,.im hIs,.own 31 hR,.im .nil,.im .bool,.im hIs,.im hIs]]],fun x=>Alr n x.1 x.2⟩
def Aib (α:Type) (n:Nat):D3 α:={ reg:=[(1,⟨0,[],[(3,{ entB:=some (Iu n),hb:=310 }),(4,{ ent:=some (B7 n) })]⟩)],join:=[],loop:=[],any:=[(1,Adi)] }
set_option maxHeartbeats 8000000 in
theorem Awm (n:Nat):B4 TT ⟨20,[]⟩ [(3,{ entB:=some (Iu n),hb:=310 }),(4,{ ent:=some (B7 n) })] Adi (Af ((A1 Tryz.f190).at [1,0])):=by
 refine ⟨by kernel_rfl,fun w q hq=>?_⟩
 have e:WT [(3,{ entB:=some (Iu n),hb:=310 }),(4,{ ent:=some (B7 n) })] (A9 (Af ((A1 Tryz.f190).at [1,0])).toList) q = (∃ (y0:HF (Aj 1000 (Iu n).ts) (Iu n).forms) (q0:List (Nat × RV)),q = (3,.bx (Iu n) y0) :: q0 /\ ∃ (y1:HL (B7 n).rs) (q1:List (Nat × RV)),q0 = (4,.sv (Aq (B7 n).rs y1)) :: q1 /\ q1 = []):=by kernel_rfl
 rw [e] at hq;obtain ⟨y0,q0,rfl,y1,q1,rfl,rfl⟩:=hq
 all_goals exact .inl (Jc.mk (by kernel_rfl))
theorem Alq (α:Type) (n:Nat):Al PP (Ah (Aib α n).reg):=⟨Awx n,C8 n,trivial⟩
theorem B15 (α:Type) (n:Nat):D3.OK PP TT ⟨20,[]⟩ (Aib α n) (A1 Tryz.f190) :=
 D3.OK.mk3a (Alq α n) (show Aa (A1 Tryz.f190) = [] by kernel_rfl) trivial (show Ax (A1 Tryz.f190) = [(1,Af ((A1 Tryz.f190).at [1,0]))] by kernel_rfl) ⟨⟨Awm n,trivial⟩,trivial⟩
theorem Awl (n:Nat):(Aia n).Sound PP:=O6 (fn:=Tryz.f190) (B15 _ n)

abbrev B12:Tm:=⟨[(2,.d hI),(3,.k (.hp 3 0 0)),(6,.k (.hp 6 0 0)),(7,.k (.hp 7 0 0))],[(3,.var 84 true false [.d hI,.d .nil]),(6,.var 81 true false [.d .bool,.d .nil,.d .nil,.d .nil,.d .nil,.d .bool,.d .nil,.d .nil]),(7,.var 81 false false [.d .bool,.d hIs,.d hIs,.k (.hw 313),.d .nil,.d .bool,.d hIs,.d hIs]),(313,.arr 31 hR false)],[4],[]⟩
def f191 (n:Nat) (a0:Int × Unit) (a1:Rq) (a2:Int):Option (Rq × LR × Unit × Rq) :=
 ob (Alr n a0 a1) fun a =>
 let b:=fun (c:LR)=>(
  some ((a.1,a.2.1,a.2.2.1),c,(),a.2.2.2.2.2))
 bif (decide (a2 < a0.1)) then
  ob (f126 n 1) fun d =>
  gd (decide (0 <= a2) && decide (a2 < (a.2.2.2.1.length:Int))) (
   gd (decide (a2.toNat < a.2.2.2.1.length)) (
    b (a.2.2.2.1.set a2.toNat d)))
 else
  b a.2.2.2.1
def Arf (n:Nat):Ent:=⟨191,[(.st (.pair hI .nil)),hR,hI],[(.st (.pair hR (.pair hRs (.pair .nil hR))))],fun x=>f191 n x.1 x.2.1 x.2.2⟩
def B5q (α:Type) (n:Nat):D3 α:={ reg:=[(1,⟨0,[],[(2,{ alt:=[(Aia n)],hb:=310 })]⟩),(3,⟨4,[],[(3,{ ent:=some (B7 n) })]⟩)],join:=[(4,B12)],loop:=[] }
theorem B11 (n:Nat):(Arf n).Sound PP:=As (fn:=Tryz.f191) (D:=B5q _ n) ⟨Awl n,C8 n,trivial⟩

def Zx {α:Type} (n:Nat) (d:LI) (b g e a:Int) (h:LI) (i j:Int) (c:LI) (f:LI->Int->Int->Int->Int->LI->Int->Int->LI->Option α) (k0:LI->LI->Int->Int->LI->Option α):Option α :=
 let k:=fun (_:Unit)=>(
  let l:=fun (m:Int)=>(
   gd (decide (0 <= (W (b + a))) && decide ((W (b + a)) < (c.length:Int))) (
    gd (decide ((W (b + a)).toNat < c.length)) (
     gd (decide (0 <= (W (b + a))) && decide ((W (b + a)) < (c.length:Int))) (
      gd (decide ((W (b + a)).toNat < c.length)) (
       f d b g (W (Int.tdiv (W (m + (c.getD ((W (b + a)).toNat) 0))) 10000)) (W (a + 1)) h i j (c.set ((W (b + a)).toNat) (Int.tmod (W (m + (c.getD ((W (b + a)).toNat) 0))) 10000)))))))
  bif (decide (a < (d.length:Int))) then
   gd (decide (0 <= a) && decide (a < (d.length:Int))) (
    l (W (e + (W (g * (d.getD a.toNat 0))))))
  else
   l e)
 bif (decide (a < (d.length:Int))) then
  k ()
 else
  bif (decide (e > 0)) then
   k ()
  else
   k0 d h i j c
abbrev Qr:Tm:=⟨[(1,.d hIs),(5,.k (.hw 15)),(6,.d hI),(7,.d hI),(8,.d hI),(9,.d hI),(16,.d hIs),(17,.d hI),(18,.d hI)],[(15,.arr 3 hI false)],[],[]⟩
abbrev Aqv:Tm:=⟨[(1,.d hIs),(5,.k (.hw 15)),(16,.d hIs),(17,.d hI),(18,.d hI)],[(15,.arr 3 hI false)],[],[]⟩
abbrev Zw:List (Exit × Tm):=[(.exit 2,Aqv)]
def Zv {α:Type} (n:Nat) (v:Qr.den) (f:Qr.den->Option α) (ks:KS α Zw):Option α:=Zx n v.1.1 v.1.2.2.1 v.1.2.2.2.1 v.1.2.2.2.2.1 v.1.2.2.2.2.2.1 v.1.2.2.2.2.2.2.1 v.1.2.2.2.2.2.2.2.1 v.1.2.2.2.2.2.2.2.2.1 v.2.1 (fun a b c d e g h i j=>f ((a,(),b,c,d,e,g,h,i,()),(j,()))) (fun w0 w1 w2 w3 w4=>ks.1 ((w0,(),w1,w2,w3,()),(w4,())))
def L3 {α:Type} (n m:Nat) (a:LI) (b c d e:Int) (f:LI) (g h:Int) (i:LI) (k0:LI->LI->Int->Int->LI->Option α):Option α:=A5 (Zv n) m ((a,(),b,c,d,e,f,g,h,()),(i,())) (fun w=>k0 w.1.1 w.1.2.2.1 w.1.2.2.2.1 w.1.2.2.2.2.1 w.2.1,())
theorem Aqu {α n m a b c d e f g h i k0}:L3 (α:=α) n (m + 1) a b c d e f g h i k0 = Zx n a b c d e f g h i (fun a b c d e f g h i=>L3 n m a b c d e f g h i k0) k0:=rfl
def A00 {α:Type} (n:Nat) (e b:LI) (c a:Int) (d:LI) (f:LI->LI->Int->Int->LI->Option α) (k0:LI->Option α):Option α :=
 bif (decide (a < c)) then
  gd (decide (0 <= a) && decide (a < (b.length:Int))) (
   L3 n n e a (b.getD a.toNat 0) 0 0 b c a d
    (fun g h i j k=>(
     f g h i (W (j + 1)) k)))
 else
  k0 d
abbrev Qs:Tm:=⟨[(1,.d hIs),(5,.k (.hw 15)),(16,.d hIs),(17,.d hI),(18,.d hI)],[(15,.arr 3 hI false)],[],[]⟩
abbrev Aqy:Tm:=⟨[(5,.k (.hw 15))],[(15,.arr 3 hI false)],[],[]⟩
abbrev Zz:List (Exit × Tm):=[(.exit 0,Aqy)]
def Zy {α:Type} (n:Nat) (v:Qs.den) (f:Qs.den->Option α) (ks:KS α Zz):Option α:=A00 n v.1.1 v.1.2.2.1 v.1.2.2.2.1 v.1.2.2.2.2.1 v.2.1 (fun a b c d e=>f ((a,(),b,c,d,()),(e,()))) (fun w0=>ks.1 (((),()),(w0,())))
def L4 {α:Type} (n m:Nat) (a b:LI) (c d:Int) (e:LI) (k0:LI->Option α):Option α:=A5 (Zy n) m ((a,(),b,c,d,()),(e,())) (fun w=>k0 w.2.1,())
theorem Aqw {α n m a b c d e k0}:L4 (α:=α) n (m + 1) a b c d e k0 = A00 n a b c d e (fun a b c d e=>L4 n m a b c d e k0) k0:=rfl
abbrev B0q:Tm:=⟨[(1,.d hIs),(5,.k (.hw 15)),(6,.d hI),(7,.d hI),(8,.d hI),(9,.d hI),(16,.d hIs),(17,.d hI),(18,.d hI)],[(15,.arr 3 hI false)],[],[]⟩
abbrev Awi:Tm:=⟨[(1,.d hIs),(5,.k (.hw 15)),(6,.d hI),(7,.d hI),(8,.d hI),(9,.d hI),(16,.d hIs),(17,.d hI),(18,.d hI)],[(15,.arr 3 hI false)],[],[]⟩
def f200 (n:Nat) (a0 a1:LI):Option LI :=
 gd (decide (0 <= (W ((a0.length:Int) + (a1.length:Int)))) && decide ((W ((a0.length:Int) + (a1.length:Int))) <= 4611686018427387904) && decide ((8:Int) * (W ((a0.length:Int) + (a1.length:Int))) <= 281474976710656)) (
  L4 n n a1 a0 (a0.length:Int) 0 (List.replicate ((W ((a0.length:Int) + (a1.length:Int))).toNat) 0)
   (fun a=>(
    ob (f225 n a) fun b =>
    some b)))
def G9 (n:Nat):Ent:=⟨200,[hIs,hIs],[hIs],fun x=>f200 n x.1 x.2⟩
def A38 (α:Type) (n:Nat):D3 α:={ reg:=[(14,⟨0,[],[(1,{ ent:=some (G7 n),fz:=[(63,hIs)] })]⟩)],join:=[(9,B0q),(11,Awi)],loop:=[(7,⟨Qr,Zw,A5 (Zv n) n⟩),(3,⟨Qs,Zz,A5 (Zy n) n⟩)] }
theorem Un (α:Type) (n:Nat):Al PP (Ah (A38 α n).reg):=⟨Ob n,trivial⟩
theorem Alk (α:Type) (n:Nat):LO.Sound (α:=α) PP ⟨65,[]⟩ ⟨Qr,Zw,A5 (Zv n) n⟩ (.loop ((A1 Tryz.f200).at [1,1,0,1,0,0,1,1,0,0,1,1,1,0,0])):=Bb (D:=A38 α n) (Un α n) n
theorem Aqx (α:Type) (n:Nat):D3.OK PP TT ⟨65,[]⟩ (A38 α n) ((A1 Tryz.f200).at [1,1,0,1,0,0]) :=
 D3.OK.mk3 (Un α n) (show Aa ((A1 Tryz.f200).at [1,1,0,1,0,0]) = [(7,(.loop ((A1 Tryz.f200).at [1,1,0,1,0,0,1,1,0,0,1,1,1,0,0])))] by kernel_rfl) ⟨Ab rfl (Alk α n),trivial⟩
theorem All (α:Type) (n:Nat):LO.Sound (α:=α) PP ⟨65,[]⟩ ⟨Qs,Zz,A5 (Zy n) n⟩ (.loop ((A1 Tryz.f200).at [1,1,0,1,0,0])):=lk (Aqx α n) n
theorem B5h (α:Type) (n:Nat):D3.OK PP TT ⟨65,[]⟩ (A38 α n) (A1 Tryz.f200) :=
 D3.OK.mk3 (Un α n) (show Aa (A1 Tryz.f200) = [(3,(.loop ((A1 Tryz.f200).at [1,1,0,1,0,0])))] by kernel_rfl) ⟨Ab rfl (All α n),trivial⟩
theorem Fo (n:Nat):(G9 n).Sound PP:=fk (fn:=Tryz.f200) (B5h _ n)

def Zu {α:Type} (n:Nat) (b c:LI) (d a:Int) (e:LI) (f:LI->LI->Int->Int->LI->Option α) (k0:LI->Option α):Option α :=
 let g:=fun (_:Unit)=>(
  let h:=fun (i:Int)=>(
   let j:=fun (k:Int)=>(
    gd (decide ((e.length + 1) * 8 <= 140737488355328)) (
     f b c (W (Int.tdiv k 10000)) (W (a + 1)) (e ++ [(Int.tmod k 10000)])))
   bif (decide (a < (c.length:Int))) then
    gd (decide (0 <= a) && decide (a < (c.length:Int))) (
     j (W (i + (c.getD a.toNat 0))))
   else
    j i)
  bif (decide (a < (b.length:Int))) then
   gd (decide (0 <= a) && decide (a < (b.length:Int))) (
    h (W (d + (b.getD a.toNat 0))))
  else
   h d)
 bif (decide (a < (max (b.length:Int) (c.length:Int)))) then
  g ()
 else
  bif (decide (d > 0)) then
   g ()
  else
   k0 e
abbrev Qq:Tm:=⟨[(0,.d hIs),(1,.d hIs),(5,.k (.hw 8)),(6,.d hI),(7,.d hI)],[(8,.arr 3 hI false)],[45],[]⟩
abbrev Aqs:Tm:=⟨[(5,.k (.hw 8))],[(8,.arr 3 hI false)],[],[]⟩
abbrev Zt:List (Exit × Tm):=[(.exit 0,Aqs)]
def Zs {α:Type} (n:Nat) (v:Qq.den) (f:Qq.den->Option α) (ks:KS α Zt):Option α:=Zu n v.1.1 v.1.2.1 v.1.2.2.2.1 v.1.2.2.2.2.1 v.2.1 (fun a b c d e=>f ((a,b,(),c,d,()),(e,()))) (fun w0=>ks.1 (((),()),(w0,())))
def Kz {α:Type} (n m:Nat) (a b:LI) (c d:Int) (e:LI) (k0:LI->Option α):Option α:=A5 (Zs n) m ((a,b,(),c,d,()),(e,())) (fun w=>k0 w.2.1,())
theorem Aqr {α n m a b c d e k0}:Kz (α:=α) n (m + 1) a b c d e k0 = Zu n a b c d e (fun a b c d e=>Kz n m a b c d e k0) k0:=rfl
abbrev B0n:Tm:=⟨[(0,.d hIs),(1,.d hIs),(5,.k (.hw 8)),(6,.d hI),(7,.d hI)],[(8,.arr 3 hI false)],[],[]⟩
abbrev B0m:Tm:=⟨[(0,.d hIs),(1,.d hIs),(5,.k (.hw 8)),(6,.d hI),(7,.d hI)],[(8,.arr 3 hI false)],[],[]⟩
abbrev B0l:Tm:=⟨[(0,.d hIs),(1,.d hIs),(5,.k (.hw 8)),(6,.d hI),(7,.d hI)],[(8,.arr 3 hI false)],[],[]⟩
def f202 (n:Nat) (a0 a1:LI):Option LI :=
 Kz n n a0 a1 0 0 []
  (fun a=>(
   some a))
def Aqt (n:Nat):Ent:=⟨202,[hIs,hIs],[hIs],fun x=>f202 n x.1 x.2⟩
def Ada (α:Type) (n:Nat):D3 α:={ reg:=[(1,⟨0,[],[(0,{ sh:=some hI })]⟩),(9,⟨0,[],[(3,{ sh:=some hI })]⟩)],join:=[(5,B0n),(7,B0m),(9,B0l)],loop:=[(3,⟨Qq,Zt,A5 (Zs n) n⟩)] }
theorem A80 (α:Type) (n:Nat):Al PP (Ah (Ada α n).reg):=trivial
theorem Alj (α:Type) (n:Nat):LO.Sound (α:=α) PP ⟨50,[]⟩ ⟨Qq,Zt,A5 (Zs n) n⟩ (.loop ((A1 Tryz.f202).at [1,1,0,1,0,0])):=Bb (D:=Ada α n) (A80 α n) n
theorem B5f (α:Type) (n:Nat):D3.OK PP TT ⟨50,[]⟩ (Ada α n) (A1 Tryz.f202) :=
 D3.OK.mk3 (A80 α n) (show Aa (A1 Tryz.f202) = [(3,(.loop ((A1 Tryz.f202).at [1,1,0,1,0,0])))] by kernel_rfl) ⟨Ab rfl (Alj α n),trivial⟩
theorem B0k (n:Nat):(Aqt n).Sound PP:=fk (fn:=Tryz.f202) (B5f _ n)

abbrev B0o:Tm:=⟨[(0,.d .bool),(1,.d hIs),(2,.d hIs),(6,.k (.hp 6 0 0))],[(6,.var 31 true false [.d .bool,.d .nil,.d .nil])],[],[]⟩
def f201 (n:Nat) (a0:Bool) (a1 a2:LI):Option Rq :=
 let c:=fun (a:LI) (d:LI)=>(
  bif a0 then
   ob (f117 n a) fun e =>
   ob (f117 n d) fun f =>
   some ((decide ((a.length:Int) > 0)),e,f)
  else
   ob (f117 n a) fun g =>
   ob (f117 n d) fun h =>
   some (false,g,h))
 ob (f226 n a1 a2) fun b =>
 ob (f180 n) fun i =>
 ob (f203 n b i) fun j =>
 bif (j != 0) then
  ob (f227 n a1 b) fun k =>
  ob (f227 n a2 b) fun l =>
  c k.1 l.1
 else
  c a1 a2
def Oh (n:Nat):Ent:=⟨201,[.bool,hIs,hIs],[hR],fun x=>f201 n x.1 x.2.1 x.2.2⟩
def B5g (α:Type) (n:Nat):D3 α:={ reg:=[(1,⟨0,[],[(2,{ ent:=some (Acy n) })]⟩),(2,⟨0,[],[(1,{ ent:=some (Oq n) }),(2,{ ent:=some (Um n) })]⟩),(3,⟨0,[],[(2,{ ent:=some (A30 n) })]⟩),(4,⟨0,[],[(2,{ ent:=some (A30 n) })]⟩),(5,⟨0,[],[(7,{ ent:=some (Jl n) }),(9,{ ent:=some (Jl n) })]⟩)],join:=[(5,B0o)],loop:=[] }
theorem Og (n:Nat):(Oh n).Sound PP:=As (fn:=Tryz.f201) (D:=B5g _ n) ⟨Ahp n,Oo n,Wm n,A5p n,A5p n,Ir n,Ir n,trivial⟩

def Zq {α:Type} (n:Nat) (c:LI) (g d a:Int) (b:LI) (f:LI->Int->Int->Int->LI->Option α) (k0:LI->Option α):Option α :=
 bif (decide (a < d)) then
  gd (decide (0 <= a) && decide (a < (b.length:Int))) (
   gd (decide (a.toNat < b.length)) (
    let h:=fun (e:Int)=>(
     bif (decide (e < 0)) then
      gd (decide (0 <= a) && decide (a < (b.length:Int))) (
       gd (decide (a.toNat < b.length)) (
        f c 1 d (W (a + 1)) (b.set a.toNat (W (e + 10000)))))
     else
      gd (decide (0 <= a) && decide (a < (b.length:Int))) (
       gd (decide (a.toNat < b.length)) (
        f c 0 d (W (a + 1)) (b.set a.toNat e))))
    bif (decide (a < (c.length:Int))) then
     gd (decide (0 <= a) && decide (a < (c.length:Int))) (
      h (W ((W ((b.getD a.toNat 0) - g)) - (c.getD a.toNat 0))))
    else
     h (W ((b.getD a.toNat 0) - g))))
 else
  k0 b
abbrev Qo:Tm:=⟨[(1,.d hIs),(5,.k (.hw 310)),(6,.d hI),(12,.d hI),(13,.d hI)],[(310,.arr 3 hI false)],[],[]⟩
abbrev Aql:Tm:=⟨[(5,.k (.hw 310))],[(310,.arr 3 hI false)],[],[]⟩
abbrev Zp:List (Exit × Tm):=[(.exit 0,Aql)]
def Zo {α:Type} (n:Nat) (v:Qo.den) (f:Qo.den->Option α) (ks:KS α Zp):Option α:=Zq n v.1.1 v.1.2.2.1 v.1.2.2.2.1 v.1.2.2.2.2.1 v.2.1 (fun a b c d e=>f ((a,(),b,c,d,()),(e,()))) (fun w0=>ks.1 (((),()),(w0,())))
def H3 {α:Type} (n m:Nat) (a:LI) (b c d:Int) (e:LI) (k0:LI->Option α):Option α:=A5 (Zo n) m ((a,(),b,c,d,()),(e,())) (fun w=>k0 w.2.1,())
theorem Aqk {α n m a b c d e k0}:H3 (α:=α) n (m + 1) a b c d e k0 = Zq n a b c d e (fun a b c d e=>H3 n m a b c d e k0) k0:=rfl
abbrev B0i:Tm:=⟨[(1,.d hIs),(5,.k (.hw 310)),(7,.d hI),(8,.d hI),(12,.d hI),(13,.d hI)],[(310,.arr 3 hI false)],[],[]⟩
def f204 (n:Nat) (a0 a1:LI):Option LI :=
 ob (Kl n a0) fun a =>
 H3 n n a1 0 (a.length:Int) 0 a
  (fun b=>(
   ob (f225 n b) fun c =>
   some c))
def Ad8 (n:Nat):Ent:=⟨204,[hIs,hIs],[hIs],fun x=>f204 n x.1 x.2⟩
def Ad9 (α:Type) (n:Nat):D3 α:={ reg:=[(1,⟨0,[],[(1,{ entB:=some (H4 n),hb:=310 })]⟩),(13,⟨0,[],[(1,{ ent:=some (G7 n),fz:=[(41,hIs)] })]⟩)],join:=[(8,B0i)],loop:=[(3,⟨Qo,Zp,A5 (Zo n) n⟩)] }
theorem A7z (α:Type) (n:Nat):Al PP (Ah (Ad9 α n).reg):=⟨A1h n,Ob n,trivial⟩
theorem Alf (α:Type) (n:Nat):LO.Sound (α:=α) PP ⟨43,[]⟩ ⟨Qo,Zp,A5 (Zo n) n⟩ (.loop ((A1 Tryz.f204).at [1,1,0,1,0,0])):=Bb (D:=Ad9 α n) (A7z α n) n
theorem B5d (α:Type) (n:Nat):D3.OK PP TT ⟨43,[]⟩ (Ad9 α n) (A1 Tryz.f204) :=
 D3.OK.mk3 (A7z α n) (show Aa (A1 Tryz.f204) = [(3,(.loop ((A1 Tryz.f204).at [1,1,0,1,0,0])))] by kernel_rfl) ⟨Ab rfl (Alf α n),trivial⟩
theorem Ahw (n:Nat):(Ad8 n).Sound PP:=fk (fn:=Tryz.f204) (B5d _ n)

def f161 (n:Nat) (a0 a1:Rq):Option Rq :=
 ob (f200 n a0.2.1 a1.2.2) fun a =>
 ob (f200 n a1.2.1 a0.2.2) fun b =>
 ob (f200 n a0.2.2 a1.2.2) fun c =>
 bif (a0.1 == a1.1) then
  ob (f202 n a b) fun d =>
  ob (f201 n a0.1 d c) fun e =>
  some e
 else
  ob (f203 n a b) fun f =>
  bif (decide (f >= 0)) then
   ob (f204 n a b) fun g =>
   ob (f201 n a0.1 g c) fun h =>
   some h
  else
   ob (f204 n b a) fun i =>
   ob (f201 n a1.1 i c) fun j =>
   some j
def Ar (n:Nat):Ent:=⟨161,[hR,hR],[hR],fun x=>f161 n x.1 x.2⟩
def B6b (α:Type) (n:Nat):D3 α:={ reg:=[(1,⟨9,[],[(4,{ ent:=some (G9 n) }),(9,{ ent:=some (G9 n) })]⟩),(2,⟨0,[],[(4,{ ent:=some (G9 n) })]⟩),(4,⟨6,[],[(4,{ ent:=some (Aqt n) }),(6,{ ent:=some (Oh n) })]⟩),(5,⟨0,[],[(2,{ ent:=some (Um n) })]⟩),(6,⟨6,[],[(4,{ ent:=some (Ad8 n) }),(6,{ ent:=some (Oh n) })]⟩),(7,⟨6,[],[(4,{ ent:=some (Ad8 n) }),(6,{ ent:=some (Oh n) })]⟩)],join:=[],loop:=[] }
theorem Ov (n:Nat):(Ar n).Sound PP:=As (fn:=Tryz.f161) (D:=B6b _ n) ⟨Fo n,Fo n,Fo n,B0k n,Og n,Wm n,Ahw n,Og n,Ahw n,Og n,trivial⟩

def Awk {α:Type} (n:Nat) (b:LR) (e a:Int) (p:Bool) (q r:LI) (s:LR) (t:Bool) (u v:LI) (w:Bool) (x y:LI) (c:LR) (z:Bool) (d0 d1:LI) (g h i:Bool) (j k:LI) (l:Bool) (m o:LI) (d:LR) (f:LR->Int->Int->Bool->LI->LI->LR->Bool->LI->LI->Bool->LI->LI->LR->Bool->LI->LI->Bool->Bool->Bool->LI->LI->Bool->LI->LI->LR->Option α) (k0:Bool->Bool->Bool->LI->LI->Bool->LI->LI->LR->Option α):Option α :=
 bif (decide (a < e)) then
  gd (decide (0 <= a) && decide (a < (b.length:Int))) (
   let d2:=b.getD a.toNat (false,[],[])
   gd (decide (0 <= a) && decide (a < (c.length:Int))) (
    let d3:=c.getD a.toNat (false,[],[])
    ob (f161 n d2 d3) fun d4 =>
    gd (decide ((d.length + 1) * 56 <= 140737488355328)) (
     f b e (W (a + 1)) p q r s t u v w x y c z d0 d1 g h i j k l m o (d ++ [d4]))))
 else
  k0 g h i j k l m o d
abbrev Qw:Tm:=⟨[(2,.k (.hp 2 0 0)),(3,.k (.hp 3 0 0)),(4,.k (.hp 4 0 0)),(5,.k (.hp 5 0 0)),(20,.d hRs),(21,.d hI),(22,.d hI)],[(2,.var 81 true false [.d .bool,.d hIs,.d hIs,.d hRs,.d .nil,.d .bool,.d hIs,.d hIs]),(3,.var 81 true false [.d .bool,.d hIs,.d hIs,.d hRs,.d .nil,.d .bool,.d hIs,.d hIs]),(4,.var 81 true false [.d .bool,.d .nil,.d .nil,.d .nil,.d .nil,.d .bool,.d .nil,.d .nil]),(5,.var 81 false false [.d .bool,.d hIs,.d hIs,.k (.hw 37),.d .nil,.d .bool,.d hIs,.d hIs]),(37,.arr 31 hR false)],[7,36],[]⟩
abbrev Are:Tm:=⟨[(4,.k (.hp 4 0 0)),(5,.k (.hp 5 0 0))],[(4,.var 81 true false [.d .bool,.d .nil,.d .nil,.d .nil,.d .nil,.d .bool,.d .nil,.d .nil]),(5,.var 81 false false [.d .bool,.d hIs,.d hIs,.k (.hw 37),.d .nil,.d .bool,.d hIs,.d hIs]),(37,.arr 31 hR false)],[2,3],[]⟩
abbrev A0a:List (Exit × Tm):=[(.exit 0,Are)]
def A09 {α:Type} (n:Nat) (v:Qw.den) (f:Qw.den->Option α) (ks:KS α A0a):Option α:=Awk n v.1.2.2.2.2.1 v.1.2.2.2.2.2.1 v.1.2.2.2.2.2.2.1 v.2.1.1 v.2.1.2.1 v.2.1.2.2.1 v.2.1.2.2.2.1 v.2.1.2.2.2.2.2.1 v.2.1.2.2.2.2.2.2.1 v.2.1.2.2.2.2.2.2.2.1 v.2.2.1.1 v.2.2.1.2.1 v.2.2.1.2.2.1 v.2.2.1.2.2.2.1 v.2.2.1.2.2.2.2.2.1 v.2.2.1.2.2.2.2.2.2.1 v.2.2.1.2.2.2.2.2.2.2.1 v.2.2.2.1.1 v.2.2.2.1.2.2.2.2.2.1 v.2.2.2.2.1.1 v.2.2.2.2.1.2.1 v.2.2.2.2.1.2.2.1 v.2.2.2.2.1.2.2.2.2.2.1 v.2.2.2.2.1.2.2.2.2.2.2.1 v.2.2.2.2.1.2.2.2.2.2.2.2.1 v.2.2.2.2.2.1 (fun a b c d e g h i j k l m o p q r s t u w x y z d0 d1 d2=>f (((),(),(),(),a,b,c,()),((d,e,g,h,(),i,j,k,()),(l,m,o,p,(),q,r,s,()),(t,(),(),(),(),u,(),(),()),(w,x,y,(),(),z,d0,d1,()),d2,()))) (fun w0 w1 w2 w3 w4 w5 w6 w7 w8=>ks.1 (((),(),()),((w0,(),(),(),(),w1,(),(),()),(w2,w3,w4,(),(),w5,w6,w7,()),w8,())))
def B0z {α:Type} (n m:Nat) (a:LR) (b c:Int) (d:Bool) (e f:LI) (g:LR) (h:Bool) (i j:LI) (k:Bool) (l o:LI) (p:LR) (q:Bool) (r s:LI) (t u v:Bool) (x y:LI) (z:Bool) (d0 d1:LI) (d2:LR) (k0:Bool->Bool->Bool->LI->LI->Bool->LI->LI->LR->Option α):Option α:=A5 (A09 n) m (((),(),(),(),a,b,c,()),((d,e,f,g,(),h,i,j,()),(k,l,o,p,(),q,r,s,()),(t,(),(),(),(),u,(),(),()),(v,x,y,(),(),z,d0,d1,()),d2,())) (fun w=>k0 w.2.1.1 w.2.1.2.2.2.2.2.1 w.2.2.1.1 w.2.2.1.2.1 w.2.2.1.2.2.1 w.2.2.1.2.2.2.2.2.1 w.2.2.1.2.2.2.2.2.2.1 w.2.2.1.2.2.2.2.2.2.2.1 w.2.2.2.1,())
abbrev Ai7:Tm:=⟨[(2,.k (.hp 2 0 0)),(3,.k (.hp 3 0 0)),(4,.k (.hp 4 0 0))],[(2,.var 81 true false [.d .bool,.d hIs,.d hIs,.d hRs,.d .nil,.d .bool,.d hIs,.d hIs]),(3,.var 81 true false [.d .bool,.d hIs,.d hIs,.d hRs,.d .nil,.d .bool,.d hIs,.d hIs]),(4,.var 81 true false [.d .bool,.d .nil,.d .nil,.d .nil,.d .nil,.d .bool,.d .nil,.d .nil])],[],[]⟩
abbrev Ai6:Tm:=⟨[(2,.k (.hp 2 0 0)),(3,.k (.hp 3 0 0)),(4,.k (.hp 4 0 0)),(5,.k (.hp 5 0 0)),(6,.d hI),(7,.k (.hp 7 0 0)),(20,.d hRs),(21,.d hI),(22,.d hI)],[(2,.var 81 true false [.d .bool,.d hIs,.d hIs,.d hRs,.d .nil,.d .bool,.d hIs,.d hIs]),(3,.var 81 true false [.d .bool,.d hIs,.d hIs,.d hRs,.d .nil,.d .bool,.d hIs,.d hIs]),(4,.var 81 true false [.d .bool,.d .nil,.d .nil,.d .nil,.d .nil,.d .bool,.d .nil,.d .nil]),(5,.var 81 true false [.d .bool,.d hIs,.d hIs,.d .nil,.d .nil,.d .bool,.d hIs,.d hIs]),(7,.var 31 true false [.d .bool,.d hIs,.d hIs])],[],[]⟩
abbrev A88:Tm:=⟨[(2,.k (.hp 2 0 0)),(3,.k (.hp 3 0 0)),(4,.k (.hp 4 0 0)),(5,.k (.hp 5 0 0)),(6,.d hI),(7,.k (.hp 7 0 0)),(20,.d hRs),(21,.d hI),(22,.d hI)],[(2,.var 81 true false [.d .bool,.d hIs,.d hIs,.d hRs,.d .nil,.d .bool,.d hIs,.d hIs]),(3,.var 81 true false [.d .bool,.d hIs,.d hIs,.d hRs,.d .nil,.d .bool,.d hIs,.d hIs]),(4,.var 81 true false [.d .bool,.d .nil,.d .nil,.d .nil,.d .nil,.d .bool,.d .nil,.d .nil]),(5,.var 81 false false [.d .bool,.d hIs,.d hIs,.k (.hw 37),.d .nil,.d .bool,.d hIs,.d hIs]),(7,.var 31 true false [.d .bool,.d hIs,.d hIs]),(37,.arr 31 hR false)],[],[]⟩
def f192 (n:Nat) (a0 a1:Rq × LR × Unit × Rq):Option (Rq × LR × Unit × Rq) :=
 ob (f161 n a0.1 a1.1) fun a =>
 ob (f161 n a0.2.2.2 a1.2.2.2) fun b =>
 bif (decide (0 < (a0.2.1.length:Int))) then
  gd (decide (0 < (a0.2.1.length:Int))) (
   let c:=a0.2.1.getD 0 (false,[],[])
   gd (decide (0 < (a1.2.1.length:Int))) (
    let d:=a1.2.1.getD 0 (false,[],[])
    ob (f161 n c d) fun e =>
    B0z n n a0.2.1 (a0.2.1.length:Int) 1 a0.1.1 a0.1.2.1 a0.1.2.2 a0.2.1 a0.2.2.2.1 a0.2.2.2.2.1 a0.2.2.2.2.2 a1.1.1 a1.1.2.1 a1.1.2.2 a1.2.1 a1.2.2.2.1 a1.2.2.2.2.1 a1.2.2.2.2.2 false false a.1 a.2.1 a.2.2 b.1 b.2.1 b.2.2 [e]
     (fun m o f g h i j k l=>(
      some ((f,g,h),l,(),i,j,k)))))
 else
  some (a,[],(),b)
def Adg (n:Nat):Ent:=⟨192,[(.st (.pair hR (.pair hRs (.pair .nil hR)))),(.st (.pair hR (.pair hRs (.pair .nil hR))))],[(.st (.pair hR (.pair hRs (.pair .nil hR))))],fun x=>f192 n x.1 x.2⟩
def Adh (α:Type) (n:Nat):D3 α:={ reg:=[(1,⟨0,[],[(4,{ ent:=some (Ar n) }),(9,{ ent:=some (Ar n) })]⟩),(5,⟨0,[],[(8,{ ent:=some (Ar n) }),(9,{ sh:=some hR }),(10,{ sh:=some hR })]⟩)],join:=[],loop:=[(3,⟨Qw,A0a,A5 (A09 n) n⟩)],any:=[(1,Ai7),(5,Ai6),(5,A88)] }
set_option maxHeartbeats 8000000 in
theorem B10 (n:Nat):B4 TT ⟨60,[]⟩ [(4,{ ent:=some (Ar n) }),(9,{ ent:=some (Ar n) })] Ai7 (Af ((A1 Tryz.f192).at [1,0])):=by
 refine ⟨by kernel_rfl,fun w q hq=>?_⟩
 have e:WT [(4,{ ent:=some (Ar n) }),(9,{ ent:=some (Ar n) })] (A9 (Af ((A1 Tryz.f192).at [1,0])).toList) q = (∃ (y0:HL (Ar n).rs) (q0:List (Nat × RV)),q = (4,.sv (Aq (Ar n).rs y0)) :: q0 /\ ∃ (y1:HL (Ar n).rs) (q1:List (Nat × RV)),q0 = (9,.sv (Aq (Ar n).rs y1)) :: q1 /\ q1 = []):=by kernel_rfl
 rw [e] at hq;obtain ⟨y0,q0,rfl,y1,q1,rfl,rfl⟩:=hq
 all_goals exact .inr ⟨12,by kernel_rfl,by kernel_rfl,by kernel_rfl⟩
set_option maxHeartbeats 8000000 in
theorem Ai8 (n:Nat):B4 TT ⟨60,[]⟩ [(8,{ ent:=some (Ar n) }),(9,{ sh:=some hR }),(10,{ sh:=some hR })] Ai6 (Af ((A1 Tryz.f192).at [1,1,0,1,0,0,1,1,0,0,1,0])):=by
 refine ⟨by kernel_rfl,fun w q hq=>?_⟩
 have e:WT [(8,{ ent:=some (Ar n) }),(9,{ sh:=some hR }),(10,{ sh:=some hR })] (A9 (Af ((A1 Tryz.f192).at [1,1,0,1,0,0,1,1,0,0,1,0])).toList) q = (∃ (y0:HL (Ar n).rs) (q0:List (Nat × RV)),q = (8,.sv (Aq (Ar n).rs y0)) :: q0 /\ q0 = []):=by kernel_rfl
 rw [e] at hq;obtain ⟨y0,q0,rfl,rfl⟩:=hq
 all_goals exact .inr ⟨10,by kernel_rfl,by kernel_rfl,by kernel_rfl⟩
set_option maxHeartbeats 8000000 in
theorem A89 (n:Nat):B4 TT ⟨60,[]⟩ [(8,{ ent:=some (Ar n) }),(9,{ sh:=some hR }),(10,{ sh:=some hR })] A88 (Af ((A1 Tryz.f192).at [1,1,0,1,0,0,1,1,0,0,1,0])):=by
 refine ⟨by kernel_rfl,fun w q hq=>?_⟩
 have e:WT [(8,{ ent:=some (Ar n) }),(9,{ sh:=some hR }),(10,{ sh:=some hR })] (A9 (Af ((A1 Tryz.f192).at [1,1,0,1,0,0,1,1,0,0,1,0])).toList) q = (∃ (y0:HL (Ar n).rs) (q0:List (Nat × RV)),q = (8,.sv (Aq (Ar n).rs y0)) :: q0 /\ q0 = []):=by kernel_rfl
 rw [e] at hq;obtain ⟨y0,q0,rfl,rfl⟩:=hq
 all_goals exact .inr ⟨10,by kernel_rfl,by kernel_rfl,by kernel_rfl⟩
theorem A87 (α:Type) (n:Nat):Al PP (Ah (Adh α n).reg):=⟨Ov n,Ov n,Ov n,trivial⟩
theorem Ard (α:Type) (n:Nat):D3.OK PP TT ⟨60,[]⟩ (Adh α n) ((A1 Tryz.f192).at [1,1,0,1,0,0]) :=
 D3.OK.mk3a (A87 α n) (show Aa ((A1 Tryz.f192).at [1,1,0,1,0,0]) = [] by kernel_rfl) trivial (show Ax ((A1 Tryz.f192).at [1,1,0,1,0,0]) = [(5,Af ((A1 Tryz.f192).at [1,1,0,1,0,0,1,1,0,0,1,0])),(7,Af ((A1 Tryz.f192).at [1,1,0,1,0,0,1,1,0,0,1,1,1,0]))] by kernel_rfl) ⟨⟨Ai8 n,A89 n,trivial⟩,trivial,trivial⟩
theorem Alp (α:Type) (n:Nat):LO.Sound (α:=α) PP ⟨60,[]⟩ ⟨Qw,A0a,A5 (A09 n) n⟩ (.loop ((A1 Tryz.f192).at [1,1,0,1,0,0])):=lk (Ard α n) n
theorem B5p (α:Type) (n:Nat):D3.OK PP TT ⟨60,[]⟩ (Adh α n) (A1 Tryz.f192) :=
 D3.OK.mk3a (A87 α n) (show Aa (A1 Tryz.f192) = [(3,(.loop ((A1 Tryz.f192).at [1,1,0,1,0,0])))] by kernel_rfl) ⟨Ab rfl (Alp α n),trivial⟩ (show Ax (A1 Tryz.f192) = [(1,Af ((A1 Tryz.f192).at [1,0])),(5,Af ((A1 Tryz.f192).at [1,1,0,1,0,0,1,1,0,0,1,0])),(7,Af ((A1 Tryz.f192).at [1,1,0,1,0,0,1,1,0,0,1,1,1,0]))] by kernel_rfl) ⟨⟨B10 n,trivial⟩,⟨Ai8 n,A89 n,trivial⟩,trivial,trivial⟩
theorem Ai5 (n:Nat):(Adg n).Sound PP:=fk (fn:=Tryz.f192) (B5p _ n)

def f178 (n:Nat) (a0 a1:Rq):Option Rq :=
 ob (f200 n a0.2.1 a1.2.1) fun a =>
 ob (f200 n a0.2.2 a1.2.2) fun b =>
 ob (f201 n (!(a0.1 == a1.1)) a b) fun c =>
 some c
def Ak (n:Nat):Ent:=⟨178,[hR,hR],[hR],fun x=>f178 n x.1 x.2⟩
def B61 (α:Type) (n:Nat):D3 α:={ reg:=[(1,⟨15,[],[(9,{ ent:=some (G9 n) }),(14,{ ent:=some (G9 n) }),(15,{ ent:=some (Oh n) })]⟩)],join:=[],loop:=[] }
theorem C7 (n:Nat):(Ak n).Sound PP:=As (fn:=Tryz.f178) (D:=B61 _ n) ⟨Fo n,Fo n,Og n,trivial⟩

def f221 (n:Nat) (a0 a1:Rq):Option Rq :=
 ob (f178 n a0 a1) fun a =>
 some a
def G8 (n:Nat):Ent:=⟨221,[hR,(.ref hR)],[hR],fun x=>f221 n x.1 x.2⟩
def B52 (α:Type) (n:Nat):D3 α:={ reg:=[(1,⟨0,[],[(2,{ ent:=some (Ak n) })]⟩)],join:=[],loop:=[] }
theorem B05 (n:Nat):(G8 n).Sound PP:=As (fn:=Tryz.f221) (D:=B52 _ n) ⟨C7 n,trivial⟩

def Z9 {α:Type} (n:Nat) (d:Rq) (p:(Bool × LI × LI × LR × Unit × Bool × LI × LI) × Rq) (b:LR) (e a:Int) (q:Bool) (r s:LI) (t:LR) (u:Bool) (v w:LI) (g h i:Bool) (j k:LI) (l:Bool) (m o:LI) (c:LR) (f:Rq->((Bool × LI × LI × LR × Unit × Bool × LI × LI) × Rq)->LR->Int->Int->Bool->LI->LI->LR->Bool->LI->LI->Bool->Bool->Bool->LI->LI->Bool->LI->LI->LR->Option α) (k0:Bool->Bool->Bool->LI->LI->Bool->LI->LI->LR->Option α):Option α :=
 bif (decide (a < e)) then
  gd (decide (0 <= a) && decide (a < (b.length:Int))) (
   let x:=b.getD a.toNat (false,[],[])
   ob (f221 n x d) fun y =>
   gd (decide ((c.length + 1) * 56 <= 140737488355328)) (
    f d p b e (W (a + 1)) q r s t u v w g h i j k l m o (c ++ [y])))
 else
  k0 g h i j k l m o c
abbrev Ej:Tm:=⟨[(3,.d (.clo 221 (.ref hR))),(4,.d (.clo 222 (.pair (.ref (.st (.pair .bool (.pair hIs (.pair hIs (.pair hRs (.pair .nil (.pair .bool (.pair hIs hIs))))))))) (.ref hR)))),(5,.k (.hp 5 0 0)),(10,.k (.hp 10 0 0)),(11,.k (.hp 11 0 0)),(18,.d hRs),(19,.d hI),(20,.d hI)],[(5,.var 81 true false [.d .bool,.d hIs,.d hIs,.d hRs,.d .nil,.d .bool,.d hIs,.d hIs]),(10,.var 81 true false [.d .bool,.d .nil,.d .nil,.d .nil,.d .nil,.d .bool,.d .nil,.d .nil]),(11,.var 81 false false [.d .bool,.d hIs,.d hIs,.k (.hw 31),.d .nil,.d .bool,.d hIs,.d hIs]),(31,.arr 31 hR false)],[13,30],[]⟩
abbrev Xh:Tm:=⟨[(10,.k (.hp 10 0 0)),(11,.k (.hp 11 0 0))],[(10,.var 81 true false [.d .bool,.d .nil,.d .nil,.d .nil,.d .nil,.d .bool,.d .nil,.d .nil]),(11,.var 81 false false [.d .bool,.d hIs,.d hIs,.k (.hw 31),.d .nil,.d .bool,.d hIs,.d hIs]),(31,.arr 31 hR false)],[5],[]⟩
abbrev Gu:List (Exit × Tm):=[(.exit 0,Xh)]
def Gt {α:Type} (n:Nat) (v:Ej.den) (f:Ej.den->Option α) (ks:KS α Gu):Option α:=Z9 n v.1.1 v.1.2.1 v.1.2.2.2.2.2.1 v.1.2.2.2.2.2.2.1 v.1.2.2.2.2.2.2.2.1 v.2.1.1 v.2.1.2.1 v.2.1.2.2.1 v.2.1.2.2.2.1 v.2.1.2.2.2.2.2.1 v.2.1.2.2.2.2.2.2.1 v.2.1.2.2.2.2.2.2.2.1 v.2.2.1.1 v.2.2.1.2.2.2.2.2.1 v.2.2.2.1.1 v.2.2.2.1.2.1 v.2.2.2.1.2.2.1 v.2.2.2.1.2.2.2.2.2.1 v.2.2.2.1.2.2.2.2.2.2.1 v.2.2.2.1.2.2.2.2.2.2.2.1 v.2.2.2.2.1 (fun a b c d e g h i j k l m o p q r s t u w x=>f ((a,b,(),(),(),c,d,e,()),((g,h,i,j,(),k,l,m,()),(o,(),(),(),(),p,(),(),()),(q,r,s,(),(),t,u,w,()),x,()))) (fun w0 w1 w2 w3 w4 w5 w6 w7 w8=>ks.1 (((),(),()),((w0,(),(),(),(),w1,(),(),()),(w2,w3,w4,(),(),w5,w6,w7,()),w8,())))
def A34 {α:Type} (n m:Nat) (a:Rq) (b:(Bool × LI × LI × LR × Unit × Bool × LI × LI) × Rq) (c:LR) (d e:Int) (f:Bool) (g h:LI) (i:LR) (j:Bool) (k l:LI) (o p q:Bool) (r s:LI) (t:Bool) (u v:LI) (x:LR) (k0:Bool->Bool->Bool->LI->LI->Bool->LI->LI->LR->Option α):Option α:=A5 (Gt n) m ((a,b,(),(),(),c,d,e,()),((f,g,h,i,(),j,k,l,()),(o,(),(),(),(),p,(),(),()),(q,r,s,(),(),t,u,v,()),x,())) (fun w=>k0 w.2.1.1 w.2.1.2.2.2.2.2.1 w.2.2.1.1 w.2.2.1.2.1 w.2.2.1.2.2.1 w.2.2.1.2.2.2.2.2.1 w.2.2.1.2.2.2.2.2.2.1 w.2.2.1.2.2.2.2.2.2.2.1 w.2.2.2.1,())
abbrev N2:Tm:=⟨[(3,.d (.clo 221 (.ref hR))),(4,.d (.clo 222 (.pair (.ref (.st (.pair .bool (.pair hIs (.pair hIs (.pair hRs (.pair .nil (.pair .bool (.pair hIs hIs))))))))) (.ref hR)))),(5,.k (.hp 5 0 0)),(10,.k (.hp 10 0 0)),(11,.k (.hp 11 0 0)),(12,.d hI),(13,.k (.hp 13 0 0)),(18,.d hRs),(19,.d hI),(20,.d hI)],[(5,.var 81 true false [.d .bool,.d hIs,.d hIs,.d hRs,.d .nil,.d .bool,.d hIs,.d hIs]),(10,.var 81 true false [.d .bool,.d .nil,.d .nil,.d .nil,.d .nil,.d .bool,.d .nil,.d .nil]),(11,.var 81 true false [.d .bool,.d hIs,.d hIs,.d .nil,.d .nil,.d .bool,.d hIs,.d hIs]),(13,.var 31 true false [.d .bool,.d hIs,.d hIs])],[6,7],[]⟩
abbrev K8:Tm:=⟨[(3,.d (.clo 221 (.ref hR))),(4,.d (.clo 222 (.pair (.ref (.st (.pair .bool (.pair hIs (.pair hIs (.pair hRs (.pair .nil (.pair .bool (.pair hIs hIs))))))))) (.ref hR)))),(5,.k (.hp 5 0 0)),(10,.k (.hp 10 0 0)),(11,.k (.hp 11 0 0)),(12,.d hI),(13,.k (.hp 13 0 0)),(18,.d hRs),(19,.d hI),(20,.d hI)],[(5,.var 81 true false [.d .bool,.d hIs,.d hIs,.d hRs,.d .nil,.d .bool,.d hIs,.d hIs]),(10,.var 81 true false [.d .bool,.d .nil,.d .nil,.d .nil,.d .nil,.d .bool,.d .nil,.d .nil]),(11,.var 81 false false [.d .bool,.d hIs,.d hIs,.k (.hw 31),.d .nil,.d .bool,.d hIs,.d hIs]),(13,.var 31 true false [.d .bool,.d hIs,.d hIs]),(31,.arr 31 hR false)],[],[]⟩
def Uf (n:Nat) (a0:Rq × LR × Unit × Rq) (a1 a2 a3:Rq) (a4:(Bool × LI × LI × LR × Unit × Bool × LI × LI) × Rq):Option (Rq × LR × Unit × Rq) :=
 bif (decide (0 < (a0.2.1.length:Int))) then
  gd (decide (0 < (a0.2.1.length:Int))) (
   let a:=a0.2.1.getD 0 (false,[],[])
   ob (f221 n a a3) fun b =>
   A34 n n a3 a4 a0.2.1 (a0.2.1.length:Int) 1 a0.1.1 a0.1.2.1 a0.1.2.2 a0.2.1 a0.2.2.2.1 a0.2.2.2.2.1 a0.2.2.2.2.2 false false a1.1 a1.2.1 a1.2.2 a2.1 a2.2.1 a2.2.2 [b]
    (fun j k c d e f g h i=>(
     some ((c,d,e),i,(),f,g,h))))
 else
  some (a1,[],(),a2)
def Cw (n:Nat):Ent:=⟨220,[(.st (.pair hR (.pair hRs (.pair .nil hR)))),hR,hR,(.clo 221 (.ref hR)),(.clo 222 (.pair (.ref (.st (.pair .bool (.pair hIs (.pair hIs (.pair hRs (.pair .nil (.pair .bool (.pair hIs hIs))))))))) (.ref hR)))],[(.st (.pair hR (.pair hRs (.pair .nil hR))))],fun x=>Uf n x.1 x.2.1 x.2.2.1 x.2.2.2.1 x.2.2.2.2⟩
def Io (α:Type) (n:Nat):D3 α:={ reg:=[(5,⟨0,[],[(4,{ ent:=some (G8 n) }),(5,{ sh:=some hR }),(6,{ sh:=some hR })]⟩)],join:=[],loop:=[(3,⟨Ej,Gu,A5 (Gt n) n⟩)],any:=[(5,N2),(5,K8)] }
set_option maxHeartbeats 8000000 in
theorem N3 (n:Nat):B4 TT ⟨46,[]⟩ [(4,{ ent:=some (G8 n) }),(5,{ sh:=some hR }),(6,{ sh:=some hR })] N2 (Af ((A1 Tryz.f220).at [1,1,0,1,0,0,1,1,0,0,1,0])):=by
 refine ⟨by kernel_rfl,fun w q hq=>?_⟩
 have e:WT [(4,{ ent:=some (G8 n) }),(5,{ sh:=some hR }),(6,{ sh:=some hR })] (A9 (Af ((A1 Tryz.f220).at [1,1,0,1,0,0,1,1,0,0,1,0])).toList) q = (∃ (y0:HL (G8 n).rs) (q0:List (Nat × RV)),q = (4,.sv (Aq (G8 n).rs y0)) :: q0 /\ q0 = []):=by kernel_rfl
 rw [e] at hq;obtain ⟨y0,q0,rfl,rfl⟩:=hq
 all_goals exact .inr ⟨6,by kernel_rfl,by kernel_rfl,by kernel_rfl⟩
set_option maxHeartbeats 8000000 in
theorem K9 (n:Nat):B4 TT ⟨46,[]⟩ [(4,{ ent:=some (G8 n) }),(5,{ sh:=some hR }),(6,{ sh:=some hR })] K8 (Af ((A1 Tryz.f220).at [1,1,0,1,0,0,1,1,0,0,1,0])):=by
 refine ⟨by kernel_rfl,fun w q hq=>?_⟩
 have e:WT [(4,{ ent:=some (G8 n) }),(5,{ sh:=some hR }),(6,{ sh:=some hR })] (A9 (Af ((A1 Tryz.f220).at [1,1,0,1,0,0,1,1,0,0,1,0])).toList) q = (∃ (y0:HL (G8 n).rs) (q0:List (Nat × RV)),q = (4,.sv (Aq (G8 n).rs y0)) :: q0 /\ q0 = []):=by kernel_rfl
 rw [e] at hq;obtain ⟨y0,q0,rfl,rfl⟩:=hq
 all_goals exact .inr ⟨6,by kernel_rfl,by kernel_rfl,by kernel_rfl⟩
theorem K7 (α:Type) (n:Nat):Al PP (Ah (Io α n).reg):=⟨B05 n,trivial⟩
theorem Xg (α:Type) (n:Nat):D3.OK PP TT ⟨46,[]⟩ (Io α n) ((A1 Tryz.f220).at [1,1,0,1,0,0]) :=
 D3.OK.mk3a (K7 α n) (show Aa ((A1 Tryz.f220).at [1,1,0,1,0,0]) = [] by kernel_rfl) trivial (show Ax ((A1 Tryz.f220).at [1,1,0,1,0,0]) = [(5,Af ((A1 Tryz.f220).at [1,1,0,1,0,0,1,1,0,0,1,0])),(7,Af ((A1 Tryz.f220).at [1,1,0,1,0,0,1,1,0,0,1,1,1,0]))] by kernel_rfl) ⟨⟨N3 n,K9 n,trivial⟩,trivial,trivial⟩
theorem Ue (α:Type) (n:Nat):LO.Sound (α:=α) PP ⟨46,[]⟩ ⟨Ej,Gu,A5 (Gt n) n⟩ (.loop ((A1 Tryz.f220).at [1,1,0,1,0,0])):=lk (Xg α n) n
theorem A5r (α:Type) (n:Nat):D3.OK PP TT ⟨46,[]⟩ (Io α n) (A1 Tryz.f220) :=
 D3.OK.mk3a (K7 α n) (show Aa (A1 Tryz.f220) = [(3,(.loop ((A1 Tryz.f220).at [1,1,0,1,0,0])))] by kernel_rfl) ⟨Ab rfl (Ue α n),trivial⟩ (show Ax (A1 Tryz.f220) = [(5,Af ((A1 Tryz.f220).at [1,1,0,1,0,0,1,1,0,0,1,0])),(7,Af ((A1 Tryz.f220).at [1,1,0,1,0,0,1,1,0,0,1,1,1,0]))] by kernel_rfl) ⟨⟨N3 n,K9 n,trivial⟩,trivial,trivial⟩
theorem A33 (n:Nat):(Cw n).Sound PP:=fk (fn:=Tryz.f220) (A5r _ n)

abbrev Ai4:Tm:=⟨[(2,.k (.hp 2 0 0)),(3,.k (.hp 3 0 0)),(4,.k (.hp 4 0 0))],[(2,.var 81 true false [.d .bool,.d hIs,.d hIs,.d hRs,.d .nil,.d .bool,.d hIs,.d hIs]),(3,.var 31 true false [.d .bool,.d hIs,.d hIs]),(4,.var 81 true false [.d .bool,.d .nil,.d .nil,.d .nil,.d .nil,.d .bool,.d .nil,.d .nil])],[],[]⟩
def f193 (n:Nat) (a0:Rq × LR × Unit × Rq) (a1:Rq):Option (Rq × LR × Unit × Rq) :=
 ob (f178 n a0.1 a1) fun a =>
 ob (f178 n a0.2.2.2 a1) fun b =>
 ob (Uf n (a0.1,a0.2.1,(),a0.2.2.2) a b a1 ((a0.1.1,a0.1.2.1,a0.1.2.2,a0.2.1,(),a0.2.2.2),a1)) fun c =>
 some c
def Adf (n:Nat):Ent:=⟨193,[(.st (.pair hR (.pair hRs (.pair .nil hR)))),hR],[(.st (.pair hR (.pair hRs (.pair .nil hR))))],fun x=>f193 n x.1 x.2⟩
def Arc (α:Type) (n:Nat):D3 α:={ reg:=[(1,⟨0,[],[(4,{ ent:=some (Ak n) }),(8,{ ent:=some (Ak n) }),(9,{ sh:=some (.ref hR) }),(10,{ sh:=some (.pair (.ref (.st (.pair .bool (.pair hIs (.pair hIs (.pair hRs (.pair .nil (.pair .bool (.pair hIs hIs))))))))) (.ref hR)) }),(11,{ ent:=some (Cw n) })]⟩)],join:=[],loop:=[],any:=[(1,Ai4)] }
set_option maxHeartbeats 8000000 in
theorem B0y (n:Nat):B4 TT ⟨17,[]⟩ [(4,{ ent:=some (Ak n) }),(8,{ ent:=some (Ak n) }),(9,{ sh:=some (.ref hR) }),(10,{ sh:=some (.pair (.ref (.st (.pair .bool (.pair hIs (.pair hIs (.pair hRs (.pair .nil (.pair .bool (.pair hIs hIs))))))))) (.ref hR)) }),(11,{ ent:=some (Cw n) })] Ai4 (Af ((A1 Tryz.f193).at [1,0])):=by
 refine ⟨by kernel_rfl,fun w q hq=>?_⟩
 have e:WT [(4,{ ent:=some (Ak n) }),(8,{ ent:=some (Ak n) }),(9,{ sh:=some (.ref hR) }),(10,{ sh:=some (.pair (.ref (.st (.pair .bool (.pair hIs (.pair hIs (.pair hRs (.pair .nil (.pair .bool (.pair hIs hIs))))))))) (.ref hR)) }),(11,{ ent:=some (Cw n) })] (A9 (Af ((A1 Tryz.f193).at [1,0])).toList) q = (∃ (y0:HL (Ak n).rs) (q0:List (Nat × RV)),q = (4,.sv (Aq (Ak n).rs y0)) :: q0 /\ ∃ (y1:HL (Ak n).rs) (q1:List (Nat × RV)),q0 = (8,.sv (Aq (Ak n).rs y1)) :: q1 /\ ∃ (y2:HL (Cw n).rs) (q2:List (Nat × RV)),q1 = (11,.sv (Aq (Cw n).rs y2)) :: q2 /\ q2 = []):=by kernel_rfl
 rw [e] at hq;obtain ⟨y0,q0,rfl,y1,q1,rfl,y2,q2,rfl,rfl⟩:=hq
 all_goals exact .inl (Jc.mk (by kernel_rfl))
theorem Arb (α:Type) (n:Nat):Al PP (Ah (Arc α n).reg):=⟨C7 n,C7 n,A33 n,trivial⟩
theorem B5o (α:Type) (n:Nat):D3.OK PP TT ⟨17,[]⟩ (Arc α n) (A1 Tryz.f193) :=
 D3.OK.mk3a (Arb α n) (show Aa (A1 Tryz.f193) = [] by kernel_rfl) trivial (show Ax (A1 Tryz.f193) = [(1,Af ((A1 Tryz.f193).at [1,0]))] by kernel_rfl) ⟨⟨B0y n,trivial⟩,trivial⟩
theorem Ai3 (n:Nat):(Adf n).Sound PP:=fk (fn:=Tryz.f193) (B5o _ n)

def Awj {α:Type} (n:Nat) (b:LR) (e a:Int) (g:Bool) (h i:LI) (v:LR) (w:Bool) (x y:LI) (j:Bool) (k l:LI) (c:LR) (z:Bool) (d0 d1:LI) (m o p:Bool) (q r:LI) (s:Bool) (t u:LI) (d:LR) (f:LR->Int->Int->Bool->LI->LI->LR->Bool->LI->LI->Bool->LI->LI->LR->Bool->LI->LI->Bool->Bool->Bool->LI->LI->Bool->LI->LI->LR->Option α) (k0:Bool->Bool->Bool->LI->LI->Bool->LI->LI->LR->Option α):Option α :=
 bif (decide (a < e)) then
  gd (decide (0 <= a) && decide (a < (b.length:Int))) (
   let d2:=b.getD a.toNat (false,[],[])
   gd (decide (0 <= a) && decide (a < (c.length:Int))) (
    let d3:=c.getD a.toNat (false,[],[])
    ob (f178 n d2 (j,k,l)) fun d4 =>
    ob (f178 n (g,h,i) d3) fun d5 =>
    ob (f161 n d4 d5) fun d6 =>
    gd (decide ((d.length + 1) * 56 <= 140737488355328)) (
     f b e (W (a + 1)) g h i v w x y j k l c z d0 d1 m o p q r s t u (d ++ [d6]))))
 else
  k0 m o p q r s t u d
abbrev Qv:Tm:=⟨[(2,.k (.hp 2 0 0)),(3,.k (.hp 3 0 0)),(4,.k (.hp 4 0 0)),(5,.k (.hp 5 0 0)),(28,.d hRs),(29,.d hI),(30,.d hI)],[(2,.var 81 true false [.d .bool,.d hIs,.d hIs,.d hRs,.d .nil,.d .bool,.d hIs,.d hIs]),(3,.var 81 true false [.d .bool,.d hIs,.d hIs,.d hRs,.d .nil,.d .bool,.d hIs,.d hIs]),(4,.var 81 true false [.d .bool,.d .nil,.d .nil,.d .nil,.d .nil,.d .bool,.d .nil,.d .nil]),(5,.var 81 false false [.d .bool,.d hIs,.d hIs,.k (.hw 52),.d .nil,.d .bool,.d hIs,.d hIs]),(52,.arr 31 hR false)],[7,8,51],[]⟩
abbrev Ara:Tm:=⟨[(4,.k (.hp 4 0 0)),(5,.k (.hp 5 0 0))],[(4,.var 81 true false [.d .bool,.d .nil,.d .nil,.d .nil,.d .nil,.d .bool,.d .nil,.d .nil]),(5,.var 81 false false [.d .bool,.d hIs,.d hIs,.k (.hw 52),.d .nil,.d .bool,.d hIs,.d hIs]),(52,.arr 31 hR false)],[2,3],[]⟩
abbrev A08:List (Exit × Tm):=[(.exit 0,Ara)]
def A07 {α:Type} (n:Nat) (v:Qv.den) (f:Qv.den->Option α) (ks:KS α A08):Option α:=Awj n v.1.2.2.2.2.1 v.1.2.2.2.2.2.1 v.1.2.2.2.2.2.2.1 v.2.1.1 v.2.1.2.1 v.2.1.2.2.1 v.2.1.2.2.2.1 v.2.1.2.2.2.2.2.1 v.2.1.2.2.2.2.2.2.1 v.2.1.2.2.2.2.2.2.2.1 v.2.2.1.1 v.2.2.1.2.1 v.2.2.1.2.2.1 v.2.2.1.2.2.2.1 v.2.2.1.2.2.2.2.2.1 v.2.2.1.2.2.2.2.2.2.1 v.2.2.1.2.2.2.2.2.2.2.1 v.2.2.2.1.1 v.2.2.2.1.2.2.2.2.2.1 v.2.2.2.2.1.1 v.2.2.2.2.1.2.1 v.2.2.2.2.1.2.2.1 v.2.2.2.2.1.2.2.2.2.2.1 v.2.2.2.2.1.2.2.2.2.2.2.1 v.2.2.2.2.1.2.2.2.2.2.2.2.1 v.2.2.2.2.2.1 (fun a b c d e g h i j k l m o p q r s t u w x y z d0 d1 d2=>f (((),(),(),(),a,b,c,()),((d,e,g,h,(),i,j,k,()),(l,m,o,p,(),q,r,s,()),(t,(),(),(),(),u,(),(),()),(w,x,y,(),(),z,d0,d1,()),d2,()))) (fun w0 w1 w2 w3 w4 w5 w6 w7 w8=>ks.1 (((),(),()),((w0,(),(),(),(),w1,(),(),()),(w2,w3,w4,(),(),w5,w6,w7,()),w8,())))
def B0w {α:Type} (n m:Nat) (a:LR) (b c:Int) (d:Bool) (e f:LI) (g:LR) (h:Bool) (i j:LI) (k:Bool) (l o:LI) (p:LR) (q:Bool) (r s:LI) (t u v:Bool) (x y:LI) (z:Bool) (d0 d1:LI) (d2:LR) (k0:Bool->Bool->Bool->LI->LI->Bool->LI->LI->LR->Option α):Option α:=A5 (A07 n) m (((),(),(),(),a,b,c,()),((d,e,f,g,(),h,i,j,()),(k,l,o,p,(),q,r,s,()),(t,(),(),(),(),u,(),(),()),(v,x,y,(),(),z,d0,d1,()),d2,())) (fun w=>k0 w.2.1.1 w.2.1.2.2.2.2.2.1 w.2.2.1.1 w.2.2.1.2.1 w.2.2.1.2.2.1 w.2.2.1.2.2.2.2.2.1 w.2.2.1.2.2.2.2.2.2.1 w.2.2.1.2.2.2.2.2.2.2.1 w.2.2.2.1,())
abbrev Ai1:Tm:=⟨[(2,.k (.hp 2 0 0)),(3,.k (.hp 3 0 0)),(4,.k (.hp 4 0 0))],[(2,.var 81 true false [.d .bool,.d hIs,.d hIs,.d hRs,.d .nil,.d .bool,.d hIs,.d hIs]),(3,.var 81 true false [.d .bool,.d hIs,.d hIs,.d hRs,.d .nil,.d .bool,.d hIs,.d hIs]),(4,.var 81 true false [.d .bool,.d .nil,.d .nil,.d .nil,.d .nil,.d .bool,.d .nil,.d .nil])],[],[]⟩
abbrev Ai0:Tm:=⟨[(2,.k (.hp 2 0 0)),(3,.k (.hp 3 0 0)),(4,.k (.hp 4 0 0)),(5,.k (.hp 5 0 0)),(6,.d hI),(7,.k (.hp 7 0 0)),(8,.k (.hp 8 0 0)),(28,.d hRs),(29,.d hI),(30,.d hI)],[(2,.var 81 true false [.d .bool,.d hIs,.d hIs,.d hRs,.d .nil,.d .bool,.d hIs,.d hIs]),(3,.var 81 true false [.d .bool,.d hIs,.d hIs,.d hRs,.d .nil,.d .bool,.d hIs,.d hIs]),(4,.var 81 true false [.d .bool,.d .nil,.d .nil,.d .nil,.d .nil,.d .bool,.d .nil,.d .nil]),(5,.var 81 true false [.d .bool,.d hIs,.d hIs,.d .nil,.d .nil,.d .bool,.d hIs,.d hIs]),(7,.var 31 true false [.d .bool,.d hIs,.d hIs]),(8,.var 31 true false [.d .bool,.d hIs,.d hIs])],[],[]⟩
abbrev A85:Tm:=⟨[(2,.k (.hp 2 0 0)),(3,.k (.hp 3 0 0)),(4,.k (.hp 4 0 0)),(5,.k (.hp 5 0 0)),(6,.d hI),(7,.k (.hp 7 0 0)),(8,.k (.hp 8 0 0)),(28,.d hRs),(29,.d hI),(30,.d hI)],[(2,.var 81 true false [.d .bool,.d hIs,.d hIs,.d hRs,.d .nil,.d .bool,.d hIs,.d hIs]),(3,.var 81 true false [.d .bool,.d hIs,.d hIs,.d hRs,.d .nil,.d .bool,.d hIs,.d hIs]),(4,.var 81 true false [.d .bool,.d .nil,.d .nil,.d .nil,.d .nil,.d .bool,.d .nil,.d .nil]),(5,.var 81 false false [.d .bool,.d hIs,.d hIs,.k (.hw 52),.d .nil,.d .bool,.d hIs,.d hIs]),(7,.var 31 true false [.d .bool,.d hIs,.d hIs]),(8,.var 31 true false [.d .bool,.d hIs,.d hIs]),(52,.arr 31 hR false)],[],[]⟩
def f194 (n:Nat) (a0 a1:Rq × LR × Unit × Rq):Option (Rq × LR × Unit × Rq) :=
 ob (f178 n a0.1 a1.1) fun a =>
 ob (f178 n a0.2.2.2 a1.1) fun c =>
 ob (f178 n a0.1 a1.2.2.2) fun d =>
 ob (f161 n c d) fun b =>
 bif (decide (0 < (a0.2.1.length:Int))) then
  gd (decide (0 < (a0.2.1.length:Int))) (
   let e:=a0.2.1.getD 0 (false,[],[])
   gd (decide (0 < (a1.2.1.length:Int))) (
    let f:=a1.2.1.getD 0 (false,[],[])
    ob (f178 n e a1.1) fun g =>
    ob (f178 n a0.1 f) fun h =>
    ob (f161 n g h) fun i =>
    B0w n n a0.2.1 (a0.2.1.length:Int) 1 a0.1.1 a0.1.2.1 a0.1.2.2 a0.2.1 a0.2.2.2.1 a0.2.2.2.2.1 a0.2.2.2.2.2 a1.1.1 a1.1.2.1 a1.1.2.2 a1.2.1 a1.2.2.2.1 a1.2.2.2.2.1 a1.2.2.2.2.2 false false a.1 a.2.1 a.2.2 b.1 b.2.1 b.2.2 [i]
     (fun r s j k l m o p q=>(
      some ((j,k,l),q,(),m,o,p)))))
 else
  some (a,[],(),b)
def Add (n:Nat):Ent:=⟨194,[(.st (.pair hR (.pair hRs (.pair .nil hR)))),(.st (.pair hR (.pair hRs (.pair .nil hR))))],[(.st (.pair hR (.pair hRs (.pair .nil hR))))],fun x=>f194 n x.1 x.2⟩
def Ade (α:Type) (n:Nat):D3 α:={ reg:=[(1,⟨0,[],[(4,{ ent:=some (Ak n) }),(9,{ ent:=some (Ak n) }),(14,{ ent:=some (Ak n) }),(15,{ ent:=some (Ar n) })]⟩),(6,⟨0,[],[(5,{ ent:=some (Ak n) }),(9,{ ent:=some (Ak n) }),(10,{ ent:=some (Ar n) }),(11,{ sh:=some hR }),(12,{ sh:=some hR })]⟩)],join:=[],loop:=[(3,⟨Qv,A08,A5 (A07 n) n⟩)],any:=[(1,Ai1),(6,Ai0),(6,A85)] }
set_option maxHeartbeats 8000000 in
theorem B0x (n:Nat):B4 TT ⟨92,[]⟩ [(4,{ ent:=some (Ak n) }),(9,{ ent:=some (Ak n) }),(14,{ ent:=some (Ak n) }),(15,{ ent:=some (Ar n) })] Ai1 (Af ((A1 Tryz.f194).at [1,0])):=by
 refine ⟨by kernel_rfl,fun w q hq=>?_⟩
 have e:WT [(4,{ ent:=some (Ak n) }),(9,{ ent:=some (Ak n) }),(14,{ ent:=some (Ak n) }),(15,{ ent:=some (Ar n) })] (A9 (Af ((A1 Tryz.f194).at [1,0])).toList) q = (∃ (y0:HL (Ak n).rs) (q0:List (Nat × RV)),q = (4,.sv (Aq (Ak n).rs y0)) :: q0 /\ ∃ (y1:HL (Ak n).rs) (q1:List (Nat × RV)),q0 = (9,.sv (Aq (Ak n).rs y1)) :: q1 /\ ∃ (y2:HL (Ak n).rs) (q2:List (Nat × RV)),q1 = (14,.sv (Aq (Ak n).rs y2)) :: q2 /\ ∃ (y3:HL (Ar n).rs) (q3:List (Nat × RV)),q2 = (15,.sv (Aq (Ar n).rs y3)) :: q3 /\ q3 = []):=by kernel_rfl
 rw [e] at hq;obtain ⟨y0,q0,rfl,y1,q1,rfl,y2,q2,rfl,y3,q3,rfl,rfl⟩:=hq
 all_goals exact .inr ⟨18,by kernel_rfl,by kernel_rfl,by kernel_rfl⟩
set_option maxHeartbeats 8000000 in
theorem Ai2 (n:Nat):B4 TT ⟨92,[]⟩ [(5,{ ent:=some (Ak n) }),(9,{ ent:=some (Ak n) }),(10,{ ent:=some (Ar n) }),(11,{ sh:=some hR }),(12,{ sh:=some hR })] Ai0 (Af ((A1 Tryz.f194).at [1,1,0,1,0,0,1,1,0,0,1,1,0])):=by
 refine ⟨by kernel_rfl,fun w q hq=>?_⟩
 have e:WT [(5,{ ent:=some (Ak n) }),(9,{ ent:=some (Ak n) }),(10,{ ent:=some (Ar n) }),(11,{ sh:=some hR }),(12,{ sh:=some hR })] (A9 (Af ((A1 Tryz.f194).at [1,1,0,1,0,0,1,1,0,0,1,1,0])).toList) q = (∃ (y0:HL (Ak n).rs) (q0:List (Nat × RV)),q = (5,.sv (Aq (Ak n).rs y0)) :: q0 /\ ∃ (y1:HL (Ak n).rs) (q1:List (Nat × RV)),q0 = (9,.sv (Aq (Ak n).rs y1)) :: q1 /\ ∃ (y2:HL (Ar n).rs) (q2:List (Nat × RV)),q1 = (10,.sv (Aq (Ar n).rs y2)) :: q2 /\ q2 = []):=by kernel_rfl
 rw [e] at hq;obtain ⟨y0,q0,rfl,y1,q1,rfl,y2,q2,rfl,rfl⟩:=hq
 all_goals exact .inr ⟨12,by kernel_rfl,by kernel_rfl,by kernel_rfl⟩
set_option maxHeartbeats 8000000 in
theorem A86 (n:Nat):B4 TT ⟨92,[]⟩ [(5,{ ent:=some (Ak n) }),(9,{ ent:=some (Ak n) }),(10,{ ent:=some (Ar n) }),(11,{ sh:=some hR }),(12,{ sh:=some hR })] A85 (Af ((A1 Tryz.f194).at [1,1,0,1,0,0,1,1,0,0,1,1,0])):=by
 refine ⟨by kernel_rfl,fun w q hq=>?_⟩
 have e:WT [(5,{ ent:=some (Ak n) }),(9,{ ent:=some (Ak n) }),(10,{ ent:=some (Ar n) }),(11,{ sh:=some hR }),(12,{ sh:=some hR })] (A9 (Af ((A1 Tryz.f194).at [1,1,0,1,0,0,1,1,0,0,1,1,0])).toList) q = (∃ (y0:HL (Ak n).rs) (q0:List (Nat × RV)),q = (5,.sv (Aq (Ak n).rs y0)) :: q0 /\ ∃ (y1:HL (Ak n).rs) (q1:List (Nat × RV)),q0 = (9,.sv (Aq (Ak n).rs y1)) :: q1 /\ ∃ (y2:HL (Ar n).rs) (q2:List (Nat × RV)),q1 = (10,.sv (Aq (Ar n).rs y2)) :: q2 /\ q2 = []):=by kernel_rfl
 rw [e] at hq;obtain ⟨y0,q0,rfl,y1,q1,rfl,y2,q2,rfl,rfl⟩:=hq
 all_goals exact .inr ⟨12,by kernel_rfl,by kernel_rfl,by kernel_rfl⟩
theorem A84 (α:Type) (n:Nat):Al PP (Ah (Ade α n).reg):=⟨C7 n,C7 n,C7 n,Ov n,C7 n,C7 n,Ov n,trivial⟩
theorem Ar9 (α:Type) (n:Nat):D3.OK PP TT ⟨92,[]⟩ (Ade α n) ((A1 Tryz.f194).at [1,1,0,1,0,0]) :=
 D3.OK.mk3a (A84 α n) (show Aa ((A1 Tryz.f194).at [1,1,0,1,0,0]) = [] by kernel_rfl) trivial (show Ax ((A1 Tryz.f194).at [1,1,0,1,0,0]) = [(6,Af ((A1 Tryz.f194).at [1,1,0,1,0,0,1,1,0,0,1,1,0])),(8,Af ((A1 Tryz.f194).at [1,1,0,1,0,0,1,1,0,0,1,1,1,1,0,0])),(9,Af ((A1 Tryz.f194).at [1,1,0,1,0,0,1,1,0,0,1,1,1,1,0,1]))] by kernel_rfl) ⟨⟨Ai2 n,A86 n,trivial⟩,trivial,trivial,trivial⟩
theorem Alo (α:Type) (n:Nat):LO.Sound (α:=α) PP ⟨92,[]⟩ ⟨Qv,A08,A5 (A07 n) n⟩ (.loop ((A1 Tryz.f194).at [1,1,0,1,0,0])):=lk (Ar9 α n) n
theorem B5n (α:Type) (n:Nat):D3.OK PP TT ⟨92,[]⟩ (Ade α n) (A1 Tryz.f194) :=
 D3.OK.mk3a (A84 α n) (show Aa (A1 Tryz.f194) = [(3,(.loop ((A1 Tryz.f194).at [1,1,0,1,0,0])))] by kernel_rfl) ⟨Ab rfl (Alo α n),trivial⟩ (show Ax (A1 Tryz.f194) = [(1,Af ((A1 Tryz.f194).at [1,0])),(6,Af ((A1 Tryz.f194).at [1,1,0,1,0,0,1,1,0,0,1,1,0])),(8,Af ((A1 Tryz.f194).at [1,1,0,1,0,0,1,1,0,0,1,1,1,1,0,0])),(9,Af ((A1 Tryz.f194).at [1,1,0,1,0,0,1,1,0,0,1,1,1,1,0,1]))] by kernel_rfl) ⟨⟨B0x n,trivial⟩,⟨Ai2 n,A86 n,trivial⟩,trivial,trivial,trivial⟩
theorem Ahz (n:Nat):(Add n).Sound PP:=fk (fn:=Tryz.f194) (B5n _ n)

end Go.Ev
