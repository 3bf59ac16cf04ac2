/- DERIVED. An evaluator of code over abstract states: values, slots, boxes, single instructions. -/
import Derived.Tactics
import Derived.Laws.AppendOwn
import Derived.Laws.Append
import Derived.Below
import Derived.KernelRfl
import Derived.Orders
import Derived.RangeFuncNested
import Derived.RangeFuncLeaves
import Derived.LoopIn
import Derived.OrdersIn
import Derived.Laws.Tables
import Derived.Laws.Cells
import Derived.Laws.IdiomCopy
import Derived.Laws.Small
import Derived.Laws.Cover3
import Derived.Laws.StructEq
import Derived.Laws.MakeOwn
import Derived.Maps.AppendAt

set_option linter.all false
set_option linter.unusedVariables false
set_option linter.unusedSimpArgs false

/- DERIVED. Abstract values for Go's data, and what it means that a concrete value in a memory stands for one. -/
namespace Go.Ev
open Go
def QA:=@Option.some.inj
def QB:=@if_neg
def QC:=@if_pos
def QD:=@Nat.eq_of_beq_eq_true
def QE:=@Bool.cond_decide
def QF:=@Option.some.injEq
def QG:=@List.mem_append
def QH:=@Bool.and_eq_true
def QI:=@Option.map_eq_some_iff
def QJ:=@List.getD_eq_getElem?_getD
def QK:=@List.all_eq_true
def QL:=@Prod.mk.injEq
def QM:=@Int.toNat_natCast
def QN:=@List.getElem?_eq_getElem
def QO:=@decide_eq_true_eq
def QP:=@cond_false
def QQ:=@List.getElem?_map
def QR:=@decide_eq_false
def QS:=@decide_eq_true
def QT:=@List.map_cons
def QU:=@List.mem_singleton
def QV:=@Option.map_some
def QW:=@cond_true
def QX:=@List.mem_cons
def QY:=@List.length_cons
def QZ:=@Option.isSome_iff_exists
def ZA:=@List.length_map
def ZB:=@List.drop_of_length_le
def ZC:=@List.length_append
def ZD:=@List.getElem?_eq_some_iff
def ZE:=@List.map_congr_left
def ZF:=@Nat.le_refl
def ZG:=@List.getElem?_append_right
def ZH:=@List.getElem?_append_left
def ZI:=@List.mem_cons_of_mem
def ZJ:=@Bool.not_true
def ZK:=@List.mem_map
def ZL:=@List.any_eq_true
def ZM:=@List.length_nil
def ZN:=@List.mem_of_getElem?
def ZO:=@Bool.and_self
def ZP:=@List.append_assoc
def ZQ:=@Nat.le_trans
def ZR:=@List.drop_zero
def ZS:=@Nat.testBit_two_pow_sub_one
def ZT:=@Nat.lt_or_ge
def ZU:=@Array.getElem?_eq_some_iff
def ZV:=@decide_eq_false_iff_not
def ZW:=@Bool.not_false
def ZX:=@bne_self_eq_false
def ZY:=@congrArg
def ZZ:=@Bool.true_and
def XA:=@Bool.or_eq_true
def XB:=@Nat.lt_of_lt_of_le
def XC:=@List.map_map
def XD:=@Nat.blt_eq
def XE:=@Bool.cond_eq_ite
def XF:=@Nat.mul_le_mul
def XG:=@Bool.false_eq_true
def XH:=@Bool.not_eq_true'
def XI:=@Nat.mul_le_mul_left
def XJ:=@List.all_cons
def XK:=@Int.natAbs_natCast
def XL:=@Int.mul_le_mul_of_nonneg_left
def XM:=@List.getElem?_take
def XN:=@List.map_nil
def XO:=@Nat.le_of_ble_eq_true
def XP:=@List.mem_range
def XQ:=@Nat.pos_of_ne_zero
def XR:=@Bool.and_true
def XS:=@List.take_of_length_le
def XT:=@List.append_nil
def XU:=@List.length_pos_iff
def XV:=@List.drop_eq_getElem_cons
def XW:=@Int.natCast_mul
def XX:=@List.getElem?_replicate
def XY:=@Option.bind_some
def XZ:=@Int.natAbs_mul
def YA:=@List.mem_cons_self
def YB:=@List.all_map
def YC:=@Nat.beq_refl
def YD:=@List.cons_append
def YE:=@List.take_length
def YF:=@Nat.mul_le_mul_right
def YG:=@Nat.pow_le_pow_right
def YH:=@List.getElem?_drop
def YI:=@Nat.zero_add
def YJ:=@Bool.false_or
def YK:=@List.not_mem_nil
def YL:=@Nat.pow_succ
def YM:=@Int.natAbs_add_le
def YN:=@Option.getD_some
def YO:=@Array.getElem?_toList
def YP:=@List.any_eq_false
def YQ:=@Nat.add_mul
def YR:=@Int.tdiv_eq_ediv_of_nonneg
def YS:=@List.map_append
def YT:=@List.filter_cons
def YU:=@List.isEmpty_iff
def YV:=@List.eq_nil_of_length_eq_zero
def YW:=@Nat.eq_zero_or_pos
def YX:=@Option.bind_eq_some_iff
def YY:=@List.getElem?_zipIdx
def YZ:=@List.getElem?_of_mem
def KA:=@List.take_succ_eq_append_getElem
def KB:=@Option.isSome_map
def KC:=@Rat.intCast_natCast
def KD:=@List.getElem?_eq_none
def KE:=@Nat.add_zero
def KF:=@Prod.mk.inj
def KG:=@Nat.testBit_mod_two_pow
def KH:=@Array.getD_eq_getD_getElem?
def KI:=@false_and
def KJ:=@Nat.zero_le
def KK:=@Nat.mul_comm
def KL:=@Nat.mul_pos
def KM:=@List.map_drop
def KN:=@List.length_take
def KO:=@Nat.mod_eq_of_lt
def KP:=@List.getElem?_set_ne
def KQ:=@Nat.mod_lt
def KR:=@Nat.eq_of_testBit_eq
def KT:=@List.all_nil
def KU:=@beq_iff_eq
def KV:=@Nat.add_sub_cancel_left
def KW:=@Nat.div_eq_of_lt
def KX:=@List.getElem_mem
def KY:=@Rat.mul_one
def KZ:=@Nat.sub_zero
def JA:=@Nat.lt_or_eq_of_le
def JB:=@List.nodup_cons
def JC:=@List.contains_iff_mem
def JD:=@Nat.testBit_shiftLeft
def JE:=@List.take_append_drop
def JF:=@Nat.div_lt_iff_lt_mul
def JG:=@Rat.num_eq_zero
def JH:=@List.any_cons
def JI:=@List.length_range
def JJ:=@Function.comp_def
def JK:=@Int.le_refl
def JL:=@or_self
def JM:=@Nat.zero_mul
def JN:=@Rat.add_zero
def JO:=@List.getElem?_cons_zero
def JP:=@List.map_take
def JQ:=@List.foldl_cons
def JR:=@List.nil_append
def JS:=@Int.natCast_add
def JT:=@Nat.lt_of_le_of_lt
def JU:=@Nat.div_le_self
def JV:=@Nat.one_mul
def JW:=@List.getElem?_set_self
def JX:=@Rat.mul_neg
def JY:=@List.ext_getElem?
def JZ:=@Nat.lt_trichotomy
def Qaa:=@of_decide_eq_true
def Qab:=@Int.natAbs_sub_le
def Qac:=@Bool.true_or
def Qad:=@Nat.add_mul_div_right
def Qae:=@Array.toArray_toList
def Qaf:=@true_and
def Qag:=@Nat.testBit_succ
def Qah:=@Int.tmod_eq_emod_of_nonneg
def Qai:=@Nat.mul_add_mod_self_right
def Qaj:=@List.getElem?_range
def Qak:=@List.filter_eq_self
def Qal:=@List.getD_cons_succ
def Qam:=@Nat.min_eq_left
def Qan:=@List.mem_filter
def Qao:=@Array.getElem?_eq_getElem
def Qap:=@List.mem_or_eq_of_mem_set
def Qaq:=@Nat.div_add_mod
def Qar:=@Rat.intCast_mul
def Qas:=@List.range_succ
def Qat:=@Nat.add_comm
def Qau:=@Int.pow_succ
def Qav:=@Nat.add_sub_cancel
def Qaw:=@Int.mul_zero
def Qax:=@Int.emod_lt_of_pos
def Qay:=@Bool.true_eq_false
def Qaz:=@Array.ext'
def Qba:=@Nat.testBit_or
def Qbb:=@List.map_inj_left
def Qbc:=@List.flatMap_cons
def Qbd:=@Nat.gcd_zero_left
def Qbe:=@Nat.add_assoc
def Qbf:=@List.nodup_range
def Qbg:=@List.ext_getElem
def Qbh:=@Nat.mul_eq_zero
def Qbi:=@List.any_map
def Qbj:=@Bool.eq_iff_iff
def Qbk:=@List.length_set
def Qbl:=@Bool.or_eq_false_iff
def Qbm:=@List.mem_of_mem_take
def Qbn:=@List.headD_cons
def Qbo:=@Int.add_zero
def Qbp:=@Nat.sub_le
def Qbq:=@Int.emod_nonneg
def Qbr:=@Rat.natCast_mul
def Qbs:=@List.getElem_of_mem
def Qbt:=@Array.length_toList
def Qbu:=@Bool.or_eq_true_iff
def Qbv:=@List.mapM_cons
def Qbw:=@Int.natAbs_neg
def Qbx:=@Rat.mul_nonneg
def Qby:=@Nat.pow_pos
def Qbz:=@Bool.or_false
def Bm7:TypeId:=3
inductive I where
 | lit (v:Value)
 | sl (tag:Nat) (nl:Bool) (sz:Nat) (rows:List (List I))
 | ref (tag:Nat) (cs:List I)
 | fn (f:FuncId) (caps:List I)
 | any
inductive C where
 | i (x:I)
 | hs (h off len:Nat)
 | hp (h row col:Nat)
inductive V where
 | one (c:C)
 | agg (cs:List C)
inductive S where
 | v (x:V)
 | tup (xs:List V)
 | dead
structure Box where
 e:TypeId
 sz:Nat
 hf:Bool
 fz:Bool
 rows:List (List C)
 tr:Bool:=false
structure Env where
 A:Nat->Prop
 τ:Nat->Option Nat
 β:Nat->Option (Nat × Nat × Nat)
 ω:Nat->Option Nat
def Env.rd (E:Env) (h:Nat):Bool->Env
 | false=>E
 | true=>{ E with A:=λb=>E.A b/\E.ω b ≠ some h }
def Env.blk (E:Env) (tag g:Nat):Prop:=if tag=0 then ¬ E.A g else E.τ tag=some g
inductive Ri (w:World) (E:Env):Value->I->Prop
 | lit (v:Value) (h:v.oneCell'=true):Ri w E v (.lit v)
 | nil (tag sz cap:Nat) (a:Option Addr) (nl:Bool) (hn:nl=true->a=none) (hc:a=none->cap=0):Ri w E (.slice a 0 cap) (.sl tag nl sz [])
 | sl (tag sz g o cap:Nat) (rows:List (List I)) (vs:Nat->Nat->Value) (hne:rows ≠ []) (hcap:rows.length<=cap) (hg:g<w.heap.size) (hb:E.blk tag g)
   (hlen:∀ (i:Nat) (r:List I),rows[i]? = some r->r.length=sz)
   (hcell:∀ (i:Nat) (r:List I) (j:Nat) (c:I),rows[i]? = some r->r[j]? = some c->w.cell? ⟨g,o+(i*sz+j),none⟩=some (vs i j))
   (hrc:∀ (i:Nat) (r:List I) (j:Nat) (c:I),rows[i]? = some r->r[j]? = some c->Ri w E (vs i j) c) :
   Ri w E (.slice (some ⟨g,o,none⟩) rows.length cap) (.sl tag false sz rows)
 | ref (tag g o:Nat) (cs:List I) (vs:Nat->Value) (hg:g<w.heap.size) (hb:E.blk tag g)
   (hcell:∀ (j:Nat) (c:I),cs[j]? = some c->w.cell? ⟨g,o+j,none⟩=some (vs j))
   (hrc:∀ (j:Nat) (c:I),cs[j]? = some c->Ri w E (vs j) c) :
   Ri w E (.pointer (some ⟨g,o,none⟩)) (.ref tag cs)
 | fn (f:FuncId) (vs:List Value) (caps:List I) (hl:vs.length=caps.length)
   (hrc:∀ (j:Nat) (v:Value) (c:I),vs[j]? = some v->caps[j]? = some c->Ri w E v c) :
   Ri w E (.func (.func f) #[] vs.toArray) (.fn f caps)
 | any (v:Value) (h:v.oneCell'=true):Ri w E v .any
inductive Rc (w:World) (E:Env):Value->C->Prop
 | i {v:Value} {x:I} (h:Ri w E v x):Rc w E v (.i x)
 | hs (h off len g sz cap:Nat) (ad:Addr) (hβ:E.β h=some (g,sz,cap)) (hle:off+len<=cap)
   (had:off<cap \/ off=0->ad=⟨g,off*sz,none⟩):Rc w E (.slice (some ad) len (cap-off)) (.hs h off len)
 | hp (h row col g sz cap:Nat) (hβ:E.β h=some (g,sz,cap)):Rc w E (.pointer (some ⟨g,row*sz+col,none⟩)) (.hp h row col)
def Fq (w:World) (E:Env) (vs:List Value) (cs:List C):Prop :=
 vs.length=cs.length /\ ∀ (j:Nat) v c,vs[j]? = some v->cs[j]? = some c->Rc w E v c
inductive Rv (w:World) (E:Env):Value->V->Prop
 | one {v:Value} {c:C} (h:Rc w E v c):Rv w E v (.one c)
 | agg {vs:List Value} {cs:List C} (h:Fq w E vs cs):Rv w E (.agg vs.toArray) (.agg cs)
def P2 (w:World) (E:Env) (vs:List Value) (xs:List V):Prop :=
 vs.length=xs.length /\ ∀ (j:Nat) v x,vs[j]? = some v->xs[j]? = some x->Rv w E v x
inductive Rs (w:World) (E:Env):Value->S->Prop
 | v {v:Value} {x:V} (h:Rv w E v x):Rs w E v (.v x)
 | tup {vs:List Value} {xs:List V} (h:P2 w E vs xs):Rs w E (.tuple vs.toArray) (.tup xs)
 | dead {v:Value}:Rs w E v .dead
structure Cy (w w':World) (E E':Env):Prop where
 size:w.heap.size<=w'.heap.size
 blk:∀ tag g,g<w.heap.size->E.blk tag g->E'.blk tag g
 β:∀ h x,E.β h=some x->E'.β h=some x
 cell:∀ tag g o v,E.blk tag g->w.cell? ⟨g,o,none⟩=some v->w'.cell? ⟨g,o,none⟩=some v
theorem Ri.keepI {w w':World} {E E':Env} (ks:w.heap.size<=w'.heap.size) (kb:∀ tag g,g<w.heap.size->E.blk tag g->E'.blk tag g)
  (kc:∀ tag g o v,E.blk tag g->w.cell? ⟨g,o,none⟩=some v->w'.cell? ⟨g,o,none⟩=some v) {v:Value} {x:I} (h:Ri w E v x):Ri w' E' v x:=by
 induction h with
 | lit v h=>exact .lit v h
 | nil tag sz cap a nl hn hc=>exact .nil tag sz cap a nl hn hc
 | sl tag sz g o cap rows vs hne hcap hg hb hlen hcell _ ih =>
  exact .sl tag sz g o cap rows vs hne hcap (XB hg ks) (kb _ _ hg hb) hlen (λi r j c hi hj=>kc _ _ _ _ hb (hcell i r j c hi hj)) ih
 | ref tag g o cs vs hg hb hcell _ ih=>exact .ref tag g o cs vs (XB hg ks) (kb _ _ hg hb) (λj c hj=>kc _ _ _ _ hb (hcell j c hj)) ih
 | fn f vs caps hl _ ih=>exact .fn f vs caps hl ih
 | any v h=>exact .any v h
theorem Ri.keep {w w':World} {E E':Env} (k:Cy w w' E E') {v:Value} {x:I} (h:Ri w E v x):Ri w' E' v x:=h.keepI k.size k.blk k.cell
theorem Rc.keep {w w':World} {E E':Env} (k:Cy w w' E E') {v:Value} {x:C} (h:Rc w E v x):Rc w' E' v x:=by
 cases h with
 | i h=>exact .i (h.keep k)
 | hs h off len g sz cap ad hβ hle had=>exact .hs h off len g sz cap ad (k.β _ _ hβ) hle had
 | hp h row col g sz cap hβ=>exact .hp h row col g sz cap (k.β _ _ hβ)
theorem Fq.keep {w w':World} {E E':Env} (k:Cy w w' E E') {vs:List Value} {cs:List C} (h:Fq w E vs cs):Fq w' E' vs cs :=
 ⟨h.1,λj v c hv hc=>(h.2 j v c hv hc).keep k⟩
theorem Rv.keep {w w':World} {E E':Env} (k:Cy w w' E E') {v:Value} {x:V} (h:Rv w E v x):Rv w' E' v x:=by
 cases h with
 | one h=>exact .one (h.keep k)
 | agg h=>exact .agg (h.keep k)
theorem P2.keep {w w':World} {E E':Env} (k:Cy w w' E E') {vs:List Value} {xs:List V} (h:P2 w E vs xs):P2 w' E' vs xs :=
 ⟨h.1,λj v c hv hc=>(h.2 j v c hv hc).keep k⟩
theorem Rs.keep {w w':World} {E E':Env} (k:Cy w w' E E') {v:Value} {x:S} (h:Rs w E v x):Rs w' E' v x:=by
 cases h with
 | v h=>exact .v (h.keep k)
 | tup h=>exact .tup (h.keep k)
 | dead=>exact .dead
theorem Ri.oneCell {w:World} {E:Env} {v:Value} {x:I} (h:Ri w E v x):v.oneCell'=true:=by cases h <;> first | assumption | rfl
theorem Rc.oneCell {w:World} {E:Env} {v:Value} {x:C} (h:Rc w E v x):v.oneCell'=true:=by cases h <;> first | exact Ri.oneCell ‹_› | rfl
end Go.Ev

/- DERIVED. Abstract states, and what it means that a frame in a memory stands for one. -/
namespace Go.Ev
open Go
def A1 {α:Type} (k:Nat):List (Nat × α)->Option α
 | []=>none
 | (j,x)::r=>bif Nat.beq j k then some x else A1 k r
def B2 {α:Type} (k:Nat) (x:α):List (Nat × α)->List (Nat × α)
 | []=>[(k,x)]
 | (j,y)::r=>bif Nat.blt k j then (k,x)::(j,y)::r else bif Nat.beq j k then (k,x)::r else (j,y)::B2 k x r
theorem At {α:Type} (k:Nat) (x:α) (l:List (Nat × α)):A1 k (B2 k x l)=some x:=by
 induction l with
 | nil=>simp [B2,A1]
 | cons p r ih =>
  obtain ⟨j,y⟩:=p;simp only [B2]
  cases h1:Nat.blt k j
  . cases h2:Nat.beq j k
    . simpa [cond,A1,h2] using ih
    . simp [cond,A1]
  . simp [cond,A1]
theorem As {α:Type} {k i:Nat} (x:α) (l:List (Nat × α)) (h:i ≠ k):A1 i (B2 k x l)=A1 i l:=by
 have hk:Nat.beq k i=false:=by cases hb:Nat.beq k i with | false=>rfl | true=>exact absurd (QD hb).symm h
 induction l with
 | nil=>simp [B2,A1,hk]
 | cons p r ih =>
  obtain ⟨j,y⟩:=p;simp only [B2]
  cases h1:Nat.blt k j
  . cases h2:Nat.beq j k
    . simp [cond,A1,ih]
    . have:j=k:=by simpa using h2
      subst this;simp [cond,A1,hk]
  . simp [cond,A1,hk]
structure St where
 slots:List (Nat × S)
 boxes:List (Nat × Box)
 nt:Nat
structure WfE (w:World) (E:Env) (nt:Nat):Prop where
 alt:∀ b,E.A b->b<w.heap.size
 tag:∀ t g,E.τ t=some g->t<nt/\t ≠ 0/\E.A g
 inj:∀ t t' g,E.τ t=some g->E.τ t'=some g->t=t'
 om:∀ b h,E.ω b=some h->E.A b/\(∀ t,E.τ t ≠ some b) /\ ∃ o,w.heap[b]? = some o/\o.isCells=true
theorem WfE.omk {w w':World} {E:Env} {nt:Nat} (h:WfE w E nt) (hb:∀ b h,E.ω b=some h->w'.heap[b]? = w.heap[b]?):∀ b h,E.ω b=some h->E.A b/\(∀ t,E.τ t ≠ some b) /\ ∃ o,w'.heap[b]? = some o/\o.isCells=true:=λb k hk=>by
 obtain ⟨h1,h2,o,h3,h4⟩:=h.om b k hk;exact ⟨h1,h2,o,(hb b k hk).trans h3,h4⟩
def C3 (w:World) (E:Env) (box:Box) (g cap:Nat):Prop :=
 ∃ arr:Array Value,w.heap[g]? = some (.cells arr box.e (0,0))/\arr.size=cap*box.sz/\box.rows.length<=cap/\cap<=maxLen /\
  (∀ (i:Nat) (r:List C),box.rows[i]? = some r->r.length=box.sz) /\
  (∀ (i:Nat) (r:List C) (j:Nat) (c:C),box.rows[i]? = some r->r[j]? = some c->∃ v,arr[i*box.sz+j]? = some v/\Rc w E v c) /\
  (box.hf=true->∀ (i:Nat) (r:List C) (j:Nat) (c:C),box.rows[i]? = some r->r[j]? = some c->∃ x,c = .i x) /\
  (box.fz=false->E.A g) /\ ∀ t,E.τ t ≠ some g
def I.isSl:I->Bool
 | .sl _ _ _ _=>true
 | _=>false
def P1 (w:World) (E:Env) (h:Nat) (box:Box) (g:Nat):Prop :=
 (∀ (i:Nat) (r:List C) (j:Nat) (y:I) (len cap:Nat) (a:Addr),box.rows[i]? = some r->r[j]? = some (.i y)->y.isSl=true->w.cell? ⟨g,i*box.sz+j,none⟩=some (.slice (some a) len cap)->0<len->E.ω a.block=some h) /\
 (∀ (i:Nat) (r:List C) (j:Nat) (y:I) (i':Nat) (r':List C) (j':Nat) (y':I) (len len' cap cap':Nat) (a a':Addr),box.rows[i]? = some r->r[j]? = some (.i y)->y.isSl=true->box.rows[i']? = some r'->r'[j']? = some (.i y')->y'.isSl=true->¬ (i=i'/\j=j') ->
  w.cell? ⟨g,i*box.sz+j,none⟩=some (.slice (some a) len cap)->w.cell? ⟨g,i'*box.sz+j',none⟩=some (.slice (some a') len' cap')->0<len->0<len'->a.block ≠ a'.block) /\
 (∀ (i:Nat) (r:List C) (j:Nat) (y:I) (len cap:Nat) (a:Addr),box.rows[i]? = some r->r[j]? = some (.i y)->y.isSl=true->w.cell? ⟨g,i*box.sz+j,none⟩=some (.slice (some a) len cap)->0<len->∃ arr:Array Value,a=⟨a.block,0,none⟩/\w.heap[a.block]? = some (.cells arr Bm7 (0,0))/\arr.size=cap/\cap<=maxLen)
def Hi (w:World) (E:Env) (h:Nat) (box:Box):Prop:=∃ g cap,E.β h=some (g,box.sz,cap)/\C3 w (E.rd h box.tr) box g cap/\E.ω g=none/\(box.tr=true->P1 w E h box g)
structure Aj where
 N:Nat
 mv:List Nat
structure Ctx where
 w0:World
 E0:Env
 nt0:Nat
 pass:Nat->Prop
 K:Aj
 hold:Nat->Obj->Prop
structure Fr (w0:World) (pass:Nat->Prop) (w:World):Prop where
 os:w.os=w0.os
 tape:w.tape=w0.tape
 output:w.output=w0.output
 size:w0.heap.size<=w.heap.size
 block:∀ b,b<w0.heap.size->¬ pass b->w.heap[b]? = w0.heap[b]?
structure A6 (Γ:Ctx) (w:World) (E:Env) (s:St) (tmps:Array Value):Prop where
 fr:Fr Γ.w0 Γ.pass w
 wf:WfE w E s.nt
 old:∀ b,b<Γ.w0.heap.size->(E.A b ↔ Γ.E0.A b)
 nt:Γ.nt0<=s.nt
 tag:∀ t,t<Γ.nt0->E.τ t=Γ.E0.τ t
 new:∀ t g,Γ.nt0<=t->E.τ t=some g->Γ.w0.heap.size<=g
 boxes:∀ h b,A1 h s.boxes=some b->Hi w E h b
 inj:∀ h h' b b' g g' z z',A1 h s.boxes=some b->A1 h' s.boxes=some b'->E.β h=some (g,z)->E.β h'=some (g',z')->h ≠ h'->g ≠ g'
 own:∀ h b g z,A1 h s.boxes=some b->E.β h=some (g,z)->Γ.w0.heap.size<=g \/ (Γ.pass g/\b.fz=false/\1000<=h/\(h<2000->∃ z0,Γ.E0.β h=some (g,z0)))
 slots:∀ t x,A1 t s.slots=some x->Rs w E (tmps.getD t undef) x
 tsize:tmps.size=Γ.K.N
 dom:∀ h x,E.β h=some x->(A1 h s.boxes).isSome=true
 stay:∀ h,1000<=h->h<2000->Γ.K.mv.contains h=false->E.β h=Γ.E0.β h
 fzn:∀ h b g z,A1 h s.boxes=some b->E.β h=some (g,z)->b.fz=true->¬ E.A g
 held:∀ b o,Γ.hold b o->o.isCells=false/\w.heap[b]? = some o
 tow:∀ b h,E.ω b=some h->Γ.w0.heap.size<=b \/ Γ.pass b
def _root_.Go.Code.wr:Code->Nat->Bool
 | .region _ ops _,t=>ops.toList.any λo=>match o.dst with | some u=>Nat.beq u t | none=>false
 | .seq a b,t=>a.wr t || b.wr t
 | .cond _ a b,t=>a.wr t || b.wr t
 | .block _ a,t=>a.wr t
 | .loop a,t=>a.wr t
 | _,_=>false
def _root_.Go.Code.rf:Code->Bool
 | .seq a b=>a.rf || b.rf
 | .cond _ a b=>a.rf || b.rf
 | .block _ a=>a.rf
 | .loop a=>a.rf
 | .rangeFunc _ _ _ _=>true
 | _=>false
def FR (ro:Option Nat):Fence:={ Fence.wide with round:=ro }
def DOK (Γ:Ctx) (ds:List Deferred):Prop:=ds.Nodup /\ ∀ d ∈ ds,∃ D,d={ target:=.collected D,args:=#[] }/\Γ.w0.heap.size<=D/\Γ.hold D (.deferred (some []))
def Ctx.with (Γ:Ctx) (h:Nat->Obj->Prop):Ctx:=⟨Γ.w0,Γ.E0,Γ.nt0,Γ.pass,Γ.K,h⟩
structure Md (wr:Nat->Bool) (Γ:Ctx) (a:Act) (s':St) (a':Act) (w':World):Prop where
 ex:∃ h':Nat->Obj->Prop,(∀ b o,Γ.hold b o->h' b o)/\(DOK Γ a.defers->DOK (Γ.with h') a'.defers) /\ ∃ E',A6 (Γ.with h') w' E' s' a'.tmps
 same:∀ t,wr t=false->a'.tmps.getD t undef=a.tmps.getD t undef
theorem Md.id {wr:Nat->Bool} {Γ:Ctx} {a a':Act} {s':St} {w':World} (hd:a'.defers=a.defers) (hs:∀ t,wr t=false->a'.tmps.getD t undef=a.tmps.getD t undef) (h:∃ E',A6 Γ w' E' s' a'.tmps):Md wr Γ a s' a' w' :=
 ⟨⟨Γ.hold,λ_ _ h=>h,λh=>by rw [hd];exact h,h⟩,hs⟩
theorem Md.trans {wr wr1 wr2:Nat->Bool} {Γ:Ctx} {a a1 a2:Act} {s1 s2:St} {w1 w2:World} (hwr:∀ t,wr t=false->wr1 t=false/\wr2 t=false) (h1:Md wr1 Γ a s1 a1 w1)
  (h2:∀ h',(∃ E,A6 (Γ.with h') w1 E s1 a1.tmps)->Md wr2 (Γ.with h') a1 s2 a2 w2):Md wr Γ a s2 a2 w2:=by
 obtain ⟨h',q1,q2,q3⟩:=h1.ex;obtain ⟨⟨h2',r1,r2,r3⟩,r4⟩:=h2 h' q3;exact ⟨⟨h2',λb o h=>r1 b o (q1 b o h),λh=>r2 (q2 h),r3⟩,λt ht=>(r4 t (hwr t ht).2).trans (h1.same t (hwr t ht).1)⟩
def Code.Den (P:Program) (K:Aj) (c:Code) (s:St) (x:Exit) (s':St):Prop :=
 ∀ (Γ:Ctx) (w:World) (E:Env) (a:Act) (ro:Option Nat) (n:Nat),Γ.K=K->(ro.isSome=true->c.rf=false)->A6 Γ w E s a.tmps ->
  c.wpIn (FR ro) n P (λe a' w'=>e=x/\Md c.wr Γ a s' a' w') a w
theorem Dw {a b:Bool} (h:(a || b)=false):a=false/\b=false:=by cases a <;> cases b <;> first | exact ⟨rfl,rfl⟩ | cases h
theorem Den.seq {P:Program} {K:Aj} {c d:Code} {s s1 s':St} {x:Exit} (h:Code.Den P K c s .normal s1) (k:Code.Den P K d s1 x s'):Code.Den P K (.seq c d) s x s':=by
 intro Γ w E a ro n hN hr hs;refine wpIn_seq (wpIn_mono (h Γ w E a ro n hN (λe=>(Dw (hr e)).1) hs) ?_)
 rintro e a1 w1 ⟨rfl,hp⟩
 obtain ⟨h',q1,q2,E1,hs1⟩:=hp.ex;refine wpIn_mono (k (Γ.with h') w1 E1 a1 ro n hN (λe=>(Dw (hr e)).2) hs1) ?_
 rintro e a2 w2 ⟨rfl,hp2⟩
 obtain ⟨⟨h2',r1,r2,r3⟩,r4⟩:=hp2;exact ⟨rfl,⟨h2',λb o h=>r1 b o (q1 b o h),λh=>r2 (q2 h),r3⟩,λt ht=>(r4 t (Dw ht).2).trans (hp.same t (Dw ht).1)⟩
theorem Den.seqX {P:Program} {K:Aj} {c d:Code} {s s':St} {x:Exit} (hx:x ≠ .normal) (h:Code.Den P K c s x s'):Code.Den P K (.seq c d) s x s':=by
 intro Γ w E a ro n hN hr hs;refine wpIn_seq (wpIn_mono (h Γ w E a ro n hN (λe=>(Dw (hr e)).1) hs) ?_)
 rintro e a1 w1 ⟨rfl,hp⟩
 have hp':Md (Code.seq c d).wr Γ a s' a1 w1:=⟨hp.ex,λt ht=>hp.same t (Dw ht).1⟩
 cases e <;> first | exact absurd rfl hx | exact ⟨rfl,hp'⟩
theorem Md.refl {wr:Nat->Bool} {Γ:Ctx} {a:Act} {s:St} {w:World} {E:Env} (h:A6 Γ w E s a.tmps):Md wr Γ a s a w:=.id rfl (λ_ _=>rfl) ⟨E,h⟩
theorem Den.skip {P:Program} {K:Aj} {s:St}:Code.Den P K .skip s .normal s:=λ_ _ _ _ _ _ _ _ hs=>wpIn_skip ⟨rfl,.refl hs⟩
theorem Den.ret {P:Program} {K:Aj} {s:St}:Code.Den P K .ret s .ret s:=λ_ _ _ _ _ _ _ _ hs=>wpIn_ret ⟨rfl,.refl hs⟩
theorem Den.exit {P:Program} {K:Aj} {s:St} {id:Nat}:Code.Den P K (.exit id) s (.exit id) s:=λ_ _ _ _ _ _ _ _ hs=>wpIn_exit ⟨rfl,.refl hs⟩
theorem Den.block {P:Program} {K:Aj} {c:Code} {s s':St} {x:Exit} {id:Nat} (h:Code.Den P K c s x s') (hx:x ≠ .exit id):Code.Den P K (.block id c) s x s':=by
 intro Γ w E a ro n hN hr hs;refine wpIn_block (wpIn_mono (h Γ w E a ro n hN hr hs) ?_)
 rintro e a1 w1 ⟨rfl,hp⟩
 cases e with
 | exit j =>
  have hj:¬ j=id:=λe=>hx (by rw [e])
  simp only [Exit.inBlock,hj,if_false];exact ⟨trivial,hp⟩
 | _=>exact ⟨rfl,hp⟩
theorem Den.blockX {P:Program} {K:Aj} {c:Code} {s s':St} {id:Nat} (h:Code.Den P K c s (.exit id) s'):Code.Den P K (.block id c) s .normal s':=by
 intro Γ w E a ro n hN hr hs;refine wpIn_block (wpIn_mono (h Γ w E a ro n hN hr hs) ?_)
 rintro e a1 w1 ⟨rfl,hp⟩
 simp only [Exit.inBlock,if_true];exact ⟨trivial,hp⟩
inductive Hr (P:Program) (K:Aj) (c:Code):St->Exit->St->Prop
 | last {s s':St} {x:Exit} (hx:x ≠ .normal) (h:Code.Den P K c s x s'):Hr P K c s x s'
 | round {s s1 s':St} {x:Exit} (h:Code.Den P K c s .normal s1) (k:Hr P K c s1 x s'):Hr P K c s x s'
theorem Hr.row {P:Program} {K:Aj} {c:Code} {s s':St} {x:Exit} (h:Hr P K c s x s') :
  ∃ (n:Nat) (S:Nat->St),S 0=s/\x ≠ .normal/\(∀ i,i<n->Code.Den P K c (S i) .normal (S (i+1)))/\Code.Den P K c (S n) x s':=by
 induction h with
 | @last s s' x hx h=>exact ⟨0,λ_=>s,rfl,hx,λi hi=>absurd hi (Nat.not_lt_zero _),h⟩
 | @round s s1 s' x h _ ih =>
  obtain ⟨n,S,h0,hx,hr,hl⟩:=ih
  refine ⟨n+1,λi=>match i with | 0=>s | j+1=>S j,rfl,hx,?_,hl⟩
  intro i hi
  cases i with
  | zero=>simpa [h0] using h
  | succ j=>exact hr j (by omega)
theorem A1x (n:Nat) (R:Nat->Prop) (h:∃ i,i<=n/\R i):∃ i,i<=n/\R i /\ ∀ j,j<=n->R j->j<=i:=by
 induction n with
 | zero =>
  obtain ⟨i,hi,hr⟩:=h
  obtain rfl:i=0:=by omega
  exact ⟨0,ZF _,hr,λj hj _=>hj⟩
 | succ n ih =>
  by_cases hn:R (n+1)
  . exact ⟨n+1,ZF _,hn,λj hj _=>hj⟩
  . obtain ⟨i,hi,hr⟩:=h
    have:i<=n:=by
     rcases ZT n i with hlt | hge
     . obtain rfl:i=n+1:=by omega
       exact absurd hr hn
     . exact hge
    obtain ⟨m,hm,hmr,hmx⟩:=ih ⟨i,this,hr⟩
    refine ⟨m,by omega,hmr,λj hj hjr=>?_⟩
    rcases ZT n j with hlt | hge
    . obtain rfl:j=n+1:=by omega
      exact absurd hjr hn
    . exact hmx j hge hjr
open Classical in
theorem Den.loop {P:Program} {K:Aj} {c:Code} {s s':St} {x:Exit} (h:Hr P K c s x s'):Code.Den P K (.loop c) s x s':=by
 obtain ⟨n,S,rfl,hx,hr,hl⟩:=h.row;intro Γ w E a ro nn hN hrf hs
 let R:Nat->Act->World->Prop:=λi b w=>Md c.wr Γ a (S i) b w
 refine wpIn_loop (λa w=>∃ i,i<=n/\R i a w) (λa w=>if h:∃ i,i<=n/\R i a w then n-(A1x n (λi=>R i a w) h).choose else 0) ⟨0,KJ _,.refl hs⟩ ?_
 intro b w hI;have hm:=(A1x n (λi=>R i b w) hI).choose_spec;simp only [dif_pos hI];generalize (A1x n (λi=>R i b w) hI).choose=i at hm ⊢;obtain ⟨hi,hR,hmax⟩:=hm;obtain ⟨⟨h',q1,q2,E1,hs1⟩,qs⟩:=hR
 have step:∀ {y:Exit} {s2:St} {b2:Act} {w2:World},Md c.wr (Γ.with h') b s2 b2 w2->Md c.wr Γ a s2 b2 w2:=by
  rintro y s2 b2 w2 ⟨⟨h2,r1,r2,r3⟩,r4⟩
  exact ⟨⟨h2,λb o h=>r1 b o (q1 b o h),λh=>r2 (q2 h),r3⟩,λt ht=>(r4 t ht).trans (qs t ht)⟩
 by_cases hin:i=n
 . subst hin;refine wpIn_mono (hl (Γ.with h') w E1 b ro nn hN hrf hs1) ?_
   rintro e a2 w2 ⟨rfl,hp⟩
   have hp:=step (y:=e) hp
   cases e <;> first | exact absurd rfl hx | exact ⟨rfl,hp⟩
 . refine wpIn_mono (hr i (by omega) (Γ.with h') w E1 b ro nn hN hrf hs1) ?_
   rintro e a2 w2 ⟨rfl,hp⟩
   have hp:=step (y:=.normal) hp
   have hI2:∃ i,i<=n/\R i a2 w2:=⟨i+1,by omega,hp⟩
   refine ⟨hI2,?_⟩;simp only [dif_pos hI2];have hm2:=(A1x n (λi=>R i a2 w2) hI2).choose_spec;generalize (A1x n (λi=>R i a2 w2) hI2).choose=m at hm2 ⊢
   have:=hm2.2.2 (i+1) (by omega) hp
   have:=hm2.1;omega
theorem Rs.lit_inv {w:World} {E:Env} {v u:Value} (h:Rs w E v (.v (.one (.i (.lit u))))):v=u:=by
 cases h with | v h=>cases h with | one h=>cases h with | i h=>cases h with | lit _ _=>rfl
theorem Den.cond {P:Program} {K:Aj} {c:Operand} {x y:Code} {s s':St} {e:Exit} {b:Bool} {t:Tmp} (hc:c = .tmp t) (hs:A1 t s.slots=some (.v (.one (.i (.lit (.bool b))))))
  (h:Code.Den P K (if b then x else y) s e s'):Code.Den P K (.cond c x y) s e s':=by
 intro Γ w E a ro n hN hr hst;subst hc;have hv:=(hst.slots t _ hs).lit_inv
 refine wpIn_mono (wpIn_cond (by simpa only [Act.eval] using hv) (h Γ w E a ro n hN (λe=>by have:=Dw (hr e);cases b;exact this.2;exact this.1) hst)) ?_
 rintro e a1 w1 ⟨rfl,hp⟩
 exact ⟨rfl,hp.ex,λt ht=>hp.same t (by have:=Dw ht;cases b;exact this.2;exact this.1)⟩
end Go.Ev

/- DERIVED. How an abstract state follows what is done to the memory. -/
namespace Go.Ev
open Go
def C.men (h:Nat):C->Bool
 | .i _=>false
 | .hs k _ _=>Nat.beq k h
 | .hp k _ _=>Nat.beq k h
def V.men (h:Nat):V->Bool
 | .one c=>c.men h
 | .agg cs=>cs.any (C.men h)
def S.men (h:Nat):S->Bool
 | .v x=>x.men h
 | .tup xs=>xs.any (V.men h)
 | .dead=>false
def Box.men (h:Nat) (b:Box):Bool:=!b.hf&&b.rows.any (λr=>r.any (C.men h))
structure Ez (h:Nat) (w w':World) (E E':Env):Prop where
 size:w.heap.size<=w'.heap.size
 blk:∀ tag g,g<w.heap.size->E.blk tag g->E'.blk tag g
 β:∀ k x,k ≠ h->E.β k=some x->E'.β k=some x
 cell:∀ tag g o v,E.blk tag g->w.cell? ⟨g,o,none⟩=some v->w'.cell? ⟨g,o,none⟩=some v
theorem Rc.keepBut {h:Nat} {w w':World} {E E':Env} (k:Ez h w w' E E') {v:Value} {x:C} (hx:x.men h=false) (hr:Rc w E v x):Rc w' E' v x:=by
 cases hr with
 | i hr=>exact .i (hr.keepI k.size k.blk k.cell)
 | hs h' off len g sz cap ad hβ hle had =>
  exact .hs h' off len g sz cap ad (k.β _ _ (λe=>by subst e;simp [C.men] at hx) hβ) hle had
 | hp h' row col g sz cap hβ=>exact .hp h' row col g sz cap (k.β _ _ (λe=>by subst e;simp [C.men] at hx) hβ)
theorem L6 {α:Type} {p:α->Bool} {l:List α} (h:l.any p=false) {j:Nat} {c:α} (hj:l[j]? = some c):p c=false:=by
 have:=ZN hj;simp only [YP] at h;simpa using h c this
theorem Fq.keepBut {h:Nat} {w w':World} {E E':Env} (k:Ez h w w' E E') {vs:List Value} {cs:List C} (hx:cs.any (C.men h)=false) (hr:Fq w E vs cs):Fq w' E' vs cs :=
 ⟨hr.1,λj v c hv hc=>(hr.2 j v c hv hc).keepBut k (L6 hx hc)⟩
theorem Rv.keepBut {h:Nat} {w w':World} {E E':Env} (k:Ez h w w' E E') {v:Value} {x:V} (hx:x.men h=false) (hr:Rv w E v x):Rv w' E' v x:=by
 cases hr with
 | one hr=>exact .one (hr.keepBut k hx)
 | agg hr=>exact .agg (hr.keepBut k hx)
theorem P2.keepBut {h:Nat} {w w':World} {E E':Env} (k:Ez h w w' E E') {vs:List Value} {xs:List V} (hx:xs.any (V.men h)=false) (hr:P2 w E vs xs):P2 w' E' vs xs :=
 ⟨hr.1,λj v c hv hc=>(hr.2 j v c hv hc).keepBut k (L6 hx hc)⟩
theorem Rs.keepBut {h:Nat} {w w':World} {E E':Env} (k:Ez h w w' E E') {v:Value} {x:S} (hx:x.men h=false) (hr:Rs w E v x):Rs w' E' v x:=by
 cases hr with
 | v hr=>exact .v (hr.keepBut k hx)
 | tup hr=>exact .tup (hr.keepBut k hx)
 | dead=>exact .dead
theorem Fr.trans {w0 w w':World} {pass:Nat->Prop} (h:Fr w0 pass w) (os:w'.os=w.os) (tape:w'.tape=w.tape) (output:w'.output=w.output)
  (size:w.heap.size<=w'.heap.size) (block:∀ b,b<w0.heap.size->¬ pass b->w'.heap[b]? = w.heap[b]?):Fr w0 pass w' :=
 ⟨os.trans h.os,tape.trans h.tape,output.trans h.output,ZQ h.size size,λb hb hp=>(block b hb hp).trans (h.block b hb hp)⟩
structure Mb (w w':World) (row:Nat->Prop):Prop where
 os:w'.os=w.os
 tape:w'.tape=w.tape
 output:w'.output=w.output
 size:w.heap.size<=w'.heap.size
 block:∀ b,b<w.heap.size->¬ row b->w'.heap[b]? = w.heap[b]?
theorem Mb.cell {w w':World} {row:Nat->Prop} (t:Mb w w' row) {g o:Nat} {v:Value} (h:w.cell? ⟨g,o,none⟩=some v) (hg:¬ row g):w'.cell? ⟨g,o,none⟩=some v:=by
 have hlt:=World.block_lt_of_cell? w ⟨g,o,none⟩ h;rw [World.cell?_of_block (a:=⟨g,o,none⟩) (t.block g hlt hg)];exact h
theorem C3.lt {w:World} {E:Env} {b:Box} {g cap:Nat} (h:C3 w E b g cap):g<w.heap.size:=by
 obtain ⟨arr,hg,_⟩:=h;exact (ZU.1 hg).1
theorem C3.keep {w w':World} {E E':Env} {b:Box} {g cap:Nat} (h:C3 w E b g cap) (hb:w'.heap[g]? = w.heap[g]?)
  (hc:∀ (i:Nat) (r:List C) (j:Nat) (c:C) v,b.rows[i]? = some r->r[j]? = some c->Rc w E v c->Rc w' E' v c)
  (hA:E.A g->E'.A g) (ht:∀ t,E'.τ t ≠ some g):C3 w' E' b g cap:=by
 obtain ⟨arr,hg,hs,hl,hm,hlen,hcell,hhf,hfz,_⟩:=h;refine ⟨arr,hb.trans hg,hs,hl,hm,hlen,?_,hhf,λe=>hA (hfz e),ht⟩;intro i r j c hi hj;obtain ⟨v,hv,hr⟩:=hcell i r j c hi hj;exact ⟨v,hv,hc i r j c v hi hj hr⟩
theorem Cy.rd {w w':World} {E E':Env} (k:Cy w w' E E') (h:Nat) (tr:Bool) (ho:∀ b h,E.ω b=some h->E'.ω b=some h/\w'.heap[b]? = w.heap[b]?):Cy w w' (E.rd h tr) (E'.rd h tr):=by
 cases tr with
 | false=>exact k
 | true =>
  have hb0:∀ tag g,(E.rd h true).blk tag g->E.blk tag g \/ (tag=0/\E.ω g=some h):=by
   intro tag g hb;unfold Env.blk at hb ⊢;by_cases e:tag=0
   . rw [QC e] at hb ⊢;by_cases hA:E.A g
     . refine .inr ⟨e,?_⟩;exact Classical.byContradiction λhn=>hb ⟨hA,hn⟩
     . exact .inl hA
   . rw [QB e] at hb ⊢;exact .inl hb
  refine ⟨k.size,λtag g hg hb=>?_,k.β,λtag g o v hb hc=>?_⟩
  . rcases hb0 tag g hb with h1 | ⟨e,h1⟩
    . have h2:=k.blk tag g hg h1;unfold Env.blk at h2 ⊢;by_cases e:tag=0
      . rw [QC e] at h2 ⊢;exact λh3=>h2 h3.1
      . rw [QB e] at h2 ⊢;exact h2
    . unfold Env.blk;rw [QC e];exact λh3=>h3.2 (ho g h h1).1
  . rcases hb0 tag g hb with h1 | ⟨_,h1⟩
    . exact k.cell tag g o v h1 hc
    . rw [World.cell?_of_block (a:=⟨g,o,none⟩) (ho g h h1).2];exact hc
theorem Ez.rd {h0:Nat} {w w':World} {E E':Env} (k:Ez h0 w w' E E') (h:Nat) (tr:Bool) (ho:∀ b h,E.ω b=some h->E'.ω b=some h/\w'.heap[b]? = w.heap[b]?):Ez h0 w w' (E.rd h tr) (E'.rd h tr):=by
 cases tr with
 | false=>exact k
 | true =>
  have k2:=Cy.rd (E:={ E with β:=λ_=>none }) (E':={ E' with β:=λ_=>none }) ⟨k.size,k.blk,(λ_ _ h=>nomatch h),k.cell⟩ h true ho;exact ⟨k2.size,k2.blk,k.β,k2.cell⟩
theorem P1.keep {w w':World} {E E':Env} {h:Nat} {b:Box} {g:Nat} (hs:P1 w E h b g) (hb:w'.heap[g]? = w.heap[g]?) (ho:∀ b,E.ω b=some h->E'.ω b=some h/\w'.heap[b]? = w.heap[b]?):P1 w' E' h b g:=by
 have hc:∀ k,w'.cell? ⟨g,k,none⟩=w.cell? ⟨g,k,none⟩:=λk=>World.cell?_of_block (a:=⟨g,k,none⟩) hb
 refine ⟨λi r j y len cap a h1 h2 h3 h4 h5=>(ho _ (hs.1 i r j y len cap a h1 h2 h3 (by rw [<- hc];exact h4) h5)).1,λi r j y i' r' j' y' len len' cap cap' a a' h1 h2 h3 h1' h2' h3' hn h4 h4' h5 h5'=>?_,λi r j y len cap a h1 h2 h3 h4 h5=>?_⟩
 rotate_left
 . rw [(ho _ (hs.1 i r j y len cap a h1 h2 h3 (by rw [<- hc];exact h4) h5)).2]
   exact hs.2.2 i r j y len cap a h1 h2 h3 (by rw [<- hc];exact h4) h5
 exact hs.2.1 i r j y i' r' j' y' len len' cap cap' a a' h1 h2 h3 h1' h2' h3' hn (by rw [<- hc];exact h4) (by rw [<- hc];exact h4') h5 h5'
theorem Env.rd_A {E:Env} {h:Nat} {tr:Bool} {g:Nat} (hg:E.ω g=none):(E.rd h tr).A g ↔ E.A g:=by
 cases tr with
 | false=>exact Iff.rfl
 | true=>exact ⟨λx=>x.1,λx=>⟨x,by rw [hg];simp⟩⟩
theorem Env.rd_τ {E:Env} {h:Nat} {tr:Bool}:(E.rd h tr).τ=E.τ:=by cases tr <;> rfl
theorem Env.rd_β {E:Env} {h:Nat} {tr:Bool}:(E.rd h tr).β=E.β:=by cases tr <;> rfl
def C.okT:C->Bool
 | .i (.lit _)=>true
 | .i (.sl _ _ _ [])=>true
 | .hs _ _ _=>true
 | .hp _ _ _=>true
 | _=>false
theorem Rc.okT {w:World} {E E':Env} (hβ:E'.β=E.β) {v:Value} {c:C} (ho:c.okT=true) (h:Rc w E v c):Rc w E' v c:=by
 cases h with
 | i h =>
  cases h with
  | lit v h=>exact .i (.lit v h)
  | nil tag sz cap a nl hn hc=>exact .i (.nil tag sz cap a nl hn hc)
  | sl tag sz g o cap rows vs hne =>
   cases rows with
   | nil=>exact absurd rfl hne
   | cons=>cases ho
  | _=>cases ho
 | hs h off len g sz cap ad hb hle had=>exact .hs h off len g sz cap ad (by rw [hβ];exact hb) hle had
 | hp h row col g sz cap hb=>exact .hp h row col g sz cap (by rw [hβ];exact hb)
theorem Kp {w:World} {E:Env} {a:Addr} {len cap:Nat} {y:I} (ho:(C.i y).okT=true) (hy:y.isSl=true) (h:Rc w E (.slice (some a) len cap) (.i y)):len=0:=by
 cases h with
 | i h =>
  cases h with
  | nil=>rfl
  | sl tag sz g o cap rows vs hne =>
   cases rows with
   | nil=>exact absurd rfl hne
   | cons=>cases ho
  | lit=>cases hy
  | _=>cases hy
theorem C3.plain {w:World} {E:Env} {h:Nat} {b:Box} {g cap:Nat} (htr:b.tr=false) (hat:C3 w E b g cap):C3 w (E.rd h b.tr) b g cap:=by rw [htr];exact hat
theorem Hi.facts {w:World} {E:Env} {k:Nat} {b:Box} (h:Hi w E k b) {g:Nat} {z:Nat × Nat} (hβ:E.β k=some (g,z)) :
  ∃ arr cap,z=(b.sz,cap)/\w.heap[g]? = some (.cells arr b.e (0,0))/\(b.fz=false->E.A g)/\(∀ t,E.τ t ≠ some g)/\E.ω g=none:=by
 obtain ⟨g',cap,hβ',⟨arr,h1,_,_,_,_,_,_,hA,hT⟩,hω,_⟩:=h;rw [hβ] at hβ';obtain ⟨rfl,rfl⟩:=KF (QA hβ')
 exact ⟨arr,cap,rfl,h1,λe=>(Env.rd_A hω).1 (hA e),by rw [Env.rd_τ] at hT;exact hT,hω⟩
theorem Hi.keep {w w':World} {E E':Env} {h:Nat} {b:Box} {g cap:Nat} (hat:C3 w (E.rd h b.tr) b g cap) (hg:E.ω g=none) (hS:b.tr=true->P1 w E h b g) (hβ:E'.β h=some (g,b.sz,cap)) (hb:w'.heap[g]? = w.heap[g]?)
  (hc:∀ (i:Nat) (r:List C) (j:Nat) (c:C) v,b.rows[i]? = some r->r[j]? = some c->Rc w (E.rd h b.tr) v c->Rc w' (E'.rd h b.tr) v c)
  (hA:E.A g->E'.A g) (ht:∀ t,E'.τ t ≠ some g) (ho:∀ b,E.ω b=some h->E'.ω b=some h/\w'.heap[b]? = w.heap[b]?) (hg':E'.ω g=none):Hi w' E' h b :=
 ⟨g,cap,hβ,hat.keep hb hc (λh'=>(Env.rd_A hg').2 (hA ((Env.rd_A hg).1 h'))) (by rw [Env.rd_τ];exact ht),hg',λe=>(hS e).keep hb ho⟩
theorem A6.still {Γ:Ctx} {w w':World} {E:Env} {s:St} {tmps:Array Value} (h:A6 Γ w E s tmps) (t:Mb w w' (λ_=>False)):A6 Γ w' E s tmps:=by
 have k:Cy w w' E E:=⟨t.size,λ_ _ _ h=>h,λ_ _ h=>h,λ_ _ _ _ _ hc=>t.cell hc (λh=>h)⟩;refine ⟨h.fr.trans t.os t.tape t.output t.size (λb hb _=>t.block b (XB hb h.fr.size) (λh=>h)),?_,h.old,h.nt,h.tag,h.new,?_,h.inj,h.own,λi x hx=>(h.slots i x hx).keep k,h.tsize,h.dom,h.stay,h.fzn,λb o hb=>⟨(h.held b o hb).1,(t.block b (ZU.1 (h.held b o hb).2).1 (λh=>h)).trans (h.held b o hb).2⟩,h.tow⟩
 . exact ⟨λb hb=>XB (h.wf.alt b hb) t.size,h.wf.tag,h.wf.inj,h.wf.omk λb' h' hb'=>t.block b' (h.wf.alt b' (h.wf.om b' h' hb').1) (λh=>h)⟩
 . intro k' b hb;obtain ⟨g,cap,hβ,hat,hg,hS⟩:=h.boxes k' b hb
   exact Hi.keep hat hg hS hβ (t.block g hat.lt (λh=>h)) (λ_ _ _ _ _ _ _ hr=>hr.keep (k.rd k' b.tr λb' h' hb'=>⟨hb',t.block b' (h.wf.alt b' (h.wf.om b' h' hb').1) (λh=>h)⟩)) id (λtg=>by obtain ⟨_,_,_,_,_,_,_,_,_,ht⟩:=hat;rw [Env.rd_τ] at ht;exact ht tg) (λb' hb'=>⟨hb',t.block b' (h.wf.alt b' (h.wf.om b' _ hb').1) (λh=>h)⟩) hg
theorem A6.put {Γ:Ctx} {w:World} {E:Env} {s:St} {tmps:Array Value} (h:A6 Γ w E s tmps) {t:Nat} {v:Value} {x:S} (ht:t<Γ.K.N) (hx:Rs w E v x) :
  A6 Γ w E { s with slots:=B2 t x s.slots } (tmps.setIfInBounds t v):=by
 refine ⟨h.fr,h.wf,h.old,h.nt,h.tag,h.new,h.boxes,h.inj,h.own,?_,by simpa using h.tsize,h.dom,h.stay,h.fzn,h.held,h.tow⟩
 intro i y hy;by_cases hi:i=t
 . subst hi;rw [At] at hy;obtain rfl:=QA hy
   have:i<tmps.size:=by rw [h.tsize];exact ht
   simpa [this] using hx
 . rw [As _ _ hi] at hy;have:=h.slots i y hy
   rw [show (tmps.setIfInBounds t v).getD i undef=tmps.getD i undef by simp [KH,Ne.symm hi]]
   exact this
def Env.set (E:Env) (h g sz cap:Nat):Env:={ A:=λb=>E.A b \/ b=g,τ:=E.τ,β:=λk=>if k=h then some (g,sz,cap) else E.β k,ω:=E.ω }
theorem A6.lt {Γ:Ctx} {w:World} {E:Env} {s:St} {tmps:Array Value} (hs:A6 Γ w E s tmps) {h:Nat} {b:Box} {g:Nat} {z:Nat × Nat} (hb:A1 h s.boxes=some b) (hβ:E.β h=some (g,z)):g<w.heap.size:=by
 obtain ⟨g',cap,hβ',hat,_⟩:=hs.boxes h b hb;rw [hβ] at hβ';obtain ⟨rfl,_⟩:=KF (QA hβ');exact hat.lt
theorem A6.less {Γ:Ctx} {w:World} {E:Env} {s:St} {tmps:Array Value} (hs:A6 Γ w E s tmps) {sl:List (Nat × S)} (h:∀ t x,A1 t sl=some x->A1 t s.slots=some x) :
  A6 Γ w E { s with slots:=sl } tmps :=
 ⟨hs.fr,hs.wf,hs.old,hs.nt,hs.tag,hs.new,hs.boxes,hs.inj,hs.own,λt x hx=>hs.slots t x (h t x hx),hs.tsize,hs.dom,hs.stay,hs.fzn,hs.held,hs.tow⟩
theorem A6.setBox {Γ:Ctx} {w w':World} {E:Env} {s:St} {tmps:Array Value} (hs:A6 Γ w E s tmps) (h g cap:Nat) (b':Box) (row:Nat->Prop)
  (t:Mb w w' row) (hrow:∀ b,row b->∃ z,E.β h=some (b,z)) (hrow':∀ b,row b->∀ bx,A1 h s.boxes=some bx->bx.fz=false)
  (hg:(∃ z bx,A1 h s.boxes=some bx/\bx.fz=false/\E.β h=some (g,z)) \/ (w.heap.size<=g/\g<w'.heap.size))
  (hst:h<1000 \/ Γ.K.mv.contains h=true \/ E.β h=some (g,b'.sz,cap)) (hfz:b'.fz=false) (hSb:b'.tr=true->P1 w' (E.set h g b'.sz cap) h b' g) (hat:C3 w' ((E.set h g b'.sz cap).rd h b'.tr) b' g cap)
  (hk:(∀ x,E.β h=some x->x=(g,b'.sz,cap)) \/ ((∀ i x,A1 i s.slots=some x->x.men h=false) /\ ∀ i b,i ≠ h->A1 i s.boxes=some b->b.men h=false)) :
  A6 Γ w' (E.set h g b'.sz cap) { s with boxes:=B2 h b' s.boxes } tmps:=by
 have hrowA:∀ b,row b->E.A b/\(∀ t,E.τ t ≠ some b)/\E.ω b=none:=by
  intro b hb;obtain ⟨z,hz⟩:=hrow b hb;have hd:=hs.dom h _ hz;obtain ⟨bx,hbx⟩:=QZ.1 hd;obtain ⟨_,_,_,_,hA,hT,hω⟩:=(hs.boxes h bx hbx).facts hz;exact ⟨hA (hrow' b hb bx hbx),hT,hω⟩
 have hgA:E.A g \/ w.heap.size<=g:=by
  rcases hg with ⟨z,bx,hbx,hf,hz⟩ | ⟨hge,_⟩
  . obtain ⟨_,_,_,_,hA,_⟩:=(hs.boxes h bx hbx).facts hz;exact .inl (hA hf)
  . exact .inr hge
 have hgω:E.ω g=none:=by
  rcases hg with ⟨z,bx,hbx,hf,hz⟩ | ⟨hge,_⟩
  . obtain ⟨_,_,_,_,_,_,hω⟩:=(hs.boxes h bx hbx).facts hz;exact hω
  . cases e:E.ω g with
    | none=>rfl
    | some k=>have:=hs.wf.alt g (hs.wf.om g k e).1;omega
 have hωk:∀ b k,E.ω b=some k->(E.set h g b'.sz cap).ω b=some k/\w'.heap[b]? = w.heap[b]?:=λb k hb =>
  ⟨hb,t.block b (hs.wf.alt b (hs.wf.om b k hb).1) (λhr=>by rw [(hrowA b hr).2.2] at hb;cases hb)⟩
 have hblk:∀ tag b,b<w.heap.size->E.blk tag b->(E.set h g b'.sz cap).blk tag b:=by
  intro tag b hlt hb;unfold Env.blk at hb ⊢;split
  . rename_i e;rw [QC e] at hb;intro hor;rcases hor with hor | rfl
    . exact hb hor
    . rcases hgA with h' | h'
      . exact hb h'
      . omega
  . rename_i e;rw [QB e] at hb;exact hb
 have hcell:∀ tag b o v,E.blk tag b->w.cell? ⟨b,o,none⟩=some v->w'.cell? ⟨b,o,none⟩=some v:=by
  intro tag b o v hb hc;refine t.cell hc (λhr=>?_);obtain ⟨hA,hT,_⟩:=hrowA b hr;unfold Env.blk at hb;split at hb
  . exact hb hA
  . exact hT _ hb
 have kb:Ez h w w' E (E.set h g b'.sz cap):=⟨t.size,hblk,λk x hkh hx=>by simpa [Env.set,hkh] using hx,hcell⟩
 have kr:∀ (k5:Nat) (tr:Bool) (c:C),(c.men h=false \/ ∀ x,E.β h=some x->x=(g,b'.sz,cap))->∀ v,Rc w (E.rd k5 tr) v c->Rc w' ((E.set h g b'.sz cap).rd k5 tr) v c:=by
  intro k5 tr c hc v hr;rcases hc with hc | hc
  . exact hr.keepBut (kb.rd k5 tr hωk) hc
  . refine hr.keep (Cy.rd ⟨t.size,hblk,λk x hx=>?_,hcell⟩ k5 tr hωk);by_cases hkh:k=h
    . subst hkh;rw [hc x hx];simp [Env.set]
    . simpa [Env.set,hkh] using hx
 have glt:g<w'.heap.size:=by
  rcases hg with ⟨z,bx,hbx,hf,hz⟩ | ⟨_,hlt⟩
  . exact XB (hs.lt hbx hz) t.size
  . exact hlt
 have rowlt:∀ b,row b->b<w.heap.size:=by
  intro b hb;obtain ⟨z,hz⟩:=hrow b hb;obtain ⟨bx,hbx⟩:=QZ.1 (hs.dom h _ hz);exact hs.lt hbx hz
 have rowown:∀ b,row b->Γ.w0.heap.size<=b \/ Γ.pass b:=by
  intro b hb;obtain ⟨z,hz⟩:=hrow b hb;obtain ⟨bx,hbx⟩:=QZ.1 (hs.dom h _ hz);rcases hs.own h bx b z hbx hz with h' | h'
  . exact .inl h'
  . exact .inr h'.1
 refine ⟨?_,?_,?_,hs.nt,hs.tag,hs.new,?_,?_,?_,?_,hs.tsize,?_,?_,?_,?_,hs.tow⟩
 . refine hs.fr.trans t.os t.tape t.output t.size (λb hb hp=>t.block b (XB hb hs.fr.size) (λhr=>?_));rcases rowown b hr with h' | h'
   . omega
   . exact hp h'
 . refine ⟨λb hb=>?_,λt' g' ht=>?_,hs.wf.inj,λb k hb=>⟨.inl (hs.wf.om b k hb).1,(hs.wf.om b k hb).2.1,(hs.wf.omk λb k hb=>(hωk b k hb).2) b k hb |>.2.2⟩⟩
   . rcases hb with hb | rfl
     . exact XB (hs.wf.alt b hb) t.size
     . exact glt
   . obtain ⟨h1,h2,h3⟩:=hs.wf.tag t' g' ht;exact ⟨h1,h2,.inl h3⟩
 . intro b hb;rw [<- hs.old b hb];constructor
   . rintro (h' | rfl)
     . exact h'
     . rcases hgA with h' | h'
       . exact h'
       . have:=hs.fr.size;omega
   . exact λh'=>.inl h'
 . intro k b hb;by_cases hkh:k=h
   . subst hkh;rw [At] at hb;obtain rfl:=QA hb
     exact ⟨g,cap,by simp [Env.set],hat,hgω,hSb⟩
   . rw [As _ _ hkh] at hb;obtain ⟨g',cap',hβ,hat',hω',hS'⟩:=hs.boxes k b hb
     have hne:¬ row g':=by
      intro hr;obtain ⟨z,hz⟩:=hrow g' hr;obtain ⟨bx,hbx⟩:=QZ.1 (hs.dom h _ hz);exact hs.inj k h b bx g' g' _ _ hb hbx hβ hz hkh rfl
     refine Hi.keep hat' hω' hS' (by simpa [Env.set,hkh] using hβ) (t.block g' hat'.lt hne) ?_ (λh'=>.inl h') (λt'=>?_) (λb' hb'=>hωk b' _ hb') hω'
     . intro i r j c v hi hj hr;refine kr k b.tr c ?_ v hr;rcases hk with hk | ⟨_,hk⟩
       . exact .inr hk
       . have hm:=hk k b hkh hb;unfold Box.men at hm;by_cases hhf:b.hf=true
         . obtain ⟨_,_,_,_,_,_,_,hI,_⟩:=hat';obtain ⟨x,rfl⟩:=hI hhf i r j c hi hj;exact .inl rfl
         . simp only [Bool.not_eq_true] at hhf;rw [hhf] at hm;simp only [ZW,ZZ] at hm;exact .inl (L6 (L6 hm hi) hj)
     . obtain ⟨_,_,_,_,_,_,_,_,_,hT⟩:=hat';rw [Env.rd_τ] at hT;exact hT t'
 . intro k k' b bx g1 g2 z1 z2 hb hb' hβ hβ' hne
   have get:∀ k b g1 z1,k ≠ h->A1 k (B2 h b' s.boxes)=some b->(E.set h g b'.sz cap).β k=some (g1,z1)->A1 k s.boxes=some b/\E.β k=some (g1,z1):=by
    intro k b g1 z1 hkh hb hβ;rw [As _ _ hkh] at hb
    exact ⟨hb,by simpa [Env.set,hkh] using hβ⟩
   have gnew:∀ k b g1 z1,k ≠ h->A1 k s.boxes=some b->E.β k=some (g1,z1)->g1 ≠ g:=by
    intro k5 b5 g5 z5 hk5 hb5 hβ5 he;rcases hg with ⟨z,bx,hbx,_,hz⟩ | ⟨hge,_⟩
    . exact hs.inj k5 h b5 bx g5 g _ _ hb5 hbx hβ5 hz hk5 he
    . have:=hs.lt hb5 hβ5;omega
   by_cases h1:k=h <;> by_cases h2:k'=h
   . exact absurd (h1.trans h2.symm) hne
   . subst h1;obtain ⟨hb2,hβ2⟩:=get k' bx g2 z2 h2 hb' hβ'
     have:g1=g:=by simp [Env.set] at hβ;exact hβ.1.symm
     subst this;exact Ne.symm (gnew k' bx g2 z2 h2 hb2 hβ2)
   . subst h2;obtain ⟨hb1,hβ1⟩:=get k b g1 z1 h1 hb hβ
     have:g2=g:=by simp [Env.set] at hβ';exact hβ'.1.symm
     subst this;exact gnew k b g1 z1 h1 hb1 hβ1
   . obtain ⟨hb1,hβ1⟩:=get k b g1 z1 h1 hb hβ;obtain ⟨hb2,hβ2⟩:=get k' bx g2 z2 h2 hb' hβ';exact hs.inj k k' b bx g1 g2 z1 z2 hb1 hb2 hβ1 hβ2 hne
 . intro k b g1 z1 hb hβ;by_cases hkh:k=h
   . subst hkh;rw [At] at hb;obtain rfl:=QA hb
     have:g1=g:=by simp [Env.set] at hβ;exact hβ.1.symm
     subst this;rcases hg with ⟨z,bx,hbx,hf,hz⟩ | ⟨hge,_⟩
     . rcases hs.own k bx g1 z hbx hz with h' | h'
       . exact .inl h'
       . exact .inr ⟨h'.1,hfz,h'.2.2⟩
     . exact .inl (ZQ hs.fr.size hge)
   . rw [As _ _ hkh] at hb
     exact hs.own k b g1 z1 hb (by simpa [Env.set,hkh] using hβ)
 . intro i x hx;have hr:=hs.slots i x hx;rcases hk with hk | ⟨hk,_⟩
   . refine hr.keep ⟨t.size,hblk,λk5 x5 hx5=>?_,hcell⟩;by_cases hkh:k5=h
     . rw [hkh] at hx5 ⊢;rw [hk x5 hx5];simp [Env.set]
     . simpa [Env.set,hkh] using hx5
   . exact hr.keepBut kb (hk i x hx)
 . intro k x hx;by_cases hkh:k=h
   . subst hkh;rw [At];rfl
   . rw [As _ _ hkh]
     exact hs.dom k x (by simpa [Env.set,hkh] using hx)
 . intro k hk1 hk2 hmv;by_cases hkh:k=h
   . subst hkh;rcases hst with h' | h' | h'
     . omega
     . rw [h'] at hmv;cases hmv
     . rw [<- hs.stay k hk1 hk2 hmv,h'];simp [Env.set]
   . rw [<- hs.stay k hk1 hk2 hmv];simp [Env.set,hkh]
 . intro k b g1 z1 hb hβ hf;by_cases hkh:k=h
   . subst hkh;rw [At] at hb;obtain rfl:=QA hb;rw [hfz] at hf;cases hf
   . rw [As _ _ hkh] at hb
     have hβ1:E.β k=some (g1,z1):=by simpa [Env.set,hkh] using hβ
     rintro (h' | rfl)
     . exact hs.fzn k b g1 z1 hb hβ1 hf h'
     . rcases hg with ⟨z,bx,hbx,_,hz⟩ | ⟨hge,_⟩
       . exact hs.inj k h b bx g1 g1 _ _ hb hbx hβ1 hz hkh rfl
       . have:=hs.lt hb hβ1;omega
 . intro b o hb;obtain ⟨h1,h2⟩:=hs.held b o hb;refine ⟨h1,(t.block b (ZU.1 h2).1 (λhr=>?_)).trans h2⟩;obtain ⟨z,hz⟩:=hrow b hr;obtain ⟨bx,hbx⟩:=QZ.1 (hs.dom h _ hz);obtain ⟨arr,_,_,ha,_⟩:=(hs.boxes h bx hbx).facts hz;rw [ha] at h2;obtain rfl:=QA h2
   cases h1
end Go.Ev

/- DERIVED. A memory in which only objects that hold no cells have turned; a function's end behind ranges over functions. -/
namespace Go.Ev
open Go
theorem A6.grown {Γ:Ctx} {w w':World} {E:Env} {s:St} {tmps:Array Value} {row:Option Nat} (hs:A6 Γ w E s tmps) (hold':Nat->Obj->Prop) (hg:w.grownBy w' row)
  (hr:∀ r,row=some r->Γ.w0.heap.size<=r /\ ∃ o:Obj,w.heap[r]? = some o/\o.isCells=false) (hh:∀ b o,hold' b o->o.isCells=false/\w'.heap[b]? = some o):A6 (Γ.with hold') w' E s tmps:=by
 have hin:∀ b' h',E.ω b'=some h'->w'.heap[b']? = w.heap[b']?:=λb' h' hb'=>hg.block b' (hs.wf.alt b' (hs.wf.om b' h' hb').1) (λe=>by
  obtain ⟨_,_,o,h1,h2⟩:=hs.wf.om b' h' hb';obtain ⟨_,o',h3,h4⟩:=hr b' e.symm;rw [h1] at h3;obtain rfl:=QA h3
  rw [h2] at h4;cases h4)
 have k:Cy w w' E E:=⟨hg.size,λ_ _ _ h=>h,λ_ _ h=>h,λ_ _ _ _ _ hc=>cell_kept hc hg (λr e=>(hr r e).2)⟩;refine ⟨hs.fr.trans hg.os hg.tape hg.output hg.size (λb hb _=>hg.block b (XB hb hs.fr.size) (λe=>?_)),⟨λb hb=>XB (hs.wf.alt b hb) hg.size,hs.wf.tag,hs.wf.inj,hs.wf.omk hin⟩,hs.old,hs.nt,hs.tag,hs.new,λh b hb=>?_,hs.inj,hs.own,λt x hx=>(hs.slots t x hx).keep k,hs.tsize,hs.dom,hs.stay,hs.fzn,hh,hs.tow⟩
 . have:=(hr b e.symm).1;omega
 . obtain ⟨g,cap,hβ,hat,hω,hS⟩:=hs.boxes h b hb
   refine Hi.keep hat hω hS hβ (hg.block g hat.lt (λe=>?_)) (λ_ _ _ _ _ _ _ hr=>hr.keep (k.rd h b.tr λb' h' hb'=>⟨hb',hin b' h' hb'⟩)) id (λtg=>by obtain ⟨_,_,_,_,_,_,_,_,_,ht⟩:=hat;rw [Env.rd_τ] at ht;exact ht tg) (λb' hb'=>⟨hb',hin b' _ hb'⟩) hω
   obtain ⟨_,o,ho,hc⟩:=hr g e.symm;obtain ⟨arr,ha,_⟩:=hat;rw [ha] at ho;obtain rfl:=QA ho
   cases hc
variable {P:Program}
theorem A21 {F:Fence} {n:Nat} {fn:Func} {tmps:Array Value} {Γ:Ctx} {s:St} {R:Ending->World->Prop}
  (hfin:∀ w E,A6 (Γ.with λ_ _=>False) w E s tmps->∃ v,(results fn tmps).run P w = .ok v w/\R (.returned v) w) :
  ∀ (ds:List Deferred) (w:World) (E:Env),ds.Nodup->(∀ d ∈ ds,∃ D,d={ target:=.collected D,args:=#[] }/\Γ.w0.heap.size<=D/\w.heap[D]? = some (.deferred (some [])))->A6 (Γ.with λ_ _=>False) w E s tmps->LeavesInM F n P fn tmps R ds .returning w
 | [],w,E,_,_,hs=>hfin w E hs
 | d::ds,w,E,hn,hd,hs=>by
  obtain ⟨D,rfl,hD,hw⟩:=hd d (by simp)
  refine ⟨by simp,.inl ⟨D,_,rfl,run_takeDeferred hw,?_⟩⟩
  have hn':=JB.1 hn
  refine A21 hfin ds _ E hn'.2 (λd' hd'=>?_) (hs.grown (λ_ _=>False) (grownBy_putObj' w D _) (λr e=>by cases e;exact ⟨hD,_,hw,rfl⟩) (λ_ _ h=>h.elim))
  obtain ⟨D',rfl,hD',hw'⟩:=hd d' (by simp [hd'])
  refine ⟨D',rfl,hD',(World.putObj_heap_other (λe=>?_)).trans hw'⟩;subst e;exact hn'.1 hd'
theorem Aow {f:FuncId} {fn:Func} {c:Code} {K:Aj} {s s':St} {x:Exit} {Γ:Ctx} {R:Ending->World->Prop} {args:Array Value} {w:World} {E:Env} (hf:P.funcs[f]? = some fn) (hb:fn.body=some c) (hN:fn.ntmps=K.N) (hΓ:Γ.K=K)
  (hx:x = .normal \/ x = .ret) (hd:Code.Den P K c s x s') (hent:A6 Γ w E s (args++Array.replicate (K.N-args.size) undef))
  (hfin:∀ (a:Act) w' E1,A6 (Γ.with λ_ _=>False) w' E1 s' a.tmps->∃ v,(results fn a.tmps).run P w' = .ok v w'/\R (.returned v) w'):Calls P f args w R:=by
 refine (callsIn_wide (n:=0)).1 (callsIn_of_wp_marks hf hb trivial ?_ rfl);rw [hN]
 refine wpIn_mono (hd Γ w E { tmps:=args++Array.replicate (K.N-args.size) undef,defers:=[] } none 0 hΓ (λe=>by cases e) hent) ?_
 rintro e a w' ⟨rfl,⟨h',_,q2,E1,hs1⟩,_⟩
 obtain ⟨d1,d2⟩:=q2 ⟨List.nodup_nil,λd hd=>by cases hd⟩
 have hs2:A6 (Γ.with λ_ _=>False) w' E1 s' a.tmps:=A6.grown (row:=none) (Γ:=Γ.with h') hs1 (λ_ _=>False) ⟨rfl,rfl,rfl,ZF _,λ_ _ _=>rfl⟩ (λr e=>by cases e) (λ_ _ h=>h.elim)
 have key:LeavesInM Fence.wide 0 P fn a.tmps R a.defers .returning w':=A21 (hfin a) a.defers w' E1 d1 (λd hd=>by
  obtain ⟨D,e,h1,h2⟩:=d2 d hd
  exact ⟨D,e,h1,(hs1.held D _ h2).2⟩) hs2
 rcases hx with rfl | rfl
 . exact key
 . exact key
end Go.Ev

/- DERIVED. The operations on abstract values. -/
namespace Go.Ev
open Go
structure TI where
 d:TypeDesc
 size:Nat
 bytes:Nat
 zero:Value
 cmp:Bool
abbrev Ty:=TypeId->Option TI
structure Ber (P:Program) (t:TypeId) (i:TI):Prop where
 und:P.underlying t=some i.d
 info:∃ inf,P.info? t=some inf/\inf.size=i.size/\inf.bytes=i.bytes/\inf.zero=some i.zero
 cells:i.zero.cells.size=i.size
 one:(i.zero.cells.toList.all λv=>v.oneCell')=true
 cmp:i.cmp=true->P.stoodInHeld t=false/\P.eqGuardType P.depth t=false
def B8 (P:Program) (T:Ty):Prop:=∀ t i,T t=some i->Ber P t i
abbrev S.lit (v:Value):S:=.v (.one (.i (.lit v)))
abbrev S.int (n:Int):S:=.lit (.int .i64 n)
abbrev S.bool (b:Bool):S:=.lit (.bool b)
def St.val (s:St):Operand->S
 | .tmp t=>(A1 t s.slots).getD .dead
 | .const (.agg _)=>.dead
 | .const (.tuple _)=>.dead
 | .const (.pointer _)=>.dead
 | .const .nilFunc=>.dead
 | .const v=>.lit v
 | .func f=>.lit (.func (.func f) #[] #[])
 | .global _=>.dead
def V.cells:V->List C
 | .one c=>[c]
 | .agg cs=>cs
def Dc:C->Bool
 | .i _=>true
 | _=>false
def toI:List C->Option (List I)
 | []=>some []
 | .i x::r=>(toI r).map (x :: ·)
 | _::_=>none
def Hd:TypeDesc->Bool
 | .struct _=>true
 | .array _ _=>true
 | _=>false
def Ip (ti:TI) (cs:List C):Option V :=
 bif Hd ti.d then some (.agg (cs.take ti.size)) else match cs with
  | c::_=>some (.one c)
  | []=>none
inductive Eff where
 | none
 | new (b:Box)                 -- a box at the key dst
 | set (h:Nat) (b:Box)       -- the box h is written in place
 | move (h:Nat) (b:Box)      -- the box h is written,perhaps elsewhere
 | freeze (hs:List Nat)
structure Res where
 val:S
 eff:Eff
 ob:List Prop
def Res.pure (x:S):Res:=⟨x,.none,[]⟩
def Aej (op:BinOp) (k:IntKind) (a b:Int):Option Res :=
 match op with
 | .add=>some (.pure (.lit (.int k (k.wrap (a+b)))))
 | .sub=>some (.pure (.lit (.int k (k.wrap (a-b)))))
 | .mul=>some (.pure (.lit (.int k (k.wrap (a*b)))))
 | .quo=>some ⟨.lit (.int k (k.wrap (a.tdiv b))),.none,[b ≠ 0]⟩
 | .rem=>some ⟨.lit (.int k (a.tmod b)),.none,[b ≠ 0]⟩
 | .eql=>some (.pure (.bool (a==b)))
 | .neq=>some (.pure (.bool (a != b)))
 | .lss=>some (.pure (.bool (decide (a<b))))
 | .leq=>some (.pure (.bool (decide (a<=b))))
 | .gtr=>some (.pure (.bool (decide (a>b))))
 | .geq=>some (.pure (.bool (decide (a>=b))))
 | _=>none
def IntKind.eqb:IntKind->IntKind->Bool
 | .i8,.i8 | .i16,.i16 | .i32,.i32 | .i64,.i64 | .u8,.u8 | .u16,.u16 | .u32,.u32 | .u64,.u64=>true
 | _,_=>false
def Ty.d (T:Ty) (t:TypeId):Option TypeDesc:=match T t with | some i=>some i.d | none=>none
def eqC (T:Ty) (cs ds:List C):List Field->Option Bool
 | []=>some true
 | f :: fs => bif f.name == "_" then none else match Ty.d T f.type, cs[f.offset]?, ds[f.offset]? with
  | some (.int _),some (.i (.lit (.int k a))),some (.i (.lit (.int k' b)))=>bif IntKind.eqb k k' then (eqC T cs ds fs).map λr=>(a==b)&&r else none
  | _,_,_=>none
def Iz (T:Ty) (op:BinOp) (t:TypeId) (x y:S):Option Res :=
 match x,y with
 | .v (.one (.i (.lit (.int k a)))),.v (.one (.i (.lit (.int k' b))))=>bif IntKind.eqb k k' then Aej op k a b else none
 | .v (.one (.i (.lit (.bool a)))),.v (.one (.i (.lit (.bool b)))) =>
  match op,Ty.d T t with
  | .eql,some .bool=>some (.pure (.bool (a==b)))
  | .neq,some .bool=>some (.pure (.bool (!(a==b))))
  | _,_=>none
 | .v (.one (.i (.sl _ nl _ rows))),.v (.one (.i (.lit (.slice none 0 0)))) =>
  match op,Ty.d T t with
  | .eql,some (.slice _)=>some ⟨.bool nl,.none,[nl=true \/ rows ≠ []]⟩
  | .neq,some (.slice _)=>some ⟨.bool (!nl),.none,[nl=true \/ rows ≠ []]⟩
  | _,_=>none
 | .v (.one (.i (.lit (.slice none 0 0)))),.v (.one (.i (.lit (.slice none 0 0)))) =>
  match op,Ty.d T t with
  | .eql,some (.slice _)=>some (.pure (.bool true))
  | .neq,some (.slice _)=>some (.pure (.bool false))
  | _,_=>none
 | .v (.agg cs),.v (.agg ds)=>match T t with
  | some ti=>match ti.d with
   | .struct fs=>bif ti.cmp then (match op with
    | .eql=>(eqC T cs ds fs.toList).map λb=>.pure (.bool b)
    | .neq=>(eqC T cs ds fs.toList).map λb=>.pure (.bool (!b))
    | _=>none) else none
   | _=>none
  | none=>none
 | _,_=>none
def B2l (op:UnOp) (x:S):Option Res :=
 match op,x with
 | .not,.v (.one (.i (.lit (.bool b))))=>some (.pure (.bool (!b)))
 | .neg,.v (.one (.i (.lit (.int k n))))=>some (.pure (.lit (.int k (k.wrap (0-n)))))
 | _,_=>none
def Jy (T:Ty) (hint:Option (List C)) (t:TypeId) (x:S) (bx:Nat->Option Box):Option Res :=
 match T t with
 | none=>none
 | some ti =>
  match x with
  | .v (.one (.i (.ref _ cs)))=>(Ip ti (cs.map .i)).bind λv=>some ⟨.v v,.none,[ti.size<=cs.length]⟩
  | .v (.one (.hp h row col))=>match bx h with
   | none=>none
   | some b=>bif Nat.ble (col+ti.size) b.sz && !b.tr then (match hint with
    | none=>(match row,b.rows with
     | 0,[r]=>(Ip ti (r.drop col)).bind λv=>some ⟨.v v,.none,[]⟩
     | _,_=>none)
    | some r=>(Ip ti (r.drop col)).bind λv=>some ⟨.v v,.none,[b.rows[row]? = some r]⟩) else (match hint with
    | none=>none
    | some r=>(match r[col]? with
     | none=>none
     | some c=>bif Nat.ble (col+ti.size) b.sz&&(Nat.beq ti.size 1 && !Hd ti.d)&&c.okT then some ⟨.v (.one c),.none,[b.rows[row]? = some r]⟩ else none))
  | _=>none
def V.fits (ti:TI) (v:V):Bool:=match v with
 | .one _=>Nat.beq ti.size 1 && !Hd ti.d
 | .agg cs=>Nat.beq cs.length ti.size&&Hd ti.d
def Du (r:List C) (col:Nat) (cs:List C):List C:=r.take col++cs++r.drop (col+cs.length)
def Nh (T:Ty) (hint:Option (List C)) (t:TypeId) (a x:S) (bx:Nat->Option Box):Option Res :=
 match T t with
 | none=>none
 | some ti =>
  match a,x with
  | .v (.one (.hp h row col)),.v v=>match bx h with
   | none=>none
   | some b=>bif Nat.ble (col+ti.size) b.sz&&v.fits ti && !b.fz&&(!b.tr || v.cells.all C.okT) then
     let hf:=b.hf&&v.cells.all Dc
     (match hint with
     | none=>(match row,b.rows with
      | 0,[r]=>some ⟨.dead,.set h { b with hf:=hf,rows:=[Du r col v.cells] },[]⟩
      | _,_=>none)
     | some r=>some ⟨.dead,.set h { b with hf:=hf,rows:=b.rows.set row (Du r col v.cells) },[b.rows[row]? = some r]⟩) else none
  | _,_=>none
def R2 (T:Ty) (t:TypeId) (x:S) (f:Nat):Option Res :=
 match Ty.d T t with
 | some (.struct fs)=>match fs[f]? with
  | none=>none
  | some fd=>match T fd.type with
   | none=>none
   | some fi=>bif Nat.beq fi.size 0 then none else match x with
    | .v (.one (.hp h row col))=>some (.pure (.v (.one (.hp h row (col+fd.offset)))))
    | .v (.one (.i (.ref tag cs)))=>some (.pure (.v (.one (.i (.ref tag (cs.drop fd.offset))))))
    | _=>none
 | _=>none
def Qg:S->Option Int
 | .v (.one (.i (.lit (.int .i64 n))))=>some n
 | _=>none
def Nj (T:Ty) (t:TypeId) (x ix:S) (bx:Nat->Option Box):Option Res :=
 match Ty.d T t,Qg ix with
 | some (.slice e),some i=>match T e with
  | none=>none
  | some ei=>match x with
   | .v (.one (.hs h off len))=>match bx h with
    | none=>none
    | some b=>bif Nat.beq b.sz ei.size then some ⟨.v (.one (.hp h (off+i.toNat) 0)),.none,[0<=i,i<(len:Int)]⟩ else none
   | .v (.one (.i (.sl tag _ sz rows)))=>bif Nat.beq sz ei.size then some ⟨.v (.one (.i (.ref tag (rows.getD i.toNat [])))),.none,[0<=i,i<(rows.length:Int)]⟩ else none
   | _=>none
 | _,_=>none
def Afn:Option S->Option Int
 | none=>some 0
 | some v=>Qg v
def hiOf (n:Nat):Option S->Option Int
 | none=>some (n:Int)
 | some v=>Qg v
def Ni (T:Ty) (t:TypeId) (x:S) (lo hi:Option S) (bx:Nat->Option Box):Option Res :=
 match Ty.d T t with
 | some (.slice e)=>match T e with
  | none=>none
  | some ei =>
   match x with
   | .v (.one (.hs h off len))=>match bx h with
    | none=>none
    | some b=>bif Nat.beq b.sz ei.size then (match Afn lo,hiOf len hi with
     | some l,some r=>some ⟨.v (.one (.hs h (off+l.toNat) (r.toNat-l.toNat))),.none,[0<=l,l<=r,r<=(len:Int)]⟩
     | _,_=>none) else none
   | .v (.one (.i (.sl tag nl sz rows)))=>bif Nat.beq sz ei.size then (match Afn lo,hiOf rows.length hi with
     | some l,some r=>some ⟨.v (.one (.i (.sl tag nl sz ((rows.drop l.toNat).take (r.toNat-l.toNat))))),.none,[0<=l,l<=r,r<=(rows.length:Int)]⟩
     | _,_=>none) else none
   | _=>none
 | _=>none
def O4 (T:Ty) (t:TypeId) (x:S):Option Res :=
 match Ty.d T t,x with
 | some (.slice _),.v (.one (.hs _ _ len))=>some (.pure (.int len))
 | some (.slice _),.v (.one (.i (.sl _ _ _ rows)))=>some (.pure (.int rows.length))
 | some (.slice _),.v (.one (.i (.lit (.slice _ n _))))=>some (.pure (.int n))
 | some .string,.v (.one (.i (.lit (.string s))))=>some (.pure (.int s.size))
 | _,_=>none
def Um (mx:Bool) (x y:S):Option Res :=
 match Qg x,Qg y with
 | some a,some b=>some (.pure (.int (if (if mx then b>a else b<a) then b else a)))
 | _,_=>none
def A3w (T:Ty) (src dst:TypeId) (x:S):Option Res :=
 match Ty.d T src,Ty.d T dst,x with
 | some (.int _),some (.int k),.v (.one (.i (.lit (.int _ n))))=>some (.pure (.lit (.int k (k.wrap n))))
 | _,_,_=>none
def B2m (x:S):Option Res :=
 match x with
 | .v (.one (.hp h row col))=>some (.pure (.v (.one (.hp h row col))))
 | .v (.one (.i (.ref tag cs)))=>some (.pure (.v (.one (.i (.ref tag cs)))))
 | _=>none
def B9g (c a b:S):Option Res :=
 match c with
 | .v (.one (.i (.lit (.bool true))))=>some (.pure a)
 | .v (.one (.i (.lit (.bool false))))=>some (.pure b)
 | _=>none
def Un (x:S) (k:Nat):Option Res :=
 match x with
 | .tup xs=>match xs[k]? with
  | some y=>some (.pure (.v y))
  | none=>none
 | _=>none
def Cj (ti:TI):List C:=ti.zero.cells.toList.map λv=>.i (.lit v)
def Eb:Nat->List (Nat × S)->Option (List (List C))
 | _,[]=>some []
 | i,(j,.v v)::r=>bif Nat.beq i j then (Eb (i+1) r).map (v.cells :: ·) else none
 | _,_=>none
end Go.Ev

/- DERIVED. The operations on abstract values are what the operations do: loads, stores, addresses. -/
namespace Go.Ev
open Go
variable {P:Program} {T:Ty}
theorem B8.und (hT:B8 P T) {t:TypeId} {i:TI} (h:T t=some i):P.underlying t=some i.d:=(hT t i h).und
theorem B8.size (hT:B8 P T) {t:TypeId} {i:TI} (h:T t=some i) (w:World):(sizeOf t).run P w = .ok i.size w:=by
 obtain ⟨inf,hi,hs,_⟩:=(hT t i h).info;simp [sizeOf,typeInfo,hi,hs]
theorem B8.zero (hT:B8 P T) {t:TypeId} {i:TI} (h:T t=some i) (w:World):(zeroValue t).run P w = .ok i.zero w:=by
 obtain ⟨inf,hi,_,_,hz⟩:=(hT t i h).info;simp [zeroValue,typeInfo,hi,hz]
theorem B8.agg (hT:B8 P T) {t:TypeId} {i:TI} (h:T t=some i) (w:World):(isAgg t).run P w = .ok (Hd i.d) w:=by
 simp only [isAgg,Sem.run_bind,run_underlying (hT.und h),Result.andThen_ok]
 cases i.d <;> rfl
theorem Kl (g o n:Nat):(⟨g,o,none⟩:Addr).add n=⟨g,o+n,none⟩:=by unfold Addr.add;split <;> simp_all
theorem P9 (hT:B8 P T) {t:TypeId} {ti:TI} (ht:T t=some ti) {w:World} {E:Env} {g o:Nat} {cs:List C} {x:V} (hl:ti.size<=cs.length)
  (hc:∀ (j:Nat) (c:C),cs[j]? = some c->∃ v,w.cell? ⟨g,o+j,none⟩=some v/\Rc w E v c) (h:Ip ti cs=some x) :
  ∃ u,(loadVar t ⟨g,o,none⟩).run P w = .ok u w/\Rv w E u x:=by
 unfold Ip at h;simp only [loadVar,Sem.run_bind,hT.agg ht,Result.andThen_ok]
 cases ha:Hd ti.d with
 | true =>
  rw [ha] at h;simp only [cond] at h;obtain rfl:=QA h
  have hcells:=run_loadCells (P:=P) w ⟨g,o,none⟩ ti.size (λj=>(w.cell? ⟨g,o+j,none⟩).getD undef) (λj hj=>by
   obtain ⟨v,hv,_⟩:=hc j _ (QN (XB hj hl))
   rw [Kl,hv];rfl)
  refine ⟨.agg ((List.range ti.size).map λj=>(w.cell? ⟨g,o+j,none⟩).getD undef).toArray,?_,.agg ⟨?_,?_⟩⟩
  . simp only [if_true,Sem.run_bind,hT.size ht,Result.andThen_ok,hcells,Sem.run_pure]
  . simp [KN,Qam hl]
  . intro j v c hv hcj;rw [QQ] at hv;by_cases hj:j<ti.size
    . rw [Qaj hj] at hv;rw [XM,QC hj] at hcj;obtain ⟨u,hu,hr⟩:=hc j c hcj;simp only [QV,hu,YN] at hv;obtain rfl:=QA hv;exact hr
    . rw [XM,QB hj] at hcj
      cases hcj
 | false =>
  rw [ha] at h;simp only [cond] at h
  cases cs with
  | nil=>cases h
  | cons c r =>
   obtain rfl:=QA h;obtain ⟨v,hv,hr⟩:=hc 0 c rfl;refine ⟨v,?_,.one hr⟩;simp only [XG,if_false,run_load];rw [show (⟨g,o,none⟩:Addr)=⟨g,o+0,none⟩ from rfl,hv]
theorem Rs.one_inv {w:World} {E:Env} {v:Value} {c:C} (h:Rs w E v (.v (.one c))):Rc w E v c:=by
 cases h with | v h=>cases h with | one h=>exact h
theorem Rs.v_inv {w:World} {E:Env} {v:Value} {x:V} (h:Rs w E v (.v x)):Rv w E v x:=by
 cases h with | v h=>exact h
theorem Rs.i_inv {w:World} {E:Env} {v:Value} {x:I} (h:Rs w E v (.v (.one (.i x)))):Ri w E v x:=by
 cases h.one_inv with | i h=>exact h
theorem Rs.hp_inv {w:World} {E:Env} {v:Value} {h row col:Nat} (hr:Rs w E v (.v (.one (.hp h row col)))):∃ g sz cap,E.β h=some (g,sz,cap)/\v = .pointer (some ⟨g,row*sz+col,none⟩):=by
 cases hr.one_inv with | hp _ _ _ g sz cap hβ=>exact ⟨g,sz,cap,hβ,rfl⟩
theorem Rs.hs_inv {w:World} {E:Env} {v:Value} {h off len:Nat} (hr:Rs w E v (.v (.one (.hs h off len)))):∃ g sz cap ad,E.β h=some (g,sz,cap)/\off+len<=cap/\(off<cap \/ off=0->ad=⟨g,off*sz,none⟩)/\v = .slice (some ad) len (cap-off):=by
 cases hr.one_inv with | hs _ _ _ g sz cap ad hβ hle had=>exact ⟨g,sz,cap,ad,hβ,hle,had,rfl⟩
theorem A6.box {Γ:Ctx} {w:World} {E:Env} {s:St} {tmps:Array Value} (hs:A6 Γ w E s tmps) {h:Nat} {b:Box} {g sz cap:Nat} (hb:A1 h s.boxes=some b) (hβ:E.β h=some (g,sz,cap)) :
  sz=b.sz/\(b.tr=false->C3 w E b g cap)/\C3 w (E.rd h b.tr) b g cap/\E.ω g=none:=by
 obtain ⟨g',cap',hβ',hat,hω,_⟩:=hs.boxes h b hb;rw [hβ] at hβ';simp only [QF,QL] at hβ';obtain ⟨rfl,rfl,rfl⟩:=hβ'
 exact ⟨rfl,λe=>by rw [e] at hat;exact hat,hat,hω⟩
theorem C3.cell {w:World} {E:Env} {b:Box} {g cap:Nat} (h:C3 w E b g cap) {i j:Nat} {r:List C} {c:C} (hi:b.rows[i]? = some r) (hj:r[j]? = some c) :
  ∃ v,w.cell? ⟨g,i*b.sz+j,none⟩=some v/\Rc w E v c:=by
 obtain ⟨arr,hg,_,_,_,_,hc,_⟩:=h;obtain ⟨v,hv,hr⟩:=hc i r j c hi hj
 exact ⟨v,by simp [World.cell?,hg,hv],hr⟩
theorem C3.len {w:World} {E:Env} {b:Box} {g cap:Nat} (h:C3 w E b g cap) {i:Nat} {r:List C} (hi:b.rows[i]? = some r):r.length=b.sz:=by
 obtain ⟨arr,_,_,_,_,hl,_⟩:=h;exact hl i r hi
theorem Ao5 {Γ:Ctx} (hT:B8 P T) {w:World} {E:Env} {s:St} {tmps:Array Value} (hs:A6 Γ w E s tmps) {t:TypeId} {ti:TI} (ht:T t=some ti) {v:Value} {h row col:Nat} {b:Box}
  (hv:Rs w E v (.v (.one (.hp h row col)))) (hb:A1 h s.boxes=some b) (htr:b.tr=false) {r:List C} (hr:b.rows[row]? = some r) (hle:col+ti.size<=b.sz) {x:V} (hx:Ip ti (r.drop col)=some x) :
  ∃ u,(Instr.loadAt t v).run P w = .ok u w/\Rv w E u x:=by
 obtain ⟨g,sz,cap,hβ,rfl⟩:=hv.hp_inv;obtain ⟨rfl,hat,_⟩:=hs.box hb hβ;have hat:=hat htr;have hlen:=hat.len hr
 obtain ⟨u,hu,hru⟩:=P9 hT ht (w:=w) (E:=E) (g:=g) (o:=row*b.sz+col) (cs:=r.drop col) (by simp;omega) (λj c hj=>by
  rw [YH] at hj;obtain ⟨v,hv,hrc⟩:=hat.cell hr hj
  exact ⟨v,by rw [Qbe];exact hv,hrc⟩) hx
 exact ⟨u,by simpa [Instr.loadAt,Instr.sureAddr] using hu,hru⟩
theorem B4i {Γ:Ctx} (hT:B8 P T) {w:World} {E:Env} {s:St} {tmps:Array Value} (hs:A6 Γ w E s tmps) {t:TypeId} {ti:TI} (ht:T t=some ti) {v:Value} {h row col:Nat} {b:Box}
  (hv:Rs w E v (.v (.one (.hp h row col)))) (hb:A1 h s.boxes=some b) {r:List C} (hr:b.rows[row]? = some r) {c:C} (hc:r[col]? = some c) (hok:c.okT=true) (h1:ti.size=1) (h2:Hd ti.d=false) :
  ∃ u,(Instr.loadAt t v).run P w = .ok u w/\Rv w E u (.one c):=by
 obtain ⟨g,sz,cap,hβ,rfl⟩:=hv.hp_inv;obtain ⟨rfl,_,hat,_⟩:=hs.box hb hβ
 obtain ⟨u,hu,hru⟩:=P9 hT ht (w:=w) (E:=E) (g:=g) (o:=row*b.sz+col) (cs:=[c]) (x:=.one c) (by simp [h1]) (λj c' hj=>by
  have:j=0:=by have:=(ZD.1 hj).1;simp at this;omega
  subst this;simp at hj;subst hj;obtain ⟨v,hv,hrc⟩:=hat.cell hr hc
  exact ⟨v,by simpa using hv,hrc.okT (by rw [Env.rd_β]) hok⟩) (by unfold Ip;rw [h2];rfl)
 exact ⟨u,by simpa [Instr.loadAt,Instr.sureAddr] using hu,hru⟩
theorem Acc {Γ:Ctx} (hT:B8 P T) {w:World} {E:Env} {s:St} {tmps:Array Value} (hs:A6 Γ w E s tmps) {hint:Option (List C)} {t:TypeId} {v:Value} {x:S} {r:Res}
  (hv:Rs w E v x) (h:Jy T hint t x (A1 · s.boxes)=some r) (ho:∀ p ∈ r.ob,p):∃ u,(Instr.loadAt t v).run P w = .ok u w/\Rs w E u r.val/\r.eff = .none:=by
 unfold Jy at h;split at h
 . cases h
 . rename_i ti ht;split at h
   . rename_i tag cs;rw [YX] at h;obtain ⟨y,hy,h⟩:=h;obtain rfl:=QA h
     have hle:ti.size<=cs.length:=ho _ (by simp)
     have hv':=hv.i_inv
     cases hv' with | ref _ g o _ vs hg hb hcell hrc =>
     obtain ⟨u,hu,hru⟩:=P9 hT ht (w:=w) (E:=E) (g:=g) (o:=o) (cs:=cs.map .i) (by simpa using hle) (λj c hj=>by
      rw [QQ] at hj;obtain ⟨z,hz,rfl⟩:=QI.1 hj
      exact ⟨vs j,hcell j z hz,.i (hrc j z hz)⟩) hy
     exact ⟨u,by simpa [Instr.loadAt,Instr.sureAddr] using hu,.v hru,rfl⟩
   . rename_i hh row col;split at h
     . cases h
     . rename_i b hb
       cases hble:(Nat.ble (col+ti.size) b.sz && !b.tr) with
       | false =>
        rw [hble] at h;simp only [cond] at h;split at h
        . cases h
        . rename_i r0;split at h
          . cases h
          . rename_i c0 hc0
            cases hcd:(Nat.ble (col+ti.size) b.sz&&(Nat.beq ti.size 1 && !Hd ti.d)&&c0.okT) with
            | false=>rw [hcd] at h;cases h
            | true =>
             rw [hcd] at h;obtain rfl:=QA h;simp only [QH,XH] at hcd
             obtain ⟨u,hu,hru⟩:=B4i hT hs ht hv hb (ho _ (by simp)) hc0 hcd.2 (QD hcd.1.2.1) hcd.1.2.2
             exact ⟨u,hu,.v hru,rfl⟩
       | true =>
        rw [hble] at h;simp only [cond] at h;simp only [QH,XH] at hble;have htr:=hble.2;have hle:col+ti.size<=b.sz:=XO hble.1;split at h
        . split at h
          . rename_i _ _ r0 hrows;rw [YX] at h;obtain ⟨y,hy,h⟩:=h;obtain rfl:=QA h
            obtain ⟨u,hu,hru⟩:=Ao5 hT hs ht hv hb htr (r:=r0) (by rw [hrows];rfl) hle hy
            exact ⟨u,hu,.v hru,rfl⟩
          . cases h
        . rename_i r0;rw [YX] at h;obtain ⟨y,hy,h⟩:=h;obtain rfl:=QA h
          obtain ⟨u,hu,hru⟩:=Ao5 hT hs ht hv hb htr (r:=r0) (ho _ (by simp)) hle hy
          exact ⟨u,hu,.v hru,rfl⟩
   . cases h
end Go.Ev

/- DERIVED. The operations on abstract values are what the operations do: addresses, slices, numbers. -/
namespace Go.Ev
open Go
variable {P:Program} {T:Ty}
theorem Ty.d_some {t:TypeId} {d:TypeDesc} (h:Ty.d T t=some d):∃ i,T t=some i/\i.d=d:=by
 unfold Ty.d at h;split at h
 . rename_i i hi;exact ⟨i,hi,QA h⟩
 . cases h
theorem B8.d (hT:B8 P T) {t:TypeId} {d:TypeDesc} (h:Ty.d T t=some d):P.underlying t=some d:=by
 obtain ⟨i,hi,rfl⟩:=Ty.d_some h;exact hT.und hi
theorem Ri.ref_drop {w:World} {E:Env} {v:Value} {tag:Nat} {cs:List I} (h:Ri w E v (.ref tag cs)) (n:Nat) :
  ∃ g o,v = .pointer (some ⟨g,o,none⟩)/\Ri w E (.pointer (some ⟨g,o+n,none⟩)) (.ref tag (cs.drop n)):=by
 cases h with | ref _ g o _ vs hg hb hcell hrc =>
 refine ⟨g,o,rfl,.ref tag g (o+n) _ (λj=>vs (n+j)) hg hb (λj c hj=>?_) (λj c hj=>?_)⟩
 . rw [YH] at hj;rw [Qbe];exact hcell _ c hj
 . rw [YH] at hj;exact hrc _ c hj
theorem Atu (hT:B8 P T) {w:World} {E:Env} {t:TypeId} {f:Nat} {v:Value} {x:S} {r:Res} (hv:Rs w E v x) (h:R2 T t x f=some r) :
  ∃ u,(Instr.fieldAt t v f).run P w = .ok u w/\Rs w E u r.val/\r.eff = .none:=by
 unfold R2 at h;split at h
 . rename_i fs hd;split at h
   . cases h
   . rename_i fd hf;split at h
     . cases h
     . rename_i fi hfi
       cases hz:Nat.beq fi.size 0 with
       | true=>rw [hz] at h;cases h
       | false =>
        rw [hz] at h;simp only [cond] at h
        have hne:fi.size ≠ 0:=λe=>by rw [e] at hz;cases hz
        have place:∀ g o,(fieldPlace ⟨g,o,none⟩ fd).run P w = .ok ⟨g,o+fd.offset,none⟩ w:=by
         intro g o;simp [fieldPlace,hT.size hfi,hne,Kl]
        split at h
        . rename_i hh row col;obtain rfl:=QA h;obtain ⟨g,sz,cap,hβ,rfl⟩:=hv.hp_inv;refine ⟨.pointer (some ⟨g,row*sz+(col+fd.offset),none⟩),?_,.v (.one (.hp hh row (col+fd.offset) g sz cap hβ)),rfl⟩;simp [Instr.fieldAt,run_underlying (hT.d hd),hf,Instr.sureAddr,place,Qbe]
        . rename_i tag cs;obtain rfl:=QA h;obtain ⟨g,o,rfl,hr⟩:=(hv.i_inv).ref_drop fd.offset;refine ⟨.pointer (some ⟨g,o+fd.offset,none⟩),?_,.v (.one (.i hr)),rfl⟩;simp [Instr.fieldAt,run_underlying (hT.d hd),hf,Instr.sureAddr,place]
        . cases h
 . cases h
theorem Fn {w:World} {E:Env} {v:Value} {x:S} {n:Int} (hv:Rs w E v x) (h:Qg x=some n):v = .int .i64 n:=by
 unfold Qg at h;split at h
 . obtain rfl:=QA h;exact hv.lit_inv
 . cases h
theorem Atr {Γ:Ctx} (hT:B8 P T) {w:World} {E:Env} {s:St} {tmps:Array Value} (hs:A6 Γ w E s tmps) {t:TypeId} {v vi:Value} {x xi:S} {r:Res}
  (hv:Rs w E v x) (hvi:Rs w E vi xi) (h:Nj T t x xi (A1 · s.boxes)=some r) (ho:∀ p ∈ r.ob,p) :
  ∃ u,(Instr.indexAt t v vi).run P w = .ok u w/\Rs w E u r.val/\r.eff = .none:=by
 unfold Nj at h;split at h
 . rename_i e i hd hi;obtain rfl:=Fn hvi hi;split at h
   . cases h
   . rename_i ei hei;split at h
     . rename_i hh off len;split at h
       . cases h
       . rename_i b hb
         cases hz:Nat.beq b.sz ei.size with
         | false=>rw [hz] at h;cases h
         | true =>
          rw [hz] at h;simp only [cond] at h;obtain rfl:=QA h;have hsz:=QD hz
          have h0:0<=i:=ho _ (by simp)
          have h1:i<(len:Int):=ho _ (by simp)
          obtain ⟨g,sz,cap,ad,hβ,hle,had,rfl⟩:=hv.hs_inv;obtain ⟨rfl,hat⟩:=hs.box hb hβ
          obtain rfl:=had (.inl (by omega))
          refine ⟨.pointer (some ⟨g,(off+i.toNat)*b.sz+0,none⟩),?_,.v (.one (.hp hh _ 0 g b.sz cap hβ)),rfl⟩;simp [Instr.indexAt,asIntOf,run_underlying (hT.d hd),h0,h1,hT.size hei,Kl,<- hsz,YQ]
     . rename_i tag nl sz rows
       cases hz:Nat.beq sz ei.size with
       | false=>rw [hz] at h;cases h
       | true =>
        rw [hz] at h;simp only [cond] at h;obtain rfl:=QA h;have hsz:=QD hz
        have h0:0<=i:=ho _ (by simp)
        have h1:i<(rows.length:Int):=ho _ (by simp)
        have hlt:i.toNat<rows.length:=by omega
        have hv':=hv.i_inv
        cases hv' with
        | nil=>simp at h1;omega
        | sl _ _ g o cap _ vs hne hcap hg hb hlen hcell hrc =>
         have hrow:rows[i.toNat]? = some (rows.getD i.toNat []):=by simp [List.getD,QN hlt]
         refine ⟨.pointer (some ⟨g,o+i.toNat*sz,none⟩),?_,.v (.one (.i (.ref tag g _ _ (λj=>vs i.toNat j) hg hb (λj c hj=>?_) (λj c hj=>?_)))),rfl⟩
         . simp [Instr.indexAt,asIntOf,run_underlying (hT.d hd),h0,h1,hT.size hei,Kl,<- hsz]
         . rw [Qbe];exact hcell _ _ j c hrow hj
         . exact hrc _ _ j c hrow hj
     . cases h
 . cases h
theorem B4m (hT:B8 P T) {w:World} {E:Env} {t ty:TypeId} {v:Value} {x:S} {r:Res} (hv:Rs w E v x) (h:O4 T t x=some r) :
  ∃ u,(Builtin.len_ #[t] ty #[v]).run P w = .ok u w/\Rs w E u r.val/\r.eff = .none:=by
 have lit:∀ (n:Nat),Rs w E (goInt n) (.int n):=λn=>.v (.one (.i (.lit _ rfl)));unfold O4 at h;split at h
 . rename_i hd;obtain rfl:=QA h;obtain ⟨g,sz,cap,ad,hβ,hle,had,rfl⟩:=hv.hs_inv
   exact ⟨_,by simp [Builtin.len_,run_underlying (hT.d hd)],lit _,rfl⟩
 . rename_i tag nl sz rows hd;obtain rfl:=QA h
   cases hv.i_inv with
   | nil=>exact ⟨_,by simp [Builtin.len_,run_underlying (hT.d hd)],lit _,rfl⟩
   | sl=>exact ⟨_,by simp [Builtin.len_,run_underlying (hT.d hd)],lit _,rfl⟩
 . rename_i hd;obtain rfl:=QA h;obtain rfl:=hv.lit_inv
   exact ⟨_,by simp [Builtin.len_,run_underlying (hT.d hd)],lit _,rfl⟩
 . rename_i hd;obtain rfl:=QA h;obtain rfl:=hv.lit_inv
   exact ⟨_,by simp [Builtin.len_,run_underlying (hT.d hd)],lit _,rfl⟩
 . cases h
theorem B4e {w:World} {E:Env} {ts:Array TypeId} {ty:TypeId} {v u:Value} {x y:S} {r:Res} (hv:Rs w E v x) (hu:Rs w E u y) (h:Um true x y=some r) :
  ∃ z,(Builtin.max_ ts ty #[v,u]).run P w = .ok z w/\Rs w E z r.val/\r.eff = .none:=by
 unfold Um at h;split at h
 . rename_i a b ha hb;obtain rfl:=QA h;obtain rfl:=Fn hv ha;obtain rfl:=Fn hu hb
   exact ⟨_,by simp [Builtin.max_,Builtin.max2],.v (.one (.i (.lit _ rfl))),rfl⟩
 . cases h
theorem B4c {w:World} {E:Env} {ts:Array TypeId} {ty:TypeId} {v u:Value} {x y:S} {r:Res} (hv:Rs w E v x) (hu:Rs w E u y) (h:Um false x y=some r) :
  ∃ z,(Builtin.min_ ts ty #[v,u]).run P w = .ok z w/\Rs w E z r.val/\r.eff = .none:=by
 unfold Um at h;split at h
 . rename_i a b ha hb;obtain rfl:=QA h;obtain rfl:=Fn hv ha;obtain rfl:=Fn hu hb
   exact ⟨_,by simp [Builtin.min_,Builtin.min2],.v (.one (.i (.lit _ rfl))),rfl⟩
 . cases h
theorem B2p (hT:B8 P T) {w:World} {E:Env} {src dst:TypeId} {v:Value} {x:S} {r:Res} (hv:Rs w E v x) (h:A3w T src dst x=some r) :
  ∃ u,(convert src dst v).run P w = .ok u w/\Rs w E u r.val/\r.eff = .none:=by
 unfold A3w at h;split at h
 . rename_i k0 k k1 n hs hd;obtain rfl:=QA h;obtain rfl:=hv.lit_inv
   exact ⟨_,by simp [convert,run_underlying (hT.d hs),run_underlying (hT.d hd),Conv.intToInt],.v (.one (.i (.lit _ rfl))),rfl⟩
 . cases h
theorem Anu {w:World} {e:TypeId} {k:IntKind} (hu:P.underlying e=some (.int k)) {xs:Array Value} {off:Nat} {v:Value} (hx:xs[off]? = some v):(part e xs off).run P w = .ok v w:=by
 simp [part,isAgg,run_underlying hu,hx]
theorem Bkv (hT:B8 P T) {w:World} {E:Env} {d:Nat} {vs us:List Value} {cs ds:List C} (hv:Fq w E vs cs) (hu:Fq w E us ds):∀ {fs:List Field} {b:Bool},eqC T cs ds fs=some b->(Op.eqFields (d+1) vs.toArray us.toArray fs).run P w = .ok b w:=by
 intro fs
 induction fs with
 | nil=>intro b h;obtain rfl:=QA h;rfl
 | cons f fs ih =>
  intro b h;simp only [eqC] at h
  cases hn : (f.name == "_") with
  | true=>rw [hn] at h;cases h
  | false =>
   rw [hn] at h;simp only [cond] at h
   have hn' : f.name ≠ "_" := by simpa using hn
   split at h
   . rename_i k0 k a k' b' ht hc hd
     cases hk:IntKind.eqb k k' with
     | false=>rw [hk] at h;cases h
     | true =>
      rw [hk] at h;simp only [cond,QI] at h;obtain ⟨r,hr,rfl⟩:=h
      obtain rfl:k=k':=by cases k <;> cases k' <;> first | rfl | (simp [IntKind.eqb] at hk)
      have get:∀ {ws:List Value} {es:List C} {c:C},Fq w E ws es->es[f.offset]? = some c->∃ v,ws.toArray[f.offset]? = some v/\Rc w E v c:=by
       intro ws es c hw he
       have hlt:f.offset<ws.length:=by rw [hw.1];exact (ZD.1 he).1
       refine ⟨ws[f.offset],by simp [hlt],hw.2 _ _ _ (by simp [hlt]) he⟩
      obtain ⟨v1,g1,r1⟩:=get hv hc;obtain ⟨v2,g2,r2⟩:=get hu hd
      have e1:v1 = .int k a:=by cases r1 with | i h=>cases h;rfl
      have e2:v2 = .int k b':=by cases r2 with | i h=>cases h;rfl
      subst e1;subst e2;have hund:=hT.d ht;simp only [Op.eqFields];rw [QC hn'];simp only [Sem.run_bind,Anu hund g1,Anu hund g2,Result.andThen_ok,run_equalIn_int w d f.type k k0 a b' hund]
      cases hab:(a==b') with
      | false=>simp
      | true=>simpa using ih hr
   . cases h
theorem Ba3 (hT:B8 P T) {w:World} {E:Env} {op:BinOp} {t:TypeId} {ox oy:Operand} {v u:Value} {x y:S} {r:Res} (hv:Rs w E v x) (hu:Rs w E u y) (h:Iz T op t x y=some r) (ho:∀ p ∈ r.ob,p) :
  ∃ z,(do eqGuard op t ox oy v u;binOp op t v u:Sem Value).run P w = .ok z w/\Rs w E z r.val/\r.eff = .none:=by
 unfold Iz at h;split at h
 . rename_i k a k' b;obtain rfl:=hv.lit_inv;obtain rfl:=hu.lit_inv
   have hk:k=k':=by cases k <;> cases k' <;> first | rfl | (simp [IntKind.eqb] at h)
   subst hk
   have hk:IntKind.eqb k k=true:=by cases k <;> rfl
   rw [hk] at h;simp only [cond] at h
   have hg:∀ w,(eqGuard op t ox oy (.int k a) (.int k b)).run P w = .ok () w:=by
    intro w;cases op <;> simp [eqGuard]
   simp only [Sem.run_bind,hg,Result.andThen_ok];by_cases hq:op = .quo \/ op = .rem
   . have hb:b ≠ 0:=by rcases hq with rfl | rfl <;> (simp only [Aej] at h;obtain rfl:=QA h;exact ho _ (by simp))
     rcases hq with rfl | rfl <;> (simp only [Aej] at h;obtain rfl:=QA h;exact ⟨_,by simp [binOp,Op.intDiv,hb],.v (.one (.i (.lit _ rfl))),rfl⟩)
   . cases op <;> simp only [Aej] at h <;> first
      | (cases h;done)
      | (simp at hq;done)
      | (obtain rfl:=QA h;exact ⟨_,by simp [binOp,Op.intArith,Op.intCmp];done,.v (.one (.i (.lit _ rfl))),rfl⟩)
 . rename_i a b;obtain rfl:=hv.lit_inv;obtain rfl:=hu.lit_inv;split at h
   . rename_i hd;obtain rfl:=QA h
     exact ⟨_,by simp [eqGuard,binOp,run_equal_bool w t a b (hT.d hd)];done,.v (.one (.i (.lit _ rfl))),rfl⟩
   . rename_i hd;obtain rfl:=QA h
     exact ⟨_,by simp [eqGuard,binOp,run_equal_bool w t a b (hT.d hd)];done,.v (.one (.i (.lit _ rfl))),rfl⟩
   . cases h
 . rename_i tag nl sz rows;obtain rfl:=hu.lit_inv
   have key:(nl=true \/ rows ≠ [])->∃ a m c',v = .slice a m c'/\a.isNone=nl:=by
    intro hor
    cases hv.i_inv with
    | nil _ _ cap a _ hn hc =>
     rcases hor with hor | hor
     . subst hor;exact ⟨a,0,cap,rfl,by rw [hn rfl];rfl⟩
     . exact absurd rfl hor
    | sl=>exact ⟨_,_,_,rfl,rfl⟩
   split at h
   . rename_i e hd;obtain rfl:=QA h
     obtain ⟨a,m,c',rfl,hn⟩:=key (ho _ (by simp))
     refine ⟨.bool nl,?_,.v (.one (.i (.lit _ rfl))),rfl⟩;subst hn;simp [eqGuard,binOp,run_equal_slice_nil w t e a m c' (hT.d hd)]
   . rename_i e hd;obtain rfl:=QA h
     obtain ⟨a,m,c',rfl,hn⟩:=key (ho _ (by simp))
     refine ⟨.bool (!nl),?_,.v (.one (.i (.lit _ rfl))),rfl⟩;subst hn;simp [eqGuard,binOp,run_equal_slice_nil w t e a m c' (hT.d hd)]
   . cases h
 . obtain rfl:=hv.lit_inv;obtain rfl:=hu.lit_inv;split at h
   . rename_i e hd;obtain rfl:=QA h
     exact ⟨.bool true,by simp [eqGuard,binOp,run_equal_slice_nil w t e none 0 0 (hT.d hd)],.v (.one (.i (.lit _ rfl))),rfl⟩
   . rename_i e hd;obtain rfl:=QA h
     exact ⟨.bool false,by simp [eqGuard,binOp,run_equal_slice_nil w t e none 0 0 (hT.d hd)],.v (.one (.i (.lit _ rfl))),rfl⟩
   . cases h
 . rename_i cs ds;split at h
   . rename_i ti hti;split at h
     . rename_i fs hfs
       cases hcmp:ti.cmp with
       | false=>rw [hcmp] at h;cases h
       | true =>
        rw [hcmp] at h;simp only [cond] at h;have ok:=hT t ti hti
        have hund:P.underlying t=some (.struct fs):=by rw [ok.und,hfs]
        have hfo:P.fieldsOf t=fs:=by unfold Program.fieldsOf;rw [hund]
        obtain ⟨hst,heq⟩:=ok.cmp hcmp
        cases hv with | v hv=>cases hu with | v hu=>cases hv with | agg hv=>cases hu with | agg hu =>
        rename_i vs us;have hg:(eqGuard op t ox oy (.agg vs.toArray) (.agg us.toArray)).run P w = .ok () w:=run_eqGuard_agg w op t ox oy _ _ heq
        have key:∀ b,eqC T cs ds fs.toList=some b->(Op.equalIn 10000 t (.agg vs.toArray) (.agg us.toArray)).run P w = .ok b w:=λb hb=>by
         rw [run_equalIn_struct w 9999 t _ _ (by rw [hfo];exact hund) hst,hfo]
         exact Bkv hT hv hu hb
        split at h
        . simp only [QI] at h;obtain ⟨b,hb,rfl⟩:=h
          exact ⟨.bool b,by simp only [Sem.run_bind,hg,Result.andThen_ok,run_eql_struct,key b hb],.v (.one (.i (.lit _ rfl))),rfl⟩
        . simp only [QI] at h;obtain ⟨b,hb,rfl⟩:=h
          exact ⟨.bool (!b),by simp only [Sem.run_bind,hg,Result.andThen_ok,run_neq_struct,key b hb],.v (.one (.i (.lit _ rfl))),rfl⟩
        . cases h
     . cases h
   . cases h
 . cases h
theorem Ban {w:World} {E:Env} {op:UnOp} {v:Value} {x:S} {r:Res} (hv:Rs w E v x) (h:B2l op x=some r) :
  ∃ z,(Op.unary op v).run P w = .ok z w/\Rs w E z r.val/\r.eff = .none:=by
 unfold B2l at h;split at h
 . obtain rfl:=QA h;obtain rfl:=hv.lit_inv
   exact ⟨_,by simp [Op.unary];try rfl,.v (.one (.i (.lit _ rfl))),rfl⟩
 . obtain rfl:=QA h;obtain rfl:=hv.lit_inv
   exact ⟨_,by simp [Op.unary,Op.intArith];try rfl,.v (.one (.i (.lit _ rfl))),rfl⟩
 . cases h
end Go.Ev

/- DERIVED. The operations on abstract values are what the operations do: slices of slices; new boxes. -/
namespace Go.Ev
open Go
variable {P:Program} {T:Ty}
theorem Ba0 {w:World} {i:Int} {y:Nat} {code:BoundsCode} (h0:0<=i) (h1:i<=(y:Int)):(Instr.sliceBound (.int .i64 i) y code).run P w = .ok i.toNat w:=by
 simp [Instr.sliceBound,asIntOf,h0,h1]
theorem A02 {w:World} {E:Env} {len cap:Nat} {lo hi:Option S} {vlo vhi:Option Value} {l r:Int}
  (hlo:∀ x,lo=some x->∃ v,vlo=some v/\Rs w E v x) (hlo0:lo=none->vlo=none) (hhi:∀ x,hi=some x->∃ v,vhi=some v/\Rs w E v x) (hhi0:hi=none->vhi=none)
  (hl:Afn lo=some l) (hr:hiOf len hi=some r)
  (h0:0<=l) (h1:l<=r) (h2:r<=(len:Int)) (hc:len<=cap):(Instr.sliceBounds true len cap vlo vhi none).run P w = .ok (l.toNat,r.toNat,cap) w:=by
 have hb:=λ(i:Int) (y:Nat) (code:BoundsCode)=>Ba0 (P:=P) (w:=w) (i:=i) (y:=y) (code:=code)
 cases hi with
 | none =>
  obtain rfl:=hhi0 rfl;simp only [hiOf,QF] at hr;subst hr
  cases lo with
  | none =>
   obtain rfl:=hlo0 rfl;simp only [Afn,QF] at hl;subst hl;simp [Instr.sliceBounds]
  | some x =>
   obtain ⟨v,rfl,hv⟩:=hlo x rfl;obtain rfl:=Fn hv hl;simp [Instr.sliceBounds,hb l len _ h0 h1]
 | some y =>
  obtain ⟨v,rfl,hv⟩:=hhi y rfl;obtain rfl:=Fn hv hr
  cases lo with
  | none =>
   obtain rfl:=hlo0 rfl;simp only [Afn,QF] at hl;subst hl
   simp [Instr.sliceBounds,hb r cap _ (by omega) (by omega)]
  | some x =>
   obtain ⟨v,rfl,hv⟩:=hlo x rfl;obtain rfl:=Fn hv hl
   simp [Instr.sliceBounds,hb r cap _ (by omega) (by omega),hb l r.toNat _ h0 (by omega)]
theorem Atk {Γ:Ctx} (hT:B8 P T) {w:World} {E:Env} {s:St} {tmps:Array Value} (hs:A6 Γ w E s tmps) {t:TypeId} {v:Value} {x:S} {lo hi:Option S} {vlo vhi:Option Value} {r:Res}
  (hv:Rs w E v x) (hlo:∀ x,lo=some x->∃ v,vlo=some v/\Rs w E v x) (hlo0:lo=none->vlo=none) (hhi:∀ x,hi=some x->∃ v,vhi=some v/\Rs w E v x) (hhi0:hi=none->vhi=none)
  (h:Ni T t x lo hi (A1 · s.boxes)=some r) (ho:∀ p ∈ r.ob,p) :
  ∃ u,(Instr.sliceAt t v vlo vhi none).run P w = .ok u w/\Rs w E u r.val/\r.eff = .none:=by
 unfold Ni at h;split at h
 . rename_i e hd;split at h
   . cases h
   . rename_i ei hei;split at h
     . rename_i hh off len;split at h
       . cases h
       . rename_i b hb
         cases hz:Nat.beq b.sz ei.size with
         | false=>rw [hz] at h;cases h
         | true =>
          rw [hz] at h;simp only [cond] at h;have hsz:=QD hz;split at h
          . rename_i l r' hl hr;obtain rfl:=QA h
            have h0:0<=l:=ho _ (by simp)
            have h1:l<=r':=ho _ (by simp)
            have h2:r'<=(len:Int):=ho _ (by simp)
            obtain ⟨g,sz,cap,ad,hβ,hle,had,rfl⟩:=hv.hs_inv;obtain ⟨rfl,hat⟩:=hs.box hb hβ
            have hbr:=A02 (P:=P) (len:=len) (cap:=cap-off) hlo hlo0 hhi hhi0 hl hr h0 h1 h2 (by omega)
            refine ⟨.slice (some (if cap-off=l.toNat then ad else ad.add (l.toNat*ei.size))) (r'.toNat-l.toNat) (cap-(off+l.toNat)),?_,.v (.one (.hs hh _ _ g b.sz cap _ hβ (by omega) ?_)),rfl⟩
            . simp only [Instr.sliceAt,Sem.run_bind,run_underlying (hT.d hd),Result.andThen_ok,Instr.slice,hbr,hT.size hei,Sem.run_pure]
              have:cap-off-l.toNat=cap-(off+l.toNat):=by omega
              rw [this];split <;> simp
            . intro hlt;by_cases hm:cap-off=l.toNat
              . rw [QC hm]
                have:off=0/\l.toNat=0:=by omega
                rw [had (.inr this.1),this.1,this.2]
              . rw [QB hm,had (.inl (by omega)),Kl,<- hsz,YQ]
          . cases h
     . rename_i tag nl sz rows
       cases hz:Nat.beq sz ei.size with
       | false=>rw [hz] at h;cases h
       | true =>
        rw [hz] at h;simp only [cond] at h;have hsz:=QD hz;split at h
        . rename_i l r' hl hr;obtain rfl:=QA h
          have h0:0<=l:=ho _ (by simp)
          have h1:l<=r':=ho _ (by simp)
          have h2:r'<=(rows.length:Int):=ho _ (by simp)
          cases hv.i_inv with
          | nil _ _ cap a _ hn hc =>
           have hbr:=A02 (P:=P) (len:=0) (cap:=cap) hlo hlo0 hhi hhi0 hl hr h0 h1 h2 (KJ _);simp only [ZM] at h2
           have hl0:l.toNat=0:=by omega
           have hr0:r'.toNat=0:=by omega
           refine ⟨.slice a 0 cap,?_,?_,rfl⟩
           . simp only [Instr.sliceAt,Sem.run_bind,run_underlying (hT.d hd),Result.andThen_ok,Instr.slice,hbr,hT.size hei,Sem.run_pure,hl0,hr0];simp [Addr.add]
           . simp only [List.drop_nil,List.take_nil];exact .v (.one (.i (.nil _ _ cap a _ hn hc)))
          | sl _ _ g o cap _ vs hne hcap hg hb hlen hcell hrc =>
           have hbr:=A02 (P:=P) (len:=rows.length) (cap:=cap) hlo hlo0 hhi hhi0 hl hr h0 h1 h2 hcap
           refine ⟨.slice (some (if cap=l.toNat then ⟨g,o,none⟩ else ⟨g,o+l.toNat*sz,none⟩)) (r'.toNat-l.toNat) (cap-l.toNat),?_,?_,rfl⟩
           . simp only [Instr.sliceAt,Sem.run_bind,run_underlying (hT.d hd),Result.andThen_ok,Instr.slice,hbr,hT.size hei,Sem.run_pure];split <;> simp [Kl,hsz]
           . by_cases hq:r'.toNat-l.toNat=0
             . rw [hq];simp only [List.take_zero]
               exact .v (.one (.i (.nil _ _ _ _ _ (λe=>by cases e) (λe=>by cases e))))
             . have hlen':((rows.drop l.toNat).take (r'.toNat-l.toNat)).length=r'.toNat-l.toNat:=by simp;omega
               rw [QB (by omega)]
               have hget:∀ (i:Nat) (q:List I),((rows.drop l.toNat).take (r'.toNat-l.toNat))[i]? = some q->rows[l.toNat+i]? = some q:=by
                intro i q hi;rw [XM] at hi;split at hi
                . rwa [YH] at hi
                . cases hi
               have hsl:=Ri.sl (w:=w) (E:=E) tag sz g (o+l.toNat*sz) (cap-l.toNat) ((rows.drop l.toNat).take (r'.toNat-l.toNat)) (λi j=>vs (l.toNat+i) j)
                (λe=>by rw [e] at hlen';simp at hlen';omega) (by omega) hg hb (λi q hi=>hlen _ q (hget i q hi))
                (λi q j c hi hj=>by
                 have:=hcell _ q j c (hget i q hi) hj
                 rw [show o+l.toNat*sz+(i*sz+j)=o+((l.toNat+i)*sz+j) by rw [YQ];omega]
                 exact this)
                (λi q j c hi hj=>hrc _ q j c (hget i q hi) hj)
               rw [hlen'] at hsl;exact .v (.one (.i hsl))
        . cases h
     . cases h
 . cases h
end Go.Ev

/- DERIVED. New boxes: variables, struct values, slice literals, made slices. -/
namespace Go.Ev
open Go
variable {P:Program} {T:Ty}
theorem Rd (w:World) (o:Obj):Mb w (w.alloc o) (λ_=>False) :=
 ⟨rfl,rfl,rfl,by show w.heap.size<=(w.heap.push o).size;simp,λb hb _=>(World.grownBy_alloc w o none).block b hb (by simp)⟩
theorem A6.none {Γ:Ctx} {w:World} {E:Env} {s:St} {tmps:Array Value} (hs:A6 Γ w E s tmps) {k:Nat} (hk:A1 k s.boxes = .none) (x:Nat × Nat × Nat):E.β k ≠ some x:=by
 intro h;have:=hs.dom k x h;rw [hk] at this
 cases this
theorem A6.keepsNew {Γ:Ctx} {w:World} {E:Env} {s:St} {tmps:Array Value} (hs:A6 Γ w E s tmps) {k:Nat} (hk:A1 k s.boxes = .none) (o:Obj) (sz cap:Nat) :
  Cy w (w.alloc o) E (E.set k w.heap.size sz cap):=by
 refine ⟨(Rd w o).size,λtag g hlt hb=>?_,λh x hx=>?_,λtag g o' v hb hc=>(Rd w o).cell hc (λh=>h)⟩
 . unfold Env.blk at hb ⊢;split
   . rename_i e;rw [QC e] at hb
     rintro (h | rfl)
     . exact hb h
     . omega
   . rename_i e;rw [QB e] at hb;exact hb
 . by_cases hkh:h=k
   . subst hkh;exact absurd hx (hs.none hk x)
   . simpa [Env.set,hkh] using hx
theorem A6.newBox {Γ:Ctx} {w:World} {E:Env} {s:St} {tmps:Array Value} (hs:A6 Γ w E s tmps) {k:Nat} (hk:A1 k s.boxes = .none) (b:Box) (arr:Array Value) (cap:Nat)
  (hsz:arr.size=cap*b.sz) (hl:b.rows.length<=cap) (hm:cap<=maxLen) (hlen:∀ (i:Nat) (r:List C),b.rows[i]? = some r->r.length=b.sz)
  (hcell:∀ (i:Nat) (r:List C) (j:Nat) (c:C),b.rows[i]? = some r->r[j]? = some c->∃ v,arr[i*b.sz+j]? = some v/\Rc w E v c)
  (hhf:b.hf=true->∀ (i:Nat) (r:List C) (j:Nat) (c:C),b.rows[i]? = some r->r[j]? = some c->∃ x,c = .i x) (hfz:b.fz=false) (htr:b.tr=false) (hk1:k<1000) :
  A6 Γ (w.alloc (.cells arr b.e)) (E.set k w.heap.size b.sz cap) { s with boxes:=B2 k b s.boxes } tmps:=by
 have kk:=hs.keepsNew hk (.cells arr b.e) b.sz cap
 refine hs.setBox k w.heap.size cap b (λ_=>False) (Rd w _) (λ_ h=>h.elim) (λ_ h=>h.elim) (.inr ⟨ZF _,by show w.heap.size<(w.heap.push _).size;simp⟩) (.inl hk1) hfz (λe=>by rw [htr] at e;cases e) (C3.plain htr ?_) (.inl λx hx=>absurd hx (hs.none hk x))
 refine ⟨arr,heap_alloc_new w _,hsz,hl,hm,hlen,λi r j c hi hj=>?_,hhf,λ_=>.inr rfl,λt ht=>?_⟩
 . obtain ⟨v,hv,hr⟩:=hcell i r j c hi hj;exact ⟨v,hv,hr.keep kk⟩
 . have:=hs.wf.alt _ (hs.wf.tag t _ ht).2.2;omega
theorem B9u {v:Value} (h:v.oneCell'=true):v.cells = #[v]:=by cases v <;> first | rfl | (simp [Value.oneCell'] at h)
theorem Rv.cells {w:World} {E:Env} {v:Value} {x:V} (h:Rv w E v x):Fq w E v.cells.toList x.cells:=by
 cases h with
 | one h =>
  rw [B9u h.oneCell];refine ⟨rfl,λj v c hv hc=>?_⟩
  cases j with
  | zero=>simp [V.cells] at hv hc;subst hv;subst hc;exact h
  | succ j=>simp at hv
 | agg h=>exact h
theorem Fq.one {w:World} {E:Env} {vs:List Value} {cs:List C} (h:Fq w E vs cs):∀ v ∈ vs,v.oneCell'=true:=by
 intro v hv;obtain ⟨j,hj,rfl⟩:=Qbs hv
 have hj':j<cs.length:=by rw [<- h.1];exact hj
 exact (h.2 j _ _ (QN hj) (QN hj')).oneCell
theorem Ack {cs:List C} (h:cs.all Dc=true) {j:Nat} {c:C} (hj:cs[j]? = some c):∃ x,c = .i x:=by
 have:=QK.1 h c (ZN hj)
 cases c with
 | i x=>exact ⟨x,rfl⟩
 | hs=>cases this
 | hp=>cases this
theorem A6.newRow {Γ:Ctx} {w:World} {E:Env} {s:St} {tmps:Array Value} (hs:A6 Γ w E s tmps) {k:Nat} (hk:A1 k s.boxes = .none) (e:TypeId) (hf:Bool) (vs:Array Value) (cs:List C)
  (h:Fq w E vs.toList cs) (hhf:hf=true->cs.all Dc=true) (hk1:k<1000) :
  A6 Γ (w.alloc (.cells vs e)) (E.set k w.heap.size cs.length 1) { s with boxes:=B2 k ⟨e,cs.length,hf,false,[cs],false⟩ s.boxes } tmps:=by
 have hl:vs.size=cs.length:=by simpa using h.1
 refine hs.newBox hk ⟨e,cs.length,hf,false,[cs],false⟩ vs 1 (by simp [hl]) (by simp) (by simp [maxLen]) (λi r hi=>?_) (λi r j c hi hj=>?_) (λhh i r j c hi hj=>?_) rfl rfl hk1
 . cases i with
   | zero=>simp at hi;subst hi;rfl
   | succ i=>simp at hi
 . cases i with
   | zero =>
    simp at hi;subst hi
    have hj':j<vs.size:=by rw [hl];exact (ZD.1 hj).1
    refine ⟨vs[j],by simp [hj'],h.2 j _ c (by simp [hj']) hj⟩
   | succ i=>simp at hi
 . cases i with
   | zero=>simp at hi;subst hi;exact Ack (hhf hh) hj
   | succ i=>simp at hi
theorem Rs.newHp {E:Env} (k g sz cap:Nat) (w':World):Rs w' (E.set k g sz cap) (.pointer (some ⟨g,0,none⟩)) (.v (.one (.hp k 0 0))):=by
 have:=Rc.hp (w:=w') (E:=E.set k g sz cap) k 0 0 g sz cap (by simp [Env.set])
 simp only [JM,YI] at this;exact .v (.one this)
theorem P4 {ti:TI} {t:TypeId} (h:Ber P t ti) (w:World) (E:Env):Fq w E ti.zero.cells.toList (Cj ti):=by
 refine ⟨by simp [Cj],λj v c hv hc=>?_⟩
 unfold Cj at hc;rw [QQ,hv] at hc;simp only [QV,QF] at hc;subst hc
 exact .i (.lit v (by simpa using QK.1 h.one v (ZN hv)))
theorem V8 {ti:TI} {t:TypeId} (h:Ber P t ti):(Cj ti).length=ti.size:=by simp [Cj,h.cells]
theorem A6v (ti:TI):(Cj ti).all Dc=true:=by
 simp [Cj,Dc]
theorem Auo {Γ:Ctx} (hT:B8 P T) {w:World} {E:Env} {s:St} {tmps:Array Value} (hs:A6 Γ w E s tmps) {t:TypeId} {ti:TI} (ht:T t=some ti) {k:Nat} (hk:A1 k s.boxes = .none) (hk1:k<1000) :
  ∃ u w' E',(Instr.alloc t true (.tuple #[])).run P w = .ok u w'/\Rs w' E' u (.v (.one (.hp k 0 0)))/\A6 Γ w' E' { s with boxes:=B2 k ⟨t,(Cj ti).length,true,false,[Cj ti],false⟩ s.boxes } tmps:=by
 refine ⟨_,_,_,?_,Rs.newHp k w.heap.size _ 1 _,hs.newRow hk t true ti.zero.cells (Cj ti) (P4 (hT t ti ht) w E) (λ_=>A6v ti) hk1⟩;simp only [Instr.alloc,Sem.run_bind,hT.zero ht,Result.andThen_ok,newVar,newRow,run_newObj,Sem.run_pure];rfl
theorem B9z {Γ:Ctx} {w:World} {E:Env} {s:St} {tmps:Array Value} (hs:A6 Γ w E s tmps) {t:TypeId} {v:Value} {x:V} (hv:Rv w E v x) {k:Nat} (hk:A1 k s.boxes = .none) (hk1:k<1000) :
  ∃ u w' E',(Instr.box t v).run P w = .ok u w'/\Rs w' E' u (.v (.one (.hp k 0 0)))/\A6 Γ w' E' { s with boxes:=B2 k ⟨t,x.cells.length,x.cells.all Dc,false,[x.cells],false⟩ s.boxes } tmps:=by
 refine ⟨_,_,_,?_,Rs.newHp k w.heap.size _ 1 _,hs.newRow hk t (x.cells.all Dc) v.cells x.cells hv.cells (λh=>h) hk1⟩;simp only [Instr.box,Sem.run_bind,Result.andThen_ok,newVar,newRow,run_newObj,Sem.run_pure];rfl
end Go.Ev

/- DERIVED. Slice literals, made slices, struct values. -/
namespace Go.Ev
open Go
variable {P:Program} {T:Ty}
theorem A2f (off:Nat):∀ (l:List Value) (k:Nat) (cells:Array Value),off+k+l.length<=cells.size ->
  ((l.zipIdx k).foldl (λcs (c,j)=>cs.setIfInBounds (off+j) c) cells).size=cells.size /\
  ∀ j,((l.zipIdx k).foldl (λcs (c,j)=>cs.setIfInBounds (off+j) c) cells)[j]? = if off+k<=j/\j<off+k+l.length then l[j-(off+k)]? else cells[j]?
 | [],k,cells,_=>⟨rfl,λj=>by simp;intros;omega⟩
 | v::l,k,cells,h=>by
  simp only [QY] at h
  obtain ⟨h1,h2⟩:=A2f off l (k+1) (cells.setIfInBounds (off+k) v) (by simp;omega)
  simp only [List.zipIdx_cons,JQ]
  refine ⟨by rw [h1];simp,λj=>?_⟩
  rw [h2 j];by_cases hj:j=off+k
  . subst hj
    rw [QB (by omega),QC (by simp only [QY];omega)]
    have hlt:off+k<cells.size:=by omega
    simp [hlt]
  . by_cases hr:off+(k+1)<=j/\j<off+(k+1)+l.length
    . rw [QC hr,QC (by simp only [QY];omega)]
      rw [show j-(off+k)=(j-(off+(k+1)))+1 by omega]
      simp
    . rw [QB hr,QB (by simp only [QY];omega)]
      simp [Ne.symm hj]
theorem Fo (vs cells:Array Value) (off:Nat):vs.zipIdx.foldl (λcs (c,j)=>cs.setIfInBounds (off+j) c) cells=(vs.toList.zipIdx 0).foldl (λcs (c,j)=>cs.setIfInBounds (off+j) c) cells:=by
 rw [<- Array.foldl_toList,Array.toList_zipIdx]
theorem Ait (size:Nat):∀ (l:List Value) (i:Nat) (cells:Array Value),(∀ v ∈ l,v.cells.size=size)->(i+l.length)*size<=cells.size ->
  ∃ out,Instr.fill (λi=>some (i*size,size)) cells ((l.zipIdx i).map λ(v,j)=>(j,v))=some out/\out.size=cells.size /\
   (∀ j,j<i*size->out[j]? = cells[j]?) /\ ∀ (k:Nat) v,l[k]? = some v->∀ j,j<size->out[(i+k)*size+j]? = v.cells[j]?
 | [],i,cells,_,_=>⟨cells,rfl,rfl,λ_ _=>rfl,λk v h=>by simp at h⟩
 | v::l,i,cells,hv,hl=>by
  have hvs:=hv v (by simp)
  have hle:i*size+size<=cells.size:=by
   have:(i+1)*size<=(i+(l.length+1))*size:=YF _ (by omega)
   rw [YQ,JV] at this;simp only [QY] at hl;omega
  obtain ⟨h1,h2⟩:=A2f (i*size) v.cells.toList 0 cells (by simpa [hvs] using hle)
  have hsz:(v.cells.zipIdx.foldl (λcs (c,j)=>cs.setIfInBounds (i*size+j) c) cells).size=cells.size:=by rw [Fo];exact h1
  obtain ⟨out,ho,hos,hlow,hk⟩:=Ait size l (i+1) (v.cells.zipIdx.foldl (λcs (c,j)=>cs.setIfInBounds (i*size+j) c) cells) (λu hu=>hv u (by simp [hu])) (by
   rw [hsz];simp only [QY] at hl;rwa [show i+1+l.length=i+(l.length+1) by omega])
  refine ⟨out,?_,hos.trans hsz,λj hj=>?_,λk u hu j hj=>?_⟩
  . simp only [List.zipIdx_cons,QT,Instr.fill]
    rw [QB (by simp [hvs];omega)]
    exact ho
  . rw [hlow j (by rw [YQ];omega),Fo,h2 j,QB (by omega)]
  . cases k with
    | zero =>
     simp at hu;subst hu;simp only [KE]
     rw [hlow _ (by rw [YQ,JV];omega),Fo,h2 _,QC (by simp [hvs];omega)]
     simp
    | succ k =>
     have:=hk k u (by simpa using hu) j hj
     rwa [show i+1+k=i+(k+1) by omega] at this
theorem Ato {i:Nat} {ps:List (Nat × S)} {rows:List (List C)} (h:Eb i ps=some rows):rows.length=ps.length/\ps.map (·.1)=(List.range' i ps.length):=by
 induction ps generalizing i rows with
 | nil=>simp [Eb] at h;subst h;simp
 | cons p r ih =>
  obtain ⟨j,x⟩:=p
  cases x with
  | v x =>
   simp only [Eb] at h
   cases hb:Nat.beq i j with
   | false=>rw [hb] at h;cases h
   | true =>
    rw [hb] at h;simp only [cond,QI] at h;obtain ⟨q,hq,rfl⟩:=h;have:=QD hb;subst this;obtain ⟨h1,h2⟩:=ih hq
    exact ⟨by simp [h1],by simp [h2,List.range'_succ]⟩
  | tup=>simp [Eb] at h
  | dead=>simp [Eb] at h
theorem Atp {i:Nat} {ps:List (Nat × S)} {rows:List (List C)} (h:Eb i ps=some rows):∀ (k:Nat) (r:List C),rows[k]? = some r->∃ x:V,(ps[k]?).map (·.2)=some (.v x)/\r=x.cells:=by
 induction ps generalizing i rows with
 | nil=>simp [Eb] at h;subst h;intro k r hk;simp at hk
 | cons p q ih =>
  obtain ⟨j,x⟩:=p
  cases x with
  | v x =>
   simp only [Eb] at h
   cases hb:Nat.beq i j with
   | false=>rw [hb] at h;cases h
   | true =>
    rw [hb] at h;simp only [cond,QI] at h;obtain ⟨rs,hq,rfl⟩:=h;intro k r hk
    cases k with
    | zero=>simp at hk;subst hk;exact ⟨x,rfl,rfl⟩
    | succ k=>simpa using ih hq k r (by simpa using hk)
  | tup=>simp [Eb] at h
  | dead=>simp [Eb] at h
def A6d (T:Ty) (k:Nat) (t:TypeId) (len:Nat) (ps:List (Nat × S)):Option Res :=
 match Ty.d T t with
 | some (.slice e)=>match T e,Eb 0 ps with
  | some ei,some rows=>bif Nat.beq ps.length len&&Nat.ble 1 ei.size&&rows.all (λr=>Nat.beq r.length ei.size)&&Nat.ble (len*ei.size) 16777216 then
    some ⟨.v (.one (.hs k 0 len)),.new ⟨e,ei.size,rows.all (λr=>r.all Dc),false,rows,false⟩,[]⟩ else none
  | _,_=>none
 | _=>none
theorem Rs.newHs {E:Env} (k g sz cap len:Nat) (w':World) (h:len<=cap):Rs w' (E.set k g sz cap) (.slice (some ⟨g,0,none⟩) len cap) (.v (.one (.hs k 0 len))):=by
 have:=Rc.hs (w:=w') (E:=E.set k g sz cap) k 0 len g sz cap ⟨g,0,none⟩ (by simp [Env.set]) (by omega) (λ_=>by simp)
 simp only [KZ] at this;exact .v (.one this)
theorem B4j {Γ:Ctx} (hT:B8 P T) {w:World} {E:Env} {s:St} {tmps:Array Value} (hs:A6 Γ w E s tmps) {t:TypeId} {len k:Nat} {ps:List (Nat × S)} {vs:List (Nat × Value)} {r:Res}
  (hk:A1 k s.boxes = .none) (hk1:k<1000) (hlen:vs.length=ps.length) (hv:∀ (j:Nat) p q,vs[j]? = some p->ps[j]? = some q->p.1=q.1/\Rs w E p.2 q.2) (h:A6d T k t len ps=some r) :
  ∃ b u w' E',r.eff = .new b/\(Instr.buildSlice t len vs.toArray).run P w = .ok u w'/\Rs w' E' u r.val/\A6 Γ w' E' { s with boxes:=B2 k b s.boxes } tmps:=by
 unfold A6d at h;split at h
 . rename_i e hd;split at h
   . rename_i ei rows hei hrows
     cases hc:(Nat.beq ps.length len&&Nat.ble 1 ei.size&&rows.all (λr=>Nat.beq r.length ei.size)&&Nat.ble (len*ei.size) 16777216) with
     | false=>rw [hc] at h;cases h
     | true =>
      rw [hc] at h;simp only [cond] at h;obtain rfl:=QA h;simp only [QH] at hc;obtain ⟨⟨⟨c1,c2⟩,c3⟩,c4⟩:=hc;have c1:=QD c1;have c2:=XO c2;have c4:=XO c4
      have hrl:∀ (i:Nat) (q:List C),rows[i]? = some q->q.length=ei.size:=λi q hi=>by
       have:=QK.1 c3 q (ZN hi);exact QD this
      obtain ⟨l1,l2⟩:=Ato hrows;have lget:=Atp hrows
      have hvs:vs=(vs.map (·.2)).zipIdx.map (λ(v,j)=>(j,v)):=by
       apply JY;intro j;simp only [QQ,YY]
       cases hj:vs[j]? with
       | none=>simp
       | some p =>
        have hjl:j<ps.length:=by rw [<- hlen];exact (ZD.1 hj).1
        obtain ⟨h1,_⟩:=hv j p _ hj (QN hjl)
        have h2:(ps.map (·.1))[j]? = some j:=by rw [l2];simp [hjl]
        simp only [QQ,QN hjl,QV,QF] at h2;simp only [QV,YI,QF];rw [<- h2,<- h1]
      obtain ⟨us,hus⟩:∃ us,us=vs.map (·.2):=⟨_,rfl⟩;rw [<- hus] at hvs
      have hread:∀ (i:Nat) v q,us[i]? = some v->rows[i]? = some q->Fq w E v.cells.toList q:=by
       intro i v q hvi hqi;obtain ⟨x,hx,rfl⟩:=lget i q hqi;rw [hus] at hvi;simp only [QQ,QI] at hvi hx;obtain ⟨p,hp,rfl⟩:=hvi;obtain ⟨p',hp',hx⟩:=hx;obtain ⟨_,hr⟩:=hv i p p' hp hp';rw [hx] at hr;exact hr.v_inv.cells
      have hvl:us.length=len:=by simp [hus,hlen,c1]
      have hrowl:rows.length=len:=by rw [l1,c1]
      have hcs:∀ v ∈ us,v.cells.size=ei.size:=by
       intro v hvm;obtain ⟨i,hi,rfl⟩:=Qbs hvm
       have hir:i<rows.length:=by omega
       have:=(hread i _ _ (QN hi) (QN hir)).1;rw [hrl i _ (QN hir)] at this;simpa using this
      obtain ⟨out,ho,hos,_,hkk⟩:=Ait ei.size us 0 ((Array.range (len*ei.size)).map λj=>ei.zero.cells[j % ei.zero.cells.size]!) hcs (by simp [hvl])
      simp only [YI] at hkk
      have hos':out.size=len*ei.size:=by rw [hos];simp
      refine ⟨_,_,_,_,rfl,?_,Rs.newHs k w.heap.size ei.size len len _ (ZF _),hs.newBox hk ⟨e,ei.size,rows.all (λr=>r.all Dc),false,rows,false⟩ out len hos' (by simp [hrowl]) (by simp only [maxLen];have:len*1<=len*ei.size:=XI _ c2;omega) hrl (λi q j c hi hj=>?_) (λhh i q j c hi hj=>?_) rfl rfl hk1⟩
      . simp only [Instr.buildSlice,Sem.run_bind,run_underlying (hT.d hd),Result.andThen_ok,hT.size hei]
        rw [QB (by omega),hvs]
        by_cases h0:len*ei.size=0
        . have:len=0:=by rcases Qbh.1 h0 with h | h;exact h;omega
          subst this
          have e0:∀ f:Nat->Value,(Array.range 0).map f = #[]:=λf=>by simp [Array.range]
          simp only [JM,e0] at ho;have hu0:us=[]:=YV hvl;subst hu0;simp [Instr.fill] at ho;subst ho;simp [h0,newRow,e0,Instr.fill]
        . simp [h0,hT.zero hei,ho,newRow]
      . have hil:i<len:=by rw [<- hrowl];exact (ZD.1 hi).1
        have hiv:i<us.length:=by omega
        have hq:=hread i _ _ (QN hiv) hi;have hjl:j<q.length:=(ZD.1 hj).1
        have hjs:j<ei.size:=by rw [<- hrl i q hi];exact hjl
        have hjv:j<(us[i].cells.toList).length:=by rw [hq.1];exact hjl
        refine ⟨_,?_,hq.2 j _ c (QN hjv) hj⟩;rw [hkk i _ (QN hiv) j hjs];simp at hjv;simp [hjv]
      . exact Ack (QK.1 hh q (ZN hi)) hj
   . cases h
 . cases h
end Go.Ev

/- DERIVED. Made slices, struct values, stores, appends. -/
namespace Go.Ev
open Go
variable {P:Program} {T:Ty}
def A3v (T:Ty) (k:Nat) (t:TypeId) (l:S):Option Res :=
 match Ty.d T t,Qg l with
 | some (.slice e),some n=>match T e with
  | some ei=>bif Nat.ble 1 ei.size then some ⟨.v (.one (.hs k 0 n.toNat)),.new ⟨e,ei.size,true,false,List.replicate n.toNat (Cj ei),false⟩,[0<=n,n<=4611686018427387904,(ei.bytes:Int)*n<=281474976710656]⟩ else none
  | none=>none
 | _,_=>none
theorem Bb9 (z:Array Value) (n i j:Nat) (hi:i<n) (hj:j<z.size):(madeCells z (n*z.size))[i*z.size+j]? = z[j]?:=by
 have hlt:i*z.size+j<n*z.size:=by
  have:(i+1)*z.size<=n*z.size:=YF _ hi;rw [YQ,JV] at this;omega
 simp only [madeCells,Array.getElem?_map];rw [Array.getElem?_range,QC hlt];simp only [QV]
 have:(i*z.size+j) % z.size=j:=by rw [Qat,Nat.add_mul_mod_self_right,KO hj]
 rw [this];simp [hj]
theorem Azg {Γ:Ctx} (hT:B8 P T) {w:World} {E:Env} {s:St} {tmps:Array Value} (hs:A6 Γ w E s tmps) {t:TypeId} {k:Nat} {v:Value} {l:S} {r:Res}
  (hk:A1 k s.boxes = .none) (hk1:k<1000) (hv:Rs w E v l) (h:A3v T k t l=some r) (ho:∀ p ∈ r.ob,p) :
  ∃ b u w' E',r.eff = .new b/\(Instr.makeSlice t v v).run P w = .ok u w'/\Rs w' E' u r.val/\A6 Γ w' E' { s with boxes:=B2 k b s.boxes } tmps:=by
 unfold A3v at h;split at h
 . rename_i e n hd hn;obtain rfl:=Fn hv hn;split at h
   . rename_i ei hei
     cases hb:Nat.ble 1 ei.size with
     | false=>rw [hb] at h;cases h
     | true =>
      rw [hb] at h;simp only [cond] at h;obtain rfl:=QA h;have h1:=XO hb
      have o1:0<=n:=ho _ (by simp)
      have o2:n<=4611686018427387904:=ho _ (by simp)
      have o3:(ei.bytes:Int)*n<=281474976710656:=ho _ (by simp)
      obtain ⟨inf,hi,hsz,hby,hz⟩:=(hT e ei hei).info;have hc:=(hT e ei hei).cells
      have hr:=run_make (P:=P) w t e inf ei.zero (hT.d hd) hi hz .i64 .i64 n n o1 (JK _) (by rw [hby];exact o3) (by omega)
      refine ⟨_,_,_,_,rfl,hr,Rs.newHs k w.heap.size ei.size n.toNat n.toNat _ (ZF _),hs.newBox hk ⟨e,ei.size,true,false,List.replicate n.toNat (Cj ei),false⟩ _ n.toNat (by simp [size_madeCells,hsz]) (by simp) (by simp only [maxLen];omega) (λi q hi=>?_) (λi q j c hi hj=>?_) (λ_ i q j c hi hj=>?_) rfl rfl hk1⟩
      . simp only [XX] at hi;split at hi
        . obtain rfl:=QA hi;exact V8 (hT e ei hei)
        . cases hi
      . simp only [XX] at hi;split at hi
        . rename_i hlt;obtain rfl:=QA hi
          have hjl:j<ei.zero.cells.size:=by rw [hc,<- V8 (hT e ei hei)];exact (ZD.1 hj).1
          have hrow:=P4 (hT e ei hei) w E
          refine ⟨ei.zero.cells[j],?_,hrow.2 j _ c (by simp [hjl]) hj⟩
          rw [hsz,<- hc,Bb9 _ _ _ _ hlt hjl];simp [hjl]
        . cases hi
      . simp only [XX] at hi;split at hi
        . obtain rfl:=QA hi;exact Ack (A6v ei) hj
        . cases hi
   . cases h
 . cases h
def Oz (T:Ty) (fs:Array Field):List (Nat × S)->List C->Option (List C)
 | [],cs=>some cs
 | (i,.v v)::r,cs=>match fs[i]? with
  | some f=>match T f.type with
   | some fi=>bif Nat.beq v.cells.length fi.size&&Nat.ble (f.offset+fi.size) cs.length then Oz T fs r (Du cs f.offset v.cells) else none
   | none=>none
  | none=>none
 | _,_=>none
def R4 (T:Ty) (t:TypeId) (ps:List (Nat × S)):Option Res :=
 match T t with
 | some ti=>match ti.d with
  | .struct fs=>bif fs.toList.all (λf=>(T f.type).isSome) then (match Oz T fs ps (Cj ti) with
   | some cs=>some (.pure (.v (.agg cs)))
   | none=>none) else none
  | _=>none
 | none=>none
theorem Ana {w:World} {E:Env} {arr:Array Value} {cs:List C} {vs:Array Value} {ds:List C} {off:Nat} (h:Fq w E arr.toList cs) (hd:Fq w E vs.toList ds) (hle:off+ds.length<=cs.length) :
  Fq w E (vs.zipIdx.foldl (λcs (c,j)=>cs.setIfInBounds (off+j) c) arr).toList (Du cs off ds):=by
 have hvl:vs.size=ds.length:=by simpa using hd.1
 have hal:arr.size=cs.length:=by simpa using h.1
 obtain ⟨h1,h2⟩:=A2f off vs.toList 0 arr (by simp;omega)
 rw [Fo]
 have hsl:(Du cs off ds).length=cs.length:=by simp [Du];omega
 refine ⟨by simp [h1,hsl,hal],λj v c hv hc=>?_⟩
 rw [YO,h2 j] at hv;simp only [KE,Qbt] at hv;unfold Du at hc;by_cases hin:off<=j/\j<off+vs.size
 . rw [QC hin] at hv
   rw [ZP,ZG (by simp;omega),ZH (by simp;omega)] at hc
   rw [show (List.take off cs).length=off by simp;omega] at hc
   exact hd.2 (j-off) v c hv hc
 . rw [QB hin] at hv
   have hv':arr.toList[j]? = some v:=by rw [YO];exact hv
   refine h.2 j v c hv' ?_;by_cases hlo:j<off
   . rw [ZP,ZH (by simp;omega),XM,QC hlo] at hc
     exact hc
   . rw [ZG (by simp;omega),YH] at hc
     rw [<- hc];congr 1;simp;omega
theorem Acx {w:World} {E:Env} (fs:Array Field) (place:Nat->Option (Nat × Nat)) (hp:∀ (i:Nat) f fi,fs[i]? = some f->T f.type=some fi->place i=some (f.offset,fi.size)) :
  ∀ (ps:List (Nat × S)) (vs:List (Nat × Value)) (cs cs':List C) (arr:Array Value),vs.length=ps.length->(∀ (j:Nat) p q,vs[j]? = some p->ps[j]? = some q->p.1=q.1/\Rs w E p.2 q.2) ->
   Fq w E arr.toList cs->Oz T fs ps cs=some cs'->∃ out,Instr.fill place arr vs=some out/\Fq w E out.toList cs'
 | [],vs,cs,cs',arr,hl,_,hr,h=>by
  obtain rfl:=YV (by simpa using hl)
  obtain rfl:=QA h;exact ⟨arr,rfl,hr⟩
 | (i,x)::ps,[],cs,cs',arr,hl,_,hr,h=>by simp at hl
 | (i,x)::ps,(i',v)::vs,cs,cs',arr,hl,hv,hr,h=>by
  obtain ⟨h1,h2⟩:=hv 0 (i',v) (i,x) rfl rfl;simp only at h1 h2;subst h1
  cases x with
  | v x =>
   simp only [Oz] at h;split at h
   . rename_i f hf;split at h
     . rename_i fi hfi
       cases hc:(Nat.beq x.cells.length fi.size&&Nat.ble (f.offset+fi.size) cs.length) with
       | false=>rw [hc] at h;cases h
       | true =>
        rw [hc] at h;simp only [cond] at h;simp only [QH] at hc;have c1:=QD hc.1;have c2:=XO hc.2;have hx:=h2.v_inv.cells
        have hvs:v.cells.size=fi.size:=by have:=hx.1;simp at this;omega
        have hal:arr.size=cs.length:=by simpa using hr.1
        have hsp:=Ana hr hx (off:=f.offset) (by omega)
        obtain ⟨out,ho,hro⟩:=Acx fs place hp ps vs (Du cs f.offset x.cells) cs' _ (by simpa using hl) (λj p q hp' hq=>hv (j+1) p q (by simpa using hp') (by simpa using hq)) hsp h
        refine ⟨out,?_,hro⟩;simp only [Instr.fill,hp i' f fi hf hfi]
        rw [QB (by simp [hvs];omega)]
        exact ho
     . cases h
   . cases h
  | tup=>simp [Oz] at h
  | dead=>simp [Oz] at h
theorem A74 (hT:B8 P T):∀ (fs:List Field),(fs.all (λf=>(T f.type).isSome))=true->fs.mapM (λf=>(P.info? f.type).map λi=>(f.offset,i.size))=some (fs.map λf=>(f.offset,match T f.type with | some i=>i.size | none=>0))
 | [],_=>by simp
 | f::fs,h=>by
  simp only [XJ,QH] at h;obtain ⟨i,hi⟩:=QZ.1 h.1;obtain ⟨inf,hinf,hsz,_⟩:=(hT _ _ hi).info;have ih:=A74 hT fs h.2;simp only [Qbv,hinf,QV,Option.bind_eq_bind,XY,ih,Option.pure_def,QT,hi,hsz]
theorem Aun (hT:B8 P T) {w:World} {E:Env} {t:TypeId} {ps:List (Nat × S)} {vs:List (Nat × Value)} {r:Res}
  (hlen:vs.length=ps.length) (hv:∀ (j:Nat) p q,vs[j]? = some p->ps[j]? = some q->p.1=q.1/\Rs w E p.2 q.2) (h:R4 T t ps=some r) :
  ∃ u,(Instr.build t vs.toArray).run P w = .ok u w/\Rs w E u r.val/\r.eff = .none:=by
 unfold R4 at h;split at h
 . rename_i ti hti;split at h
   . rename_i fs hd
     cases hall:fs.toList.all (λf=>(T f.type).isSome) with
     | false=>rw [hall] at h;cases h
     | true =>
      rw [hall] at h;simp only [cond] at h;split at h
      . rename_i cs hcs;obtain rfl:=QA h;have hpl:=A74 (P:=P) hT fs.toList hall
        obtain ⟨out,ho,hro⟩:=Acx (w:=w) (E:=E) fs (λi=>((fs.toList.map λf=>(f.offset,match T f.type with | some i=>i.size | none=>0)).toArray)[i]?) (λi f fi hf hfi=>by
         simp [hf,hfi]) ps vs (Cj ti) cs ti.zero.cells hlen hv (P4 (hT t ti hti) w E) hcs
        have hu:=hT.und hti;rw [hd] at hu;refine ⟨.agg out,?_,?_,rfl⟩
        . obtain ⟨inf,hinf,hsz,_,hz⟩:=(hT t ti hti).info;refine run_build w t _ _ ?_;simp only [Program.built,hinf,hu,hz,hpl];exact ho
        . have:=Rv.agg hro;simp only [Qae] at this;exact .v this
      . cases h
   . cases h
 . cases h
end Go.Ev

/- DERIVED. Stores. -/
namespace Go.Ev
open Go
variable {P:Program} {T:Ty}
theorem A0c (w:World) (g:Nat) (arr:Array Value):Mb w (w.setRow g arr) (λb=>b=g):=by
 refine ⟨rfl,rfl,rfl,by simp [World.setRow],λb hb hne=>?_⟩
 simp [World.setRow,Array.getElem?_modify,Ne.symm hne]
theorem Aie (w:World) (g:Nat) (cur:Array Value) (t:TypeId) (fr:Nat × Nat) (arr:Array Value) (h:w.heap[g]? = some (.cells cur t fr)):(w.setRow g arr).heap[g]? = some (.cells arr t fr) :=
 setRow_heap w g cur arr t fr h
theorem B51 {ti:TI} {v:V} (h:v.fits ti=true):v.cells.length=ti.size:=by
 cases v with
 | one c=>simp only [V.fits,QH] at h;have:=QD h.1;simp [V.cells,this]
 | agg cs=>simp only [V.fits,QH] at h;have:=QD h.1;simp [V.cells,this]
theorem A6.write {Γ:Ctx} {w:World} {E:Env} {s:St} {tmps:Array Value} (hs:A6 Γ w E s tmps) {h:Nat} {b:Box} {g sz cap:Nat} (hb:A1 h s.boxes=some b) (hfz:b.fz=false) (hβ:E.β h=some (g,sz,cap))
  (arr arr':Array Value) (harr:w.heap[g]? = some (.cells arr b.e (0,0))) (hsz:arr'.size=arr.size) (rows:List (List C)) (hf:Bool) (hl:rows.length=b.rows.length)
  (hlen:∀ (i:Nat) (r:List C),rows[i]? = some r->r.length=b.sz)
  (hcell:∀ (i:Nat) (r:List C) (j:Nat) (c:C),rows[i]? = some r->r[j]? = some c->∃ v,arr'[i*b.sz+j]? = some v/\Rc w (E.rd h b.tr) v c)
  (hhf:hf=true->∀ (i:Nat) (r:List C) (j:Nat) (c:C),rows[i]? = some r->r[j]? = some c->∃ x,c = .i x) (hSep:b.tr=true->P1 (w.setRow g arr') E h { b with hf:=hf,rows:=rows } g) :
  ∃ E',A6 Γ (w.setRow g arr') E' { s with boxes:=B2 h { b with hf:=hf,rows:=rows } s.boxes } tmps:=by
 obtain ⟨rfl,_,hat,hω⟩:=hs.box hb hβ;obtain ⟨arr0,hg,hs0,hl0,hm,_,_,_,hA,hT'⟩:=hat;rw [Env.rd_τ] at hT';have hA:=λe=>(Env.rd_A hω).1 (hA e)
 obtain rfl:arr0=arr:=by rw [hg] at harr;simpa using harr
 have hgA:E.A g:=hA hfz;have ht:=A0c w g arr'
 have heq:E.set h g b.sz cap=E:=by
  cases E with | mk A τ β ω =>
  simp only [Env.set,Env.mk.injEq,Qaf,and_true];refine ⟨?_,?_⟩
  . funext x;exact propext ⟨λh=>h.elim id (λe=>e ▸ hgA),λh=>.inl h⟩
  . funext k;split
    . rename_i e;rw [e];exact hβ.symm
    . rfl
 have kk:Cy w (w.setRow g arr') E E:=by
  refine ⟨ht.size,λ_ _ _ h=>h,λ_ _ h=>h,λtag b' o v hbk hc=>ht.cell hc (λe=>?_)⟩;subst e;unfold Env.blk at hbk;split at hbk
  . exact hbk hgA
  . exact hT' _ hbk
 have:=hs.setBox h g cap { b with hf:=hf,rows:=rows } (λb=>b=g) ht (λb' e=>⟨(b.sz,cap),by rw [show b'=g from e];exact hβ⟩) (λb' _ bx hbx=>by rw [hb] at hbx;rw [<- QA hbx];exact hfz)
  (.inl ⟨_,b,hb,hfz,hβ⟩) (.inr (.inr hβ)) hfz (by rw [heq];exact hSep) ?_ (.inl λx hx=>by rw [hβ] at hx;exact (QA hx).symm)
 . exact ⟨_,this⟩
 . rw [heq]
   have kk':=kk.rd h b.tr λb' h' hb'=>⟨hb',ht.block b' (hs.wf.alt b' (hs.wf.om b' h' hb').1) λe=>by rw [show b'=g from e,hω] at hb';cases hb'⟩
   refine ⟨arr',Aie w g arr0 b.e _ arr' hg,by rw [hsz];exact hs0,by simp only [hl];exact hl0,hm,hlen,λi r j c hi hj=>?_,hhf,λ_=>(Env.rd_A hω).2 hgA,by rw [Env.rd_τ];exact hT'⟩
   obtain ⟨v,hv,hr⟩:=hcell i r j c hi hj;exact ⟨v,hv,hr.keep kk'⟩
theorem Aff {α:Type} {l:List α} {row i:Nat} {x r:α} (h:(l.set row x)[i]? = some r):(i=row/\r=x) \/ (i ≠ row/\l[i]? = some r):=by
 by_cases hi:i=row
 . subst hi;refine .inl ⟨rfl,?_⟩
   have hlt:i<l.length:=by have:=(ZD.1 h).1;simpa using this
   rw [JW hlt] at h;exact (QA h).symm
 . rw [KP (Ne.symm hi)] at h;exact .inr ⟨hi,h⟩
theorem Blo {row sz n cap:Nat} (hr:row<n) (hn:n<=cap):row*sz+sz<=cap*sz:=by
 have:(row+1)*sz<=cap*sz:=YF _ (by omega)
 rwa [YQ,JV] at this
theorem Ai8 {Γ:Ctx} (hT:B8 P T) {w:World} {E:Env} {s:St} {tmps:Array Value} (hs:A6 Γ w E s tmps) {t:TypeId} {ti:TI} (ht:T t=some ti) {v u:Value} {h row col:Nat} {b:Box} {x:V}
  (hv:Rs w E v (.v (.one (.hp h row col)))) (hu:Rv w E u x) (hb:A1 h s.boxes=some b) (hfz:b.fz=false) (htr:b.tr=true->x.cells.all C.okT=true) (hfit:x.fits ti=true) (hle:col+ti.size<=b.sz) {r0:List C} (hr0:b.rows[row]? = some r0) :
  ∃ w' E',(Instr.storeAt t v u).run P w = .ok () w'/\A6 Γ w' E' { s with boxes:=B2 h { b with hf:=b.hf&&x.cells.all Dc,rows:=b.rows.set row (Du r0 col x.cells) } s.boxes } tmps:=by
 obtain ⟨g,sz,cap,hβ,rfl⟩:=hv.hp_inv;obtain ⟨rfl,_,hat,_⟩:=hs.box hb hβ;obtain ⟨g0,cap0,hβ0,_,hω,hS⟩:=hs.boxes h b hb
 have eg:g0=g:=by rw [hβ] at hβ0;simp only [QF,QL,Qaf] at hβ0;exact hβ0.1.symm
 rw [eg] at hω hS;have hat':=hat;obtain ⟨arr,hg,hsz,hl,hm,hlen,hcell,hhf,hA,hT'⟩:=hat;have hxl:=B51 hfit;have hc:=hu.cells
 have hul:u.cells.size=ti.size:=by have:=hc.1;simp at this;omega
 have hrow:row<b.rows.length:=(ZD.1 hr0).1;have hin:=Blo (sz:=b.sz) hrow hl;have hlen0:=hlen row r0 hr0
 have hst:=run_storeCells_at P g (row*b.sz+col) b.e u.cells.toList 0 arr w hg (by simp [hul];omega) hc.one
 simp only [KE,Qbt] at hst
 have hrun:(Instr.storeAt t (.pointer (some ⟨g,row*b.sz+col,none⟩)) u).run P w = .ok () (w.setRow g (arr.toList.take (row*b.sz+col)++u.cells.toList++arr.toList.drop (row*b.sz+col+u.cells.size)).toArray):=by
  simp only [Instr.storeAt,Instr.sureAddr,storeVar,Sem.run_bind,Sem.run_pure,Result.andThen_ok,hT.size ht]
  rw [QB (by simp [hul])]
  exact hst
 have hget:∀ n,((arr.toList.take (row*b.sz+col)++u.cells.toList++arr.toList.drop (row*b.sz+col+u.cells.size)).toArray)[n]? =
   if row*b.sz+col<=n/\n<row*b.sz+col+u.cells.size then u.cells[n-(row*b.sz+col)]? else arr[n]?:=by
  intro n;simp only [List.getElem?_toArray];by_cases h1:n<row*b.sz+col
  . rw [QB (by omega),ZP,ZH (by simp;omega),XM,QC h1,YO]
  . by_cases h2:n<row*b.sz+col+u.cells.size
    . rw [QC (by omega),ZP,ZG (by simp;omega),ZH (by simp;omega)]
      simp only [KN,Qbt,YO];congr 1;omega
    . rw [QB (by omega),ZG (by simp;omega),YH,YO]
      congr 1;simp;omega
 have hsz':((arr.toList.take (row*b.sz+col)++u.cells.toList++arr.toList.drop (row*b.sz+col+u.cells.size)).toArray).size=arr.size:=by simp;omega
 have hsl:(Du r0 col x.cells).length=b.sz:=by simp [Du];omega
 have hspl:∀ j c,(Du r0 col x.cells)[j]? = some c->if col<=j/\j<col+ti.size then x.cells[j-col]? = some c else r0[j]? = some c:=by
  intro j c hj;unfold Du at hj;by_cases h1:j<col
  . rw [QB (by omega)]
    rw [ZP,ZH (by simp;omega),XM,QC h1] at hj
    exact hj
  . by_cases h2:j<col+ti.size
    . rw [QC (by omega)]
      rw [ZP,ZG (by simp;omega),ZH (by simp;omega)] at hj
      rw [<- hj];congr 1;simp;omega
    . rw [QB (by omega)]
      rw [ZG (by simp;omega),YH] at hj
      rw [<- hj];congr 1;simp;omega
 have key:=hs.write hb hfz hβ arr _ hg hsz' (b.rows.set row (Du r0 col x.cells)) (b.hf&&x.cells.all Dc) (by simp)
 have cellF:∀ (i:Nat) (r:List C) (j:Nat) (c:C),(b.rows.set row (Du r0 col x.cells))[i]? = some r->r[j]? = some c ->
   (c ∈ x.cells /\ ∃ v,((arr.toList.take (row*b.sz+col)++u.cells.toList++arr.toList.drop (row*b.sz+col+u.cells.size)).toArray)[i*b.sz+j]? = some v/\Rc w E v c) \/
   (∃ r1,b.rows[i]? = some r1/\r1[j]? = some c/\((arr.toList.take (row*b.sz+col)++u.cells.toList++arr.toList.drop (row*b.sz+col+u.cells.size)).toArray)[i*b.sz+j]? = arr[i*b.sz+j]?):=by
  intro i r j c hi hj;rcases Aff hi with ⟨rfl,rfl⟩ | ⟨hne,hi⟩
  . have hj':=hspl j c hj
    have hjs:j<b.sz:=by rw [<- hsl];exact (ZD.1 hj).1
    rw [hget];by_cases hin2:col<=j/\j<col+ti.size
    . rw [QC hin2] at hj'
      rw [QC (by omega)]
      have hjl:j-col<x.cells.length:=by omega
      have hjv:j-col<u.cells.toList.length:=by rw [hc.1];exact hjl
      refine .inl ⟨ZN hj',_,?_,hc.2 (j-col) _ c (QN hjv) hj'⟩
      rw [show i*b.sz+j-(i*b.sz+col)=j-col by omega]
      simp at hjv;simp [hjv]
    . rw [QB hin2] at hj'
      rw [QB (by omega)]
      exact .inr ⟨r0,hr0,hj',rfl⟩
  . have hil:i<b.rows.length:=(ZD.1 hi).1
    have hjs:j<b.sz:=by rw [<- hlen i r hi];exact (ZD.1 hj).1
    rw [hget,QB ?_]
    . exact .inr ⟨r,hi,hj,rfl⟩
    . intro hh;rcases Nat.lt_or_gt_of_ne (Ne.symm hne) with hlt | hgt
      . have:(row+1)*b.sz<=i*b.sz:=YF _ hlt;rw [YQ,JV] at this;omega
      . have:(i+1)*b.sz<=row*b.sz:=YF _ hgt;rw [YQ,JV] at this;omega
 have cellAt:∀ n,(w.setRow g ((arr.toList.take (row*b.sz+col)++u.cells.toList++arr.toList.drop (row*b.sz+col+u.cells.size)).toArray)).cell? ⟨g,n,none⟩=((arr.toList.take (row*b.sz+col)++u.cells.toList++arr.toList.drop (row*b.sz+col+u.cells.size)).toArray)[n]?:=by
  intro n;simp [World.cell?,Aie w g arr b.e _ _ hg]
 have cellOld:∀ n,w.cell? ⟨g,n,none⟩=arr[n]?:=by
  intro n;simp [World.cell?,hg]
 suffices h3:_/\_/\_/\_ from by
  obtain ⟨E',hfin⟩:=key h3.1 h3.2.1 h3.2.2.1 h3.2.2.2;exact ⟨_,E',hrun,hfin⟩
 refine ⟨λi r hi=>?_,λi r j c hi hj=>?_,λhh i r j c hi hj=>?_,λe=>⟨λi r j y len cp a h1 h2 h3 h4 h5=>?_,λi r j y i' r' j' y' len len' cp cp' a a' h1 h2 h3 h1' h2' h3' hn h4 h4' h5 h5'=>?_,λi r j y len cp a h1 h2 h3 h4 h5=>?_⟩⟩
 rotate_left 3
 . rw [cellAt] at h4;rcases cellF i r j _ h1 h2 with ⟨q1,v,q2,q3⟩ | ⟨r1,q1,q2,q3⟩
   . rw [q2] at h4;obtain rfl:=QA h4;have:=Kp (QK.1 (htr e) _ q1) h3 q3;omega
   . rw [q3,<- cellOld] at h4;exact (hS e).1 i r1 j y len cp a q1 q2 h3 h4 h5
 . rw [cellAt] at h4 h4';rcases cellF i r j _ h1 h2 with ⟨q1,v,q2,q3⟩ | ⟨r1,q1,q2,q3⟩
   . rw [q2] at h4;obtain rfl:=QA h4;have:=Kp (QK.1 (htr e) _ q1) h3 q3;omega
   . rcases cellF i' r' j' _ h1' h2' with ⟨q1',v,q2',q3'⟩ | ⟨r1',q1',q2',q3'⟩
     . rw [q2'] at h4';obtain rfl:=QA h4';have:=Kp (QK.1 (htr e) _ q1') h3' q3';omega
     . rw [q3,<- cellOld] at h4;rw [q3',<- cellOld] at h4';exact (hS e).2.1 i r1 j y i' r1' j' y' len len' cp cp' a a' q1 q2 h3 q1' q2' h3' hn h4 h4' h5 h5'
 . rw [cellAt] at h4;rcases cellF i r j _ h1 h2 with ⟨q1,v,q2,q3⟩ | ⟨r1,q1,q2,q3⟩
   . rw [q2] at h4;obtain rfl:=QA h4;have:=Kp (QK.1 (htr e) _ q1) h3 q3;omega
   . rw [q3,<- cellOld] at h4;have hne:=(hS e).1 i r1 j y len cp a q1 q2 h3 h4 h5;obtain ⟨ar,e1,e2,e3⟩:=(hS e).2.2 i r1 j y len cp a q1 q2 h3 h4 h5
     exact ⟨ar,e1,by rw [(A0c w g _).block a.block (hs.wf.alt _ (hs.wf.om _ _ hne).1) (λe9=>by rw [show a.block=g from e9,hω] at hne;cases hne)];exact e2,e3⟩
 . rcases Aff hi with ⟨rfl,rfl⟩ | ⟨_,hi⟩
   . exact hsl
   . exact hlen i r hi
 . rcases cellF i r j c hi hj with ⟨q1,v,q2,q3⟩ | ⟨r1,q1,q2,q3⟩
   . refine ⟨v,q2,?_⟩
     cases htr':b.tr with
     | false=>exact q3
     | true=>exact q3.okT (E:=E) (E':=E.rd h true) rfl (QK.1 (htr htr') c q1)
   . obtain ⟨v,hv1,hv2⟩:=hcell i r1 j c q1 q2
     exact ⟨v,by rw [q3];exact hv1,hv2⟩
 . simp only [QH] at hh;rcases Aff hi with ⟨rfl,rfl⟩ | ⟨hne,hi⟩
   . have hj':=hspl j c hj;split at hj'
     . exact Ack hh.2 hj'
     . exact hhf hh.1 i r0 j c hr0 hj'
   . exact hhf hh.1 i r j c hi hj
theorem Ati {Γ:Ctx} (hT:B8 P T) {w:World} {E:Env} {s:St} {tmps:Array Value} (hs:A6 Γ w E s tmps) {hint:Option (List C)} {t:TypeId} {v u:Value} {a x:S} {r:Res}
  (hv:Rs w E v a) (hu:Rs w E u x) (h:Nh T hint t a x (A1 · s.boxes)=some r) (ho:∀ p ∈ r.ob,p) :
  ∃ k b w' E',r.eff = .set k b/\r.val = .dead/\(Instr.storeAt t v u).run P w = .ok () w'/\A6 Γ w' E' { s with boxes:=B2 k b s.boxes } tmps:=by
 unfold Nh at h;split at h
 . cases h
 . rename_i ti hti;split at h
   . rename_i hh row col y;split at h
     . cases h
     . rename_i b hb
       cases hc:(Nat.ble (col+ti.size) b.sz&&y.fits ti && !b.fz&&(!b.tr || y.cells.all C.okT)) with
       | false=>rw [hc] at h;cases h
       | true =>
        rw [hc] at h;simp only [cond] at h;simp only [QH,XH] at hc;obtain ⟨⟨⟨c1,c2⟩,c3⟩,c4⟩:=hc
        have c4:b.tr=true->y.cells.all C.okT=true:=λe=>by rw [e] at c4;simpa using c4
        have c1:=XO c1;split at h
        . split at h
          . rename_i _ _ r0 hrows;obtain rfl:=QA h
            obtain ⟨w',E',hr,hst⟩:=Ai8 hT hs hti hv hu.v_inv hb c3 c4 c2 c1 (r0:=r0) (by rw [hrows];rfl)
            refine ⟨_,_,w',E',rfl,rfl,hr,?_⟩;rw [hrows] at hst;exact hst
          . cases h
        . rename_i r0;obtain rfl:=QA h
          obtain ⟨w',E',hr,hst⟩:=Ai8 hT hs hti hv hu.v_inv hb c3 c4 c2 c1 (r0:=r0) (ho _ (by simp))
          exact ⟨_,_,w',E',rfl,rfl,hr,hst⟩
   . cases h
end Go.Ev

/- DERIVED. Appends; boxes that stand still for good. -/
namespace Go.Ev
open Go
variable {P:Program} {T:Ty}
def Lk (h:Nat) (sl:List (Nat × S)):List (Nat × S):=sl.map λp=>(p.1,bif p.2.men h then .dead else p.2)
def Tk (h:Nat) (bs:List (Nat × Box)):Bool:=bs.all λp=>Nat.beq p.1 h || !p.2.men h
theorem Xw {α:Type} (f:α->α) (t:Nat) (l:List (Nat × α)):A1 t (l.map λp=>(p.1,f p.2))=(A1 t l).map f:=by
 induction l with
 | nil=>rfl
 | cons p r ih =>
  obtain ⟨j,y⟩:=p;simp only [QT,A1]
  cases Nat.beq j t <;> simp [cond,ih]
theorem A85 {α:Type} {t:Nat} {x:α} {l:List (Nat × α)} (h:A1 t l=some x):(t,x) ∈ l:=by
 induction l with
 | nil=>cases h
 | cons p r ih =>
  obtain ⟨j,y⟩:=p;simp only [A1] at h
  cases hb:Nat.beq j t with
  | true =>
   rw [hb] at h;simp only [cond,QF] at h;have:=QD hb;subst this;subst h;exact YA
  | false =>
   rw [hb] at h;exact ZI _ (ih h)
theorem A6.kill {Γ:Ctx} {w:World} {E:Env} {s:St} {tmps:Array Value} (hs:A6 Γ w E s tmps) (h:Nat) :
  A6 Γ w E { s with slots:=Lk h s.slots } tmps /\ ∀ t x,A1 t (Lk h s.slots)=some x->x.men h=false:=by
 have key:∀ t x,A1 t (Lk h s.slots)=some x->∃ y,A1 t s.slots=some y/\x=bif y.men h then .dead else y:=by
  intro t x hx;unfold Lk at hx
  rw [Xw (λx=>bif S.men h x then .dead else x)] at hx
  obtain ⟨y,hy,rfl⟩:=QI.1 hx;exact ⟨y,hy,rfl⟩
 refine ⟨⟨hs.fr,hs.wf,hs.old,hs.nt,hs.tag,hs.new,hs.boxes,hs.inj,hs.own,λt x hx=>?_,hs.tsize,hs.dom,hs.stay,hs.fzn,hs.held,hs.tow⟩,λt x hx=>?_⟩
 . obtain ⟨y,hy,rfl⟩:=key t x hx
   cases hm:y.men h with
   | true=>exact .dead
   | false=>exact hs.slots t y hy
 . obtain ⟨y,hy,rfl⟩:=key t x hx
   cases hm:y.men h with
   | true=>rfl
   | false=>exact hm
def Box.kill (h:Nat) (b:Box):Box:=bif b.hf then b else { b with rows:=b.rows.map λr=>r.map λc=>bif c.men h then .i .any else c }
def killB (h:Nat) (bs:List (Nat × Box)):List (Nat × Box):=bs.map λp=>(p.1,p.2.kill h)
theorem Gr (h k:Nat) (bs:List (Nat × Box)):A1 k (killB h bs)=(A1 k bs).map (Box.kill h):=Xw (Box.kill h) k bs
theorem Bbc (h:Nat) (b:Box):(b.kill h).men h=false:=by
 unfold Box.kill
 cases hb:b.hf with
 | true=>simp [Box.men,hb]
 | false =>
  simp only [cond,Box.men,hb,ZW,ZZ,Qbi,YP,Function.comp];intro r _;simp only [Qbi,Bool.not_eq_true,YP,Function.comp];intro c _
  cases hc:c.men h with
  | true=>simp [C.men]
  | false=>simp [hc]
theorem Qn {h:Nat} {b:Box} (hb:b.hf=true):b.kill h=b:=by unfold Box.kill;rw [hb];rfl
theorem C3.kill {w:World} {E:Env} {b:Box} {g cap:Nat} (hat:C3 w E b g cap) (h:Nat):C3 w E (b.kill h) g cap:=by
 cases hb:b.hf with
 | true=>rw [Qn hb];exact hat
 | false =>
  obtain ⟨arr,a1,a2,a3,a4,a5,a6,a7,a8,a9⟩:=hat
  have e:b.kill h={ b with rows:=b.rows.map λr=>r.map λc=>bif c.men h then .i .any else c }:=by unfold Box.kill;rw [hb];rfl
  rw [e]
  refine ⟨arr,a1,a2,by simpa using a3,a4,λi r hi=>?_,λi r j c hi hj=>?_,λhf=>?_,a8,a9⟩
  . simp only [QQ,QI] at hi;obtain ⟨r0,hr0,rfl⟩:=hi;simpa using a5 i r0 hr0
  . simp only [QQ,QI] at hi;obtain ⟨r0,hr0,rfl⟩:=hi;simp only [QQ,QI] at hj;obtain ⟨c0,hc0,rfl⟩:=hj;obtain ⟨v,hv,hrc⟩:=a6 i r0 j c0 hr0 hc0;refine ⟨v,hv,?_⟩
    cases hm:c0.men h with
    | true=>exact .i (.any v hrc.oneCell)
    | false=>exact hrc
  . simp only at hf;rw [hb] at hf;cases hf
theorem A6.killB {Γ:Ctx} {w:World} {E:Env} {s:St} {tmps:Array Value} (hs:A6 Γ w E s tmps) (h:Nat):A6 Γ w E { s with boxes:=killB h s.boxes } tmps:=by
 have key:∀ k b,A1 k (Go.Ev.killB h s.boxes)=some b->∃ b0,A1 k s.boxes=some b0/\b=b0.kill h:=by
  intro k b hb;rw [Gr] at hb;obtain ⟨b0,hb0,rfl⟩:=QI.1 hb;exact ⟨b0,hb0,rfl⟩
 have hfz:∀ b:Box,(b.kill h).fz=b.fz:=λb=>by unfold Box.kill;cases b.hf <;> rfl
 have hsz:∀ b:Box,(b.kill h).sz=b.sz:=λb=>by unfold Box.kill;cases b.hf <;> rfl
 refine ⟨hs.fr,hs.wf,hs.old,hs.nt,hs.tag,hs.new,λk b hb=>?_,λk k' b b' g g' z z' hb hb' hz hz' hne=>?_,λk b g z hb hz=>?_,hs.slots,hs.tsize,λk x hx=>?_,hs.stay,λk b g z hb hz hf=>?_,hs.held,hs.tow⟩
 . obtain ⟨b0,hb0,rfl⟩:=key k b hb;obtain ⟨g,cap,h1,h2,h3,h4⟩:=hs.boxes k b0 hb0
   have htr:∀ b:Box,(b.kill h).tr=b.tr:=λb=>by unfold Box.kill;cases b.hf <;> rfl
   have hrl:∀ b:Box,(b.kill h).rows.length=b.rows.length:=λb=>by unfold Box.kill;cases b.hf <;> simp
   refine ⟨g,cap,by rw [hsz];exact h1,by rw [htr];exact h2.kill h,h3,λe=>?_⟩
   rw [htr] at e;have h5:=h4 e
   have back:∀ (i:Nat) (r:List C) (j:Nat) (y:I),(b0.kill h).rows[i]? = some r->r[j]? = some (.i y)->y.isSl=true->∃ r0,b0.rows[i]? = some r0/\r0[j]? = some (.i y):=by
    intro i r j y hi hj hy
    cases hb:b0.hf with
    | true=>rw [Qn hb] at hi;exact ⟨r,hi,hj⟩
    | false =>
     have e:b0.kill h={ b0 with rows:=b0.rows.map λr=>r.map λc=>bif c.men h then .i .any else c }:=by unfold Box.kill;rw [hb];rfl
     rw [e] at hi;simp only [QQ,QI] at hi;obtain ⟨r0,hr0,rfl⟩:=hi;simp only [QQ,QI] at hj;obtain ⟨c0,hc0,hj⟩:=hj
     cases hm:c0.men h with
     | true=>rw [hm] at hj;obtain rfl:=C.i.inj hj;cases hy
     | false=>rw [hm] at hj;exact ⟨r0,hr0,by rw [hc0];exact ZY some hj⟩
   refine ⟨λi r j y len cap a h1 h2 h3 hq h5'=>?_,λi r j y i' r' j' y' len len' cap cap' a a' h1 h2 h3 h1' h2' h3' hn hq hq' h6 h6'=>?_,λi r j y len cap a h1 h2 h3 hq h5'=>?_⟩
   . rw [hsz] at hq;obtain ⟨r0,q1,q2⟩:=back i r j y h1 h2 h3;exact h5.1 i r0 j y len cap a q1 q2 h3 hq h5'
   rotate_left
   . rw [hsz] at hq;obtain ⟨r0,q1,q2⟩:=back i r j y h1 h2 h3;exact h5.2.2 i r0 j y len cap a q1 q2 h3 hq h5'
   . rw [hsz] at hq hq';obtain ⟨r0,q1,q2⟩:=back i r j y h1 h2 h3;obtain ⟨r1,q3,q4⟩:=back i' r' j' y' h1' h2' h3';exact h5.2.1 i r0 j y i' r1 j' y' len len' cap cap' a a' q1 q2 h3 q3 q4 h3' hn hq hq' h6 h6'
 . obtain ⟨b0,hb0,rfl⟩:=key k b hb;obtain ⟨b1,hb1,rfl⟩:=key k' b' hb';exact hs.inj k k' b0 b1 g g' z z' hb0 hb1 hz hz' hne
 . obtain ⟨b0,hb0,rfl⟩:=key k b hb;rw [hfz];exact hs.own k b0 g z hb0 hz
 . rw [Gr,KB];exact hs.dom k x hx
 . obtain ⟨b0,hb0,rfl⟩:=key k b hb;rw [hfz] at hf;exact hs.fzn k b0 g z hb0 hz hf
theorem Aul {h:Nat} {bs:List (Nat × Box)} (hc:Tk h bs=true) {i:Nat} {b:Box} (hi:i ≠ h) (hb:A1 i bs=some b):b.men h=false:=by
 have:=QK.1 hc _ (A85 hb);simp only [XA,XH] at this;rcases this with h1 | h1
 . exact absurd (QD h1) hi
 . exact h1
def Ga (sz:Nat) (x:S) (bx:Nat->Option Box):Option (List (List C) × List Prop) :=
 match x with
 | .v (.one (.hs h off len))=>match bx h with
  | none=>none
  | some b=>bif Nat.beq b.sz sz&&b.hf && !b.tr then some ((b.rows.drop off).take len,[off+len<=b.rows.length]) else none
 | .v (.one (.i (.sl _ false sz' rows)))=>bif Nat.beq sz' sz then some (rows.map (λr=>r.map .i),[]) else none
 | _=>none
def A6f (T:Ty) (k:Nat) (t:TypeId) (s x:S) (bx:Nat->Option Box):Option Res :=
 match Ty.d T t with
 | some (.slice e)=>match T e with
  | none=>none
  | some ei=>bif Nat.ble 1 ei.size&&Nat.ble 1 ei.bytes then (match Ga ei.size x bx with
   | none=>none
   | some (news,obs)=>match s with
    | .v (.one (.hs h 0 len))=>match bx h with
     | none=>none
     | some b=>bif Nat.beq b.sz ei.size&&b.hf && !b.fz&&Nat.beq b.e e && !b.tr then
       some ⟨.v (.one (.hs h 0 (len+news.length))),.move h { b with rows:=b.rows++news },(len=b.rows.length)::((len+news.length)*ei.bytes<=140737488355328)::obs⟩ else none
    | .v (.one (.i (.lit (.slice none 0 0))))=>some ⟨.v (.one (.hs k 0 news.length)),.new ⟨e,ei.size,true,false,news,false⟩,(0<news.length)::(news.length*ei.bytes<=140737488355328)::obs⟩
    | _=>none) else none
 | _=>none
theorem Aib {Γ:Ctx} {w:World} {E:Env} {s:St} {tmps:Array Value} (hs:A6 Γ w E s tmps) {v:Value} {x:S} {sz:Nat} {news:List (List C)} {obs:List Prop} (hsz:1<=sz)
  (hv:Rs w E v x) (h:Ga sz x (A1 · s.boxes)=some (news,obs)) (ho:∀ p ∈ obs,p) (hnn:news ≠ []) :
  ∃ (ad:Addr) (cp:Nat) (vs:List Value),v = .slice (some ad) news.length cp/\vs.length=news.length*sz/\(∀ (j:Nat) u,vs[j]? = some u->w.cell? (ad.add j)=some u) /\
   (∀ (i:Nat) (r:List C),news[i]? = some r->r.length=sz) /\
   (∀ (i:Nat) (r:List C) (j:Nat) (c:C),news[i]? = some r->r[j]? = some c->∃ u y,vs[i*sz+j]? = some u/\c = .i y/\Ri w E u y) /\ ∀ u ∈ vs,u.oneCell'=true:=by
 have out:∀ (g o:Nat) (f:Nat->Nat->Value) (c:Nat),(∀ (i:Nat) (r:List C),news[i]? = some r->r.length=sz) ->
   (∀ (i:Nat) (r:List C) (j:Nat) (c:C),news[i]? = some r->r[j]? = some c->∃ y,w.cell? ⟨g,o+(i*sz+j),none⟩=some (f i j)/\c = .i y/\Ri w E (f i j) y) ->
   ∃ vs:List Value,vs.length=news.length*sz/\(∀ (j:Nat) u,vs[j]? = some u->w.cell? ((⟨g,o,none⟩:Addr).add j)=some u) /\
   (∀ (i:Nat) (r:List C) (j:Nat) (c:C),news[i]? = some r->r[j]? = some c->∃ u y,vs[i*sz+j]? = some u/\c = .i y/\Ri w E u y) /\ ∀ u ∈ vs,u.oneCell'=true:=by
  intro g o f c hl hc
  have at_:∀ n,n<news.length*sz->∃ r q,news[n / sz]? = some r/\r[n % sz]? = some q:=by
   intro n hn
   have h1:n / sz<news.length:=Nat.div_lt_of_lt_mul (by rwa [KK])
   have h2:n % sz<sz:=KQ _ (by omega)
   have h3:=hl _ _ (QN h1)
   exact ⟨_,_,QN h1,QN (by rw [h3];exact h2)⟩
  have split_:∀ n,n / sz*sz+n % sz=n:=λn=>Nat.div_add_mod' n sz
  refine ⟨(List.range (news.length*sz)).map λn=>f (n / sz) (n % sz),by simp,?_,?_,?_⟩
  . intro j u hj;rw [QQ] at hj;by_cases hlt:j<news.length*sz
    . rw [Qaj hlt] at hj;simp only [QV,QF] at hj;obtain ⟨r,q,hr,hq⟩:=at_ j hlt;obtain ⟨y,hcell,_,_⟩:=hc _ r _ q hr hq;rw [Kl,<- hj,<- hcell,split_]
    . rw [KD (by simp;omega)] at hj
      cases hj
  . intro i r j q hi hj;have hil:i<news.length:=(ZD.1 hi).1
    have hjl:j<sz:=by rw [<- hl i r hi];exact (ZD.1 hj).1
    have hlt:i*sz+j<news.length*sz:=by
     have:(i+1)*sz<=news.length*sz:=YF _ hil;rw [YQ,JV] at this;omega
    obtain ⟨y,_,hy,hr⟩:=hc i r j q hi hj;refine ⟨f i j,y,?_,hy,hr⟩;rw [QQ,Qaj hlt]
    have e1:(i*sz+j) / sz=i:=by rw [KK,Nat.mul_add_div (by omega),KW hjl];omega
    have e2:(i*sz+j) % sz=j:=by rw [KK,Nat.mul_add_mod,KO hjl]
    simp [e1,e2]
  . intro u hu;obtain ⟨n,hn,rfl⟩:=ZK.1 hu;have hlt:n<news.length*sz:=XP.1 hn;obtain ⟨r,q,hr,hq⟩:=at_ n hlt;obtain ⟨y,_,_,hri⟩:=hc _ r _ q hr hq;exact hri.oneCell
 unfold Ga at h;split at h
 . rename_i hh off len;split at h
   . cases h
   . rename_i b hb
     cases hc:(Nat.beq b.sz sz&&b.hf && !b.tr) with
     | false=>rw [hc] at h;cases h
     | true =>
      rw [hc] at h;simp only [cond,QF,QL] at h;obtain ⟨rfl,rfl⟩:=h;simp only [QH,XH] at hc;obtain ⟨hc,htr⟩:=hc;have c1:=QD hc.1
      have hle:off+len<=b.rows.length:=ho _ (by simp)
      obtain ⟨g,z,cap,ad,hβ,hcap,had,rfl⟩:=hv.hs_inv;obtain ⟨rfl,hat,_⟩:=hs.box hb hβ;have hat:=hat htr;have hat':=hat;obtain ⟨arr,hg,hsz',hl,hm,hlen,hcell,hhf,hA,hT'⟩:=hat
      have hnl:((b.rows.drop off).take len).length=len:=by simp;omega
      have hget:∀ (i:Nat) (q:List C),((b.rows.drop off).take len)[i]? = some q->b.rows[off+i]? = some q:=by
       intro i q hi;rw [XM] at hi;split at hi
       . rwa [YH] at hi
       . cases hi
      have hrl:∀ (i:Nat) r,((b.rows.drop off).take len)[i]? = some r->r.length=sz:=λi r hi=>by rw [<- c1];exact hlen _ r (hget i r hi)
      by_cases h0:len=0
      . subst h0
        refine ⟨ad,cap-off,[],by simp,by simp,by simp,hrl,?_,by simp⟩
        intro i r j c hi;simp at hi
      . obtain rfl:=had (.inl (by omega))
        obtain ⟨vs,v1,v2,v3,v4⟩:=out g (off*b.sz) (λi j=>(arr[(off+i)*b.sz+j]?).getD undef) cap hrl (λi r j c hi hj=>by
         obtain ⟨u,hu,hr⟩:=hcell _ r j c (hget i r hi) hj;obtain ⟨y,rfl⟩:=hhf hc.2 _ r j c (hget i r hi) hj;refine ⟨y,?_,rfl,?_⟩
         . rw [show off*b.sz+(i*sz+j)=(off+i)*b.sz+j by rw [<- c1,YQ];omega]
           simp [World.cell?,hg,hu]
         . rw [hu];cases hr with | i hr=>exact hr)
        exact ⟨_,_,vs,by rw [hnl],v1,v2,hrl,v3,v4⟩
 . rename_i tag sz' rows
   cases hc:Nat.beq sz' sz with
   | false=>rw [hc] at h;cases h
   | true =>
    rw [hc] at h;simp only [cond,QF,QL] at h;obtain ⟨rfl,rfl⟩:=h;have c1:=QD hc
    cases hv.i_inv with
    | nil _ _ cap a _ hn _=>exact absurd rfl hnn
    | sl _ _ g o cap _ f hne hcap hg hb hlen hcell hrc =>
     have hget:∀ (i:Nat) (q:List C),(rows.map (λr=>r.map C.i))[i]? = some q->∃ p,rows[i]? = some p/\q=p.map .i:=by
      intro i q hi;rw [QQ] at hi;obtain ⟨p,hp,rfl⟩:=QI.1 hi;exact ⟨p,hp,rfl⟩
     have hrl:∀ (i:Nat) r,(rows.map (λr=>r.map C.i))[i]? = some r->r.length=sz:=by
      intro i r hi;obtain ⟨p,hp,rfl⟩:=hget i r hi;rw [ZA,hlen i p hp,c1]
     obtain ⟨vs,v1,v2,v3,v4⟩:=out g o f cap hrl (λi r j c hi hj=>by
      obtain ⟨p,hp,rfl⟩:=hget i r hi;rw [QQ] at hj;obtain ⟨y,hy,rfl⟩:=QI.1 hj
      exact ⟨y,by rw [<- c1];exact hcell i p j y hp hy,rfl,hrc i p j y hp hy⟩)
     exact ⟨⟨g,o,none⟩,cap,vs,by simp,v1,v2,hrl,v3,v4⟩
 . cases h
theorem B3i {Γ:Ctx} {w:World} {E:Env} {s:St} {tmps:Array Value} (hs:A6 Γ w E s tmps) {v:Value} {x:S} {sz:Nat} {obs:List Prop}
  (hv:Rs w E v x) (h:Ga sz x (A1 · s.boxes)=some ([],obs)) (ho:∀ p ∈ obs,p):∃ a cp,v = .slice a 0 cp:=by
 unfold Ga at h;split at h
 . rename_i hh off len;split at h
   . cases h
   . rename_i b hb
     cases hc:(Nat.beq b.sz sz&&b.hf && !b.tr) with
     | false=>rw [hc] at h;cases h
     | true =>
      rw [hc] at h;simp only [cond,QF,QL] at h;obtain ⟨h1,rfl⟩:=h
      have hle:off+len<=b.rows.length:=ho _ (by simp)
      have:len=0:=by have:=ZY List.length h1;simp at this;omega
      subst this;obtain ⟨g,z,cap,ad,hβ,hcap,had,rfl⟩:=hv.hs_inv;exact ⟨_,_,rfl⟩
 . rename_i tag sz' rows
   cases hc:Nat.beq sz' sz with
   | false=>rw [hc] at h;cases h
   | true =>
    rw [hc] at h;simp only [cond,QF,QL] at h;obtain ⟨h1,_⟩:=h
    have:rows=[]:=by simpa using h1
    subst this
    cases hv.i_inv with
    | nil _ _ cap a _ hn _=>exact ⟨_,_,rfl⟩
    | sl _ _ g o cap _ f hne=>exact absurd rfl hne
 . cases h
theorem Tz (w:World) (t ty e:TypeId) (i:TypeInfo) (ht:P.underlying t=some (.slice e)) (hi:P.info? e=some i) (base:Option Addr) (sLen sCap:Nat) (hle:sLen<=sCap) (a:Option Addr) (cp:Nat) :
  (Builtin.append_ #[t,t] ty #[.slice base sLen sCap,.slice a 0 cp]).run P w = .ok (.slice base sLen sCap) w:=by
 cases base <;> cases a <;> simp [Builtin.append_,run_underlying ht,sizeOf,typeInfo,hi,hle,Builtin.lenOf,Builtin.firstCells,loadCells,loadCellsFrom,storeCells]
theorem A6.relook {Γ:Ctx} {w:World} {E:Env} {s:St} {tmps:Array Value} (hs:A6 Γ w E s tmps) {bs:List (Nat × Box)} (h:∀ k,A1 k bs=A1 k s.boxes):A6 Γ w E { s with boxes:=bs } tmps where
 fr:=hs.fr
 wf:=hs.wf
 old:=hs.old
 nt:=hs.nt
 tag:=hs.tag
 new:=hs.new
 boxes:=λk b hb=>hs.boxes k b (by rw [<- h];exact hb)
 inj:=λk k' b b' g g' z z' hb hb'=>hs.inj k k' b b' g g' z z' (by rw [<- h];exact hb) (by rw [<- h];exact hb')
 own:=λk b g z hb=>hs.own k b g z (by rw [<- h];exact hb)
 slots:=hs.slots
 tsize:=hs.tsize
 dom:=λk x hx=>by show (A1 k bs).isSome=true;rw [h];exact hs.dom k x hx
 stay:=hs.stay
 fzn:=λk b g z hb=>hs.fzn k b g z (by rw [<- h];exact hb)
 tow:=hs.tow
 held:=hs.held
theorem At1 {Γ:Ctx} (hT:B8 P T) {w:World} {E:Env} {s:St} {tmps:Array Value} (hs:A6 Γ w E s tmps) {t e ty:TypeId} {ei:TI} (hd:Ty.d T t=some (.slice e)) (hei:T e=some ei) (h1:1<=ei.size) (h1b:1<=ei.bytes)
  {h n:Nat} {v u:Value} {olds news:List (List C)} {b':Box} (hb':b'.e=e/\b'.sz=ei.size/\(b'.hf=true->∀ (i:Nat) (r:List C) (j:Nat) (c:C),(olds++news)[i]? = some r->r[j]? = some c->∃ x,c = .i x)/\b'.fz=false/\b'.rows=olds++news)
  (hn:olds.length=n) (xs:List Value) (hown:w.ownsRow 0 e ei.size v n xs) (hv:v = .slice none 0 0/\0<news.length/\A1 h s.boxes = .none \/ ∃ g cap b,A1 h s.boxes=some b/\b.fz=false/\E.β h=some (g,ei.size,cap)/\v = .slice (some ⟨g,0,none⟩) n cap)
  (holds:∀ (i:Nat) (r:List C),olds[i]? = some r->r.length=ei.size)
  (hcells:∀ (i:Nat) (r:List C) (j:Nat) (c:C),olds[i]? = some r->r[j]? = some c->∃ u,xs[i*ei.size+j]? = some u/\Rc w (E.rd h b'.tr) u c/\c.men h=false)
  (hSo:b'.tr=true->(∀ (i:Nat) (r:List C) (j:Nat) (y:I) (len cp:Nat) (a:Addr),olds[i]? = some r->r[j]? = some (.i y)->y.isSl=true->xs[i*ei.size+j]? = some (.slice (some a) len cp)->0<len->E.ω a.block=some h) /\
   (∀ (i:Nat) (r:List C) (j:Nat) (y:I) (i':Nat) (r':List C) (j':Nat) (y':I) (len len' cp cp':Nat) (a a':Addr),olds[i]? = some r->r[j]? = some (.i y)->y.isSl=true->olds[i']? = some r'->r'[j']? = some (.i y')->y'.isSl=true->¬ (i=i'/\j=j') ->
    xs[i*ei.size+j]? = some (.slice (some a) len cp)->xs[i'*ei.size+j']? = some (.slice (some a') len' cp')->0<len->0<len'->a.block ≠ a'.block) /\
   (∀ (i:Nat) (r:List C) (j:Nat) (y:I) (len cp:Nat) (a:Addr),olds[i]? = some r->r[j]? = some (.i y)->y.isSl=true->xs[i*ei.size+j]? = some (.slice (some a) len cp)->0<len->∃ arr:Array Value,a=⟨a.block,0,none⟩/\w.heap[a.block]? = some (.cells arr Bm7 (0,0))/\arr.size=cp/\cp<=maxLen))
  (ad:Addr) (cp:Nat) (vs:List Value) (hu:u = .slice (some ad) news.length cp) (hvl:vs.length=news.length*ei.size) (hvc:∀ (j:Nat) u,vs[j]? = some u->w.cell? (ad.add j)=some u)
  (hnl:∀ (i:Nat) (r:List C),news[i]? = some r->r.length=ei.size)
  (hnc:∀ (i:Nat) (r:List C) (j:Nat) (c:C),news[i]? = some r->r[j]? = some c->∃ u,vs[i*ei.size+j]? = some u/\Rc w E u c/\c.men h=false/\(b'.tr=true->c.okT=true)) (hone:∀ u ∈ vs,u.oneCell'=true)
  (hbytes:(n+news.length)*ei.bytes<=140737488355328)
  (hmv:h<1000 \/ Γ.K.mv.contains h=true) (hmen:(∀ x,E.β h ≠ some x) \/ ((∀ t x,A1 t s.slots=some x->x.men h=false) /\ ∀ i b,i ≠ h->A1 i s.boxes=some b->b.men h=false)) :
  ∃ u' w' E',(Builtin.append_ #[t,t] ty #[v,u]).run P w = .ok u' w'/\Rs w' E' u' (.v (.one (.hs h 0 (n+news.length))))/\A6 Γ w' E' { s with boxes:=B2 h b' s.boxes } tmps:=by
 subst hu;obtain ⟨inf,hinf,hsz,hby,hz⟩:=(hT e ei hei).info
 have hm:n+news.length<=maxLen:=by
  have:(n+news.length)*1<=(n+news.length)*ei.bytes:=XI _ h1b;simp only [maxLen];omega
 obtain ⟨v',w',hrun,hown',hgr,hnil,hat⟩:=run_append_own_at (P:=P) w 0 t ty e inf ei.zero ei.size ei.bytes (hT.d hd) hinf hz hsz hby (hT e ei hei).cells h1 v n xs hown ad news.length cp vs hvl hvc hone hm hbytes (KJ _)
 have hnn:¬ v' = .slice none 0 0:=by
  intro he;obtain ⟨he1,he2⟩:=hnil.1 he;rcases hv with ⟨_,hpos,_⟩ | ⟨g,cap,b,_,_,_,rfl⟩
  . omega
  . cases he1
 rcases hown'.2 with ⟨he,_⟩ | ⟨g,cap,cur,rfl,_,hg,hnc',hcm,hcs,htake⟩
 . exact absurd he hnn
 have hob:(Value.slice (some ⟨g,0,none⟩) (n+news.length) cap).ownBlock=some g:=rfl;rw [hob] at hat;have hxl:xs.length=n*ei.size:=hown.1;have ht:Mb w w' (λb=>some b=v.ownBlock):=⟨hgr.os,hgr.tape,hgr.output,hgr.size,λb hb hne=>hgr.block b hb hne⟩
 have hrow:∀ b,some b=v.ownBlock->∃ z,E.β h=some (b,z):=by
  intro b hb;rcases hv with ⟨rfl,_⟩ | ⟨g0,cap0,b0,_,_,hβ,rfl⟩
  . simp [Value.ownBlock] at hb
  . simp only [Value.ownBlock,QF] at hb;subst hb;exact ⟨_,hβ⟩
 have hgl:g<w'.heap.size:=(ZU.1 hg).1
 have hgpos:(∃ z bx,A1 h s.boxes=some bx/\bx.fz=false/\E.β h=some (g,z)) \/ (w.heap.size<=g/\g<w'.heap.size):=by
  rcases hat with hat | hat
  . rcases hv with ⟨rfl,_⟩ | ⟨g0,cap0,b0,hb0,hf0,hβ,rfl⟩
    . simp [Value.ownBlock] at hat
    . simp only [Value.ownBlock,QF] at hat;subst hat;exact .inl ⟨_,b0,hb0,hf0,hβ⟩
  . simp only [QF] at hat
    exact .inr ⟨by omega,hgl⟩
 have hblkE:∀ tag b,b<w.heap.size->E.blk tag b->(E.set h g b'.sz cap).blk tag b:=by
  intro tag b hlt hb;unfold Env.blk at hb ⊢;split
  . rename_i e0;rw [QC e0] at hb
    rintro (h' | rfl)
    . exact hb h'
    . rcases hgpos with ⟨z,bx,hbx',hf,hz'⟩ | ⟨hge,_⟩
      . obtain ⟨_,_,_,_,hA,_⟩:=(hs.boxes h bx hbx').facts hz';exact hb (hA hf)
      . omega
  . rename_i e0;rw [QB e0] at hb;exact hb
 have hrowF:∀ b,some b=v.ownBlock->E.A b/\(∀ t,E.τ t ≠ some b)/\E.ω b=none:=by
  intro b hrw;rcases hv with ⟨rfl,_⟩ | ⟨g0,cap0,b0,hb0,hf0,hβ,rfl⟩
  . simp [Value.ownBlock] at hrw
  . obtain ⟨_,_,_,_,hA,hT',hω'⟩:=(hs.boxes h b0 hb0).facts hβ;simp only [Value.ownBlock,QF] at hrw;subst hrw;exact ⟨hA hf0,hT',hω'⟩
 have kb:Ez h w w' E (E.set h g b'.sz cap):=by
  refine ⟨ht.size,hblkE,λk x hk hx=>by show (if k=h then _ else E.β k)=_;rw [QB hk];exact hx,λtag b o v hb hc=>ht.cell hc (λhrw=>?_)⟩
  obtain ⟨hA,hT',_⟩:=hrowF b hrw;unfold Env.blk at hb;split at hb
  . exact hb hA
  . exact hT' _ hb
 have hωk:∀ b k,E.ω b=some k->(E.set h g b'.sz cap).ω b=some k/\w'.heap[b]? = w.heap[b]?:=λb k hb =>
  ⟨hb,ht.block b (hs.wf.alt b (hs.wf.om b k hb).1) (λhr=>by rw [(hrowF b hr).2.2] at hb;cases hb)⟩
 obtain ⟨q1,q2,q3,q4,q5⟩:=hb'
 have hcell':∀ (k:Nat) (u:Value),(xs++vs)[k]? = some u->cur[k]? = some u:=by
  intro k u hk;rw [<- htake,XM] at hk;split at hk
  . rwa [YO] at hk
  . cases hk
 have read:∀ (i:Nat) (r:List C) (j:Nat) (c:C),(olds++news)[i]? = some r->r[j]? = some c->∃ u,cur[i*ei.size+j]? = some u/\Rc w (E.rd h b'.tr) u c/\c.men h=false /\
   ((olds[i]? = some r/\xs[i*ei.size+j]? = some u) \/ (b'.tr=true->c.okT=true)):=by
  intro i r j c hi hj;by_cases hlt:i<olds.length
  . rw [ZH hlt] at hi;obtain ⟨u,hx,hr,hm⟩:=hcells i r j c hi hj;refine ⟨u,hcell' _ u ?_,hr,hm,.inl ⟨hi,hx⟩⟩;rw [ZH (ZD.1 hx).1];exact hx
  . rw [ZG (by omega)] at hi
    obtain ⟨u,hx,hr,hm,hok⟩:=hnc _ r j c hi hj;refine ⟨u,hcell' _ u ?_,?_,hm,.inr hok⟩
    . have : i * ei.size + j - xs.length = (i - olds.length) * ei.size + j := by
       rw [hxl,hn,Nat.sub_mul]
       have:n*ei.size<=i*ei.size:=YF _ (by omega)
       omega
      rw [ZG (by rw [hxl];have:n*ei.size<=i*ei.size:=YF _ (by omega);omega),this]
      exact hx
    . cases htr:b'.tr with
      | false=>exact hr
      | true=>exact hr.okT (E:=E) (E':=E.rd h true) rfl (hok htr)
 have cellAt:∀ k,w'.cell? ⟨g,k,none⟩=cur[k]?:=λk=>by simp [World.cell?,hg]
 refine ⟨_,w',_,hrun,?_,hs.setBox h g cap b' (λb=>some b=v.ownBlock) ht hrow (λb hb bx hbx=>by
  rcases hv with ⟨rfl,_⟩ | ⟨g0,cap0,b0,hb0,hf0,_,_⟩
  . simp [Value.ownBlock] at hb
  . rw [hb0] at hbx;rw [<- QA hbx];exact hf0) hgpos (hmv.imp_right .inl) q4 (λe=>?_) ?_ (hmen.imp (λh0 x hx=>absurd hx (h0 x)) id)⟩
 . exact Rs.newHs h g b'.sz cap (n+news.length) w' hnc'
 . obtain ⟨s1,s2,s3⟩:=hSo e;refine ⟨λi r j y len cp a h1 h2 h3 h4 h5=>?_,λi r j y i' r' j' y' len len' cp cp' a a' h1 h2 h3 h1' h2' h3' hn' h4 h4' h5 h5'=>?_,λi r j y len cp a h1 h2 h3 h4 h5=>?_⟩
   rotate_left 2
   . rw [q5] at h1;rw [q2,cellAt] at h4;obtain ⟨u,r1,r2,_,r3⟩:=read i r j _ h1 h2;rw [r1] at h4;obtain rfl:=QA h4;rcases r3 with ⟨r3,r4⟩ | r3
     . obtain ⟨ar,e1,e2,e3⟩:=s3 i r j y len cp a r3 h2 h3 r4 h5
       exact ⟨ar,e1,by rw [(hωk _ _ (s1 i r j y len cp a r3 h2 h3 r4 h5)).2];exact e2,e3⟩
     . have:=Kp (r3 e) h3 r2;omega
   . rw [q5] at h1;rw [q2,cellAt] at h4;obtain ⟨u,r1,r2,_,r3⟩:=read i r j _ h1 h2;rw [r1] at h4;obtain rfl:=QA h4;rcases r3 with ⟨r3,r4⟩ | r3
     . exact s1 i r j y len cp a r3 h2 h3 r4 h5
     . have:=Kp (r3 e) h3 r2;omega
   . rw [q5] at h1 h1';rw [q2,cellAt] at h4 h4';obtain ⟨u,r1,r2,_,r3⟩:=read i r j _ h1 h2;obtain ⟨u',r1',r2',_,r3'⟩:=read i' r' j' _ h1' h2';rw [r1] at h4;rw [r1'] at h4';obtain rfl:=QA h4;obtain rfl:=QA h4';rcases r3 with ⟨r3,r4⟩ | r3
     . rcases r3' with ⟨r3',r4'⟩ | r3'
       . exact s2 i r j y i' r' j' y' len len' cp cp' a a' r3 h2 h3 r3' h2' h3' hn' r4 r4' h5 h5'
       . have:=Kp (r3' e) h3' r2';omega
     . have:=Kp (r3 e) h3 r2;omega
 . refine ⟨cur,by rw [q1];exact hg,by rw [q2];exact hcs,by rw [q5];simp;omega,hcm,λi r hi=>?_,λi r j c hi hj=>?_,λhh i r j c hi hj=>?_,λ_=>?_,λt' ht'=>?_⟩
   . rw [q5] at hi;rw [q2];by_cases hlt:i<olds.length
     . rw [ZH hlt] at hi;exact holds i r hi
     . rw [ZG (by omega)] at hi;exact hnl _ r hi
   . rw [q5] at hi;obtain ⟨u,hx,hr,hm,_⟩:=read i r j c hi hj
     exact ⟨u,by rw [q2];exact hx,hr.keepBut (kb.rd h b'.tr hωk) hm⟩
   . rw [q5] at hi;exact q3 hh i r j c hi hj
   . have hgω : (E.set h g b'.sz cap).ω g = none := by
      show E.ω g=none;rcases hgpos with ⟨z,bx,hbx',hf,hz'⟩ | ⟨hge,_⟩
      . obtain ⟨_,_,_,_,_,_,hω'⟩:=(hs.boxes h bx hbx').facts hz';exact hω'
      . cases e:E.ω g with
        | none=>rfl
        | some k=>have:=hs.wf.alt g (hs.wf.om g k e).1;omega
     exact (Env.rd_A hgω).2 (.inr rfl)
   . rw [Env.rd_τ] at ht';have ht'':E.τ t'=some g:=ht';rcases hgpos with ⟨z,bx,hbx',hf,hz'⟩ | ⟨hge,_⟩
     . obtain ⟨_,_,_,_,_,hT',_⟩:=(hs.boxes h bx hbx').facts hz';exact hT' t' ht''
     . have:=hs.wf.alt _ (hs.wf.tag t' g ht'').2.2;omega
def St.app (s:St) (h:Nat) (b:Box):St:={ s with slots:=Lk h s.slots,boxes:=B2 h b (killB h s.boxes) }
theorem Ba5 {Γ:Ctx} (hT:B8 P T) {w:World} {E:Env} {s:St} {tmps:Array Value} (hs:A6 Γ w E s tmps) {t ty:TypeId} {k:Nat} {v u:Value} {x y:S} {r:Res}
  (hkn:(∃ b,r.eff = .new b)->A1 k s.boxes = .none/\k<1000) (hv:Rs w E v x) (hu:Rs w E u y) (h:A6f T k t x y (A1 · s.boxes)=some r) (ho:∀ p ∈ r.ob,p) :
  (∀ h b,r.eff = .move h b->h<1000 \/ Γ.K.mv.contains h=true) ->
  ∃ h b u' w' E',(r.eff = .move h b \/ (r.eff = .new b/\h=k))/\(Builtin.append_ #[t,t] ty #[v,u]).run P w = .ok u' w'/\Rs w' E' u' r.val /\
   (r.eff = .move h b->A6 Γ w' E' (s.app h b) tmps)/\(r.eff = .new b->A6 Γ w' E' { s with boxes:=B2 k b s.boxes } tmps):=by
 intro hmvk;unfold A6f at h;split at h
 . rename_i e hd;split at h
   . cases h
   . rename_i ei hei
     cases hc:(Nat.ble 1 ei.size&&Nat.ble 1 ei.bytes) with
     | false=>rw [hc] at h;cases h
     | true =>
      rw [hc] at h;simp only [cond] at h;simp only [QH] at hc;have c1:=XO hc.1;have c2:=XO hc.2;split at h
      . cases h
      . rename_i news obs hsrc;split at h
        . rename_i hh len;split at h
          . cases h
          . rename_i b hb
            cases hc2:(Nat.beq b.sz ei.size&&b.hf && !b.fz&&Nat.beq b.e e && !b.tr) with
            | false=>rw [hc2] at h;cases h
            | true =>
             rw [hc2] at h;obtain rfl:=QA h;simp only [QH,XH] at hc2;obtain ⟨⟨⟨⟨d1,d2⟩,d3⟩,d4⟩,d5⟩:=hc2;have d1:=QD d1;have d4:=QD d4
             have o1:len=b.rows.length:=ho _ (by simp)
             have o2:(len+news.length)*ei.bytes<=140737488355328:=ho _ (by simp)
             by_cases hnn:news=[]
             . subst hnn
               obtain ⟨a,cp,rfl⟩:=B3i hs hu hsrc (λp hp=>ho p (by simp [hp]))
               have hv':=hv;obtain ⟨g,z,cap,ad0,hβ,hcap,had,rfl⟩:=hv.hs_inv;obtain ⟨inf,hinf,_⟩:=(hT e ei hei).info;obtain ⟨hs0,hmen⟩:=hs.kill hh;have hs1:=hs0.killB hh
               have hbk:A1 hh (killB hh s.boxes)=some b:=by rw [Gr,hb];exact ZY some (Qn d2)
               refine ⟨hh,_,_,w,E,.inl rfl,Tz w t ty e inf (hT.d hd) hinf (some ad0) len (cap-0) (by omega) a cp,hv',λ_=>?_,λhne=>by cases hne⟩
               refine A6.relook hs1 λk=>?_;by_cases e:k=hh
               . subst e;rw [At];simp only [XT];exact hbk.symm
               . exact As _ _ e
             obtain ⟨ad,cp,vs,hu1,hvl,hvc,hnl,hnc,hone⟩:=Aib hs c1 hu hsrc (λp hp=>ho p (by simp [hp])) hnn
             obtain ⟨g,z,cap,ad0,hβ,hcap,had,rfl⟩:=hv.hs_inv;obtain ⟨rfl,hat,_⟩:=hs.box hb hβ;have hat:=hat d5;obtain ⟨arr,hg,hsz',hl,hm,hlen,hcell,hhf,hA,hT'⟩:=hat;obtain rfl:=had (.inr rfl);obtain ⟨hs0,hmen⟩:=hs.kill hh;have hs1:=hs0.killB hh
             have hbk:A1 hh (killB hh s.boxes)=some b:=by rw [Gr,hb];exact ZY some (Qn d2)
             have hfull:len*ei.size<=arr.size:=by rw [hsz',d1,o1];exact YF _ hl
             obtain ⟨u',w',E',e1,e2,e3⟩:=At1 (ty:=ty) hT hs1 hd hei c1 c2 (h:=hh) (n:=len) (v:=.slice (some ⟨g,0,none⟩) len cap) (u:=u) (olds:=b.rows) (news:=news) (b':={ b with rows:=b.rows++news })
              ⟨d4,d1,(λ_ i r j c hi hj=>by
               by_cases hlt:i<b.rows.length
               . rw [ZH hlt] at hi;exact hhf d2 i r j c hi hj
               . rw [ZG (by omega)] at hi;obtain ⟨_,y,_,rfl,_⟩:=hnc _ r j c hi hj;exact ⟨y,rfl⟩),d3,rfl⟩ o1.symm (arr.toList.take (len*ei.size))
              ⟨by simp [hfull],.inr ⟨g,cap,arr,rfl,KJ _,by rw [<- d4];exact hg,by omega,hm,by rw [hsz',d1],rfl⟩⟩
              (.inr ⟨g,cap,b,hbk,d3,by rw [<- d1];exact hβ,rfl⟩) (λi r hi=>by rw [<- d1];exact hlen i r hi)
              (λi r j c hi hj=>by
               obtain ⟨u,hu',hr⟩:=hcell i r j c hi hj;obtain ⟨y,rfl⟩:=hhf d2 i r j c hi hj;have hil:i<b.rows.length:=(ZD.1 hi).1
               have hjl:j<b.sz:=by rw [<- hlen i r hi];exact (ZD.1 hj).1
               have hlt:i*ei.size+j<len*ei.size:=by
                have:(i+1)*ei.size<=len*ei.size:=YF _ (by omega)
                rw [YQ,JV] at this;omega
               refine ⟨u,?_,by rw [show ({ b with rows:=b.rows++news }:Box).tr=false from d5];exact hr,rfl⟩
               rw [XM,QC hlt,YO,<- d1]
               exact hu')
              (λe=>by rw [show ({ b with rows:=b.rows++news }:Box).tr=false from d5] at e;cases e)
              ad cp vs hu1 hvl hvc hnl (λi r j c hi hj=>by obtain ⟨u,y,z1,rfl,z2⟩:=hnc i r j c hi hj;exact ⟨u,z1,.i z2,rfl,λe=>by rw [show ({ b with rows:=b.rows++news }:Box).tr=false from d5] at e;cases e⟩) hone o2 (hmvk hh _ rfl) (.inr ⟨hmen,λi b' hi hb'=>by obtain ⟨b0,_,rfl⟩:=QI.1 ((Gr hh i s.boxes) ▸ hb');exact Bbc hh b0⟩)
             simp only [KZ,JM] at e1 ⊢
             refine ⟨hh,_,u',w',E',.inl rfl,e1,e2,λ_=>e3,λhne=>by cases hne⟩
        . obtain rfl:=QA h;obtain ⟨hk,hk1⟩:=hkn ⟨_,rfl⟩
          have o1:0<news.length:=ho _ (by simp)
          have o2:news.length*ei.bytes<=140737488355328:=ho _ (by simp)
          obtain ⟨ad,cp,vs,hu1,hvl,hvc,hnl,hnc,hone⟩:=Aib hs c1 hu hsrc (λp hp=>ho p (by simp [hp])) (λe=>by subst e;simp at o1)
          obtain rfl:=hv.lit_inv
          obtain ⟨u',w',E',e1,e2,e3⟩:=At1 (ty:=ty) hT hs hd hei c1 c2 (h:=k) (n:=0) (v:=.slice none 0 0) (u:=u) (olds:=[]) (news:=news) (b':=⟨e,ei.size,true,false,news,false⟩)
           ⟨rfl,rfl,(λ_ i r j c hi hj=>by rw [JR] at hi;obtain ⟨_,y,_,rfl,_⟩:=hnc i r j c hi hj;exact ⟨y,rfl⟩),rfl,rfl⟩ rfl [] (World.ownsRow_nil w 0 e ei.size) (.inl ⟨rfl,o1,hk⟩) (λi r hi=>by simp at hi) (λi r j c hi=>by simp at hi) (λe=>by cases e)
           ad cp vs hu1 hvl hvc hnl (λi r j c hi hj=>by obtain ⟨u,y,z1,rfl,z2⟩:=hnc i r j c hi hj;exact ⟨u,z1,.i z2,rfl,λe=>by cases e⟩) hone (by simpa using o2) (.inl hk1) (.inl λx hx=>hs.none hk x hx)
          simp only [YI] at e2
          exact ⟨k,_,u',w',E',.inr ⟨rfl,rfl⟩,e1,e2,(λhne=>by cases hne),λ_=>e3⟩
        . cases h
 . cases h
def Env.free (E:Env) (g:Nat):Env:={ E with A:=λb=>E.A b/\b ≠ g }
theorem A6.freeze {Γ:Ctx} {w:World} {E:Env} {s:St} {tmps:Array Value} (hs:A6 Γ w E s tmps) {h:Nat} {b:Box} {g sz cap:Nat} (hb:A1 h s.boxes=some b) (hβ:E.β h=some (g,sz,cap)) (hk:h<1000) :
  A6 Γ w (E.free g) { s with boxes:=B2 h { b with fz:=true } s.boxes } tmps:=by
 obtain ⟨rfl,_,hat,hω⟩:=hs.box hb hβ
 have hgn:Γ.w0.heap.size<=g:=by
  rcases hs.own h b g _ hb hβ with h' | h'
  . exact h'
  . omega
 have hT:∀ t,E.τ t ≠ some g:=by obtain ⟨_,_,_,_,_,_,_,_,_,hT⟩:=hat;rw [Env.rd_τ] at hT;exact hT
 have kk:Cy w w E (E.free g):=by
  refine ⟨ZF _,λtag x _ hx=>?_,λ_ _ h=>h,λ_ _ _ _ _ h=>h⟩;unfold Env.blk at hx ⊢;split
  . rename_i e;rw [QC e] at hx;exact λh'=>hx h'.1
  . rename_i e;rw [QB e] at hx;exact hx
 have same:∀ k b' ,A1 k (B2 h { b with fz:=true } s.boxes)=some b'->∃ b0,A1 k s.boxes=some b0/\b'=(if k=h then { b0 with fz:=true } else b0):=by
  intro k b' hb';by_cases hkh:k=h
  . subst hkh;rw [At] at hb'
    exact ⟨b,hb,by rw [QC rfl];exact (QA hb').symm⟩
  . rw [As _ _ hkh] at hb'
    exact ⟨b',hb',by rw [QB hkh]⟩
 refine ⟨hs.fr,⟨λx hx=>hs.wf.alt x hx.1,λt x hx=>?_,hs.wf.inj,λx k hx=>⟨⟨(hs.wf.om x k hx).1,λe=>by subst e;have hx:E.ω x=some k:=hx;rw [hω] at hx;cases hx⟩,(hs.wf.om x k hx).2⟩⟩,λx hx=>?_,hs.nt,hs.tag,hs.new,λk b' hb'=>?_,λk k' b1 b2 g1 g2 z1 z2 hb1 hb2=>?_,λk b' g' z hb' hβ'=>?_,λt x hx=>(hs.slots t x hx).keep kk,hs.tsize,λk x hx=>?_,hs.stay,λk b' g' z hb' hβ' hf hA=>?_,hs.held,hs.tow⟩
 . obtain ⟨h1,h2,h3⟩:=hs.wf.tag t x hx
   exact ⟨h1,h2,h3,λe=>hT t (by rw [<- e];exact hx)⟩
 . rw [<- hs.old x hx]
   exact ⟨λh'=>h'.1,λh'=>⟨h',by omega⟩⟩
 . obtain ⟨b0,hb0,rfl⟩:=same k b' hb';obtain ⟨g0,cap0,hβ0,⟨arr,a1,a2,a3,a4,a5,a6,a7,a8,a9⟩,hω0,hS0⟩:=hs.boxes k b0 hb0;have kk':=kk.rd k b0.tr λb' h' hb'=>⟨hb',rfl⟩;rw [Env.rd_τ] at a9;by_cases hkh:k=h
   . rw [QC hkh]
     exact ⟨g0,cap0,hβ0,⟨arr,a1,a2,a3,a4,a5,λi r j c hi hj=>by obtain ⟨v,hv,hr⟩:=a6 i r j c hi hj;exact ⟨v,hv,hr.keep kk'⟩,a7,(λe=>by cases e),by rw [Env.rd_τ];exact a9⟩,hω0,hS0⟩
   . rw [QB hkh];have hne:g0 ≠ g:=hs.inj k h b0 b g0 g _ _ hb0 hb hβ0 hβ hkh
     exact ⟨g0,cap0,hβ0,⟨arr,a1,a2,a3,a4,a5,λi r j c hi hj=>by obtain ⟨v,hv,hr⟩:=a6 i r j c hi hj;exact ⟨v,hv,hr.keep kk'⟩,a7,λe=>(Env.rd_A (E:=E.free g) hω0).2 ⟨(Env.rd_A hω0).1 (a8 e),hne⟩,by rw [Env.rd_τ];exact a9⟩,hω0,hS0⟩
 . obtain ⟨c1,hc1,_⟩:=same k b1 hb1;obtain ⟨c2,hc2,_⟩:=same k' b2 hb2;exact hs.inj k k' c1 c2 g1 g2 z1 z2 hc1 hc2
 . obtain ⟨b0,hb0,rfl⟩:=same k b' hb';rcases hs.own k b0 g' z hb0 hβ' with h' | h'
   . exact .inl h'
   . refine .inr ⟨h'.1,?_,h'.2.2⟩
     rw [QB (by omega)]
     exact h'.2.1
 . by_cases hkh:k=h
   . subst hkh;rw [At];rfl
   . rw [As _ _ hkh];exact hs.dom k x hx
 . obtain ⟨b0,hb0,rfl⟩:=same k b' hb';by_cases hkh:k=h
   . subst hkh;have hβ'':E.β k=some (g',z):=hβ';rw [hβ] at hβ'';obtain ⟨rfl,_⟩:=KF (QA hβ'');exact hA.2 rfl
   . rw [QB hkh] at hf;exact hs.fzn k b0 g' z hb0 hβ' hf hA.1
def Uo (x:S) (bx:Nat->Option Box):Option (I × Option Nat) :=
 match x with
 | .v (.one (.hp h 0 0))=>match bx h with
  | some b=>match b.rows with
   | [r]=>bif b.hf&&Nat.blt h 1000&&Nat.beq r.length b.sz && !b.tr then (match toI r with
    | some cs=>some (.ref 0 cs,some h)
    | none=>none) else none
   | _=>none
  | none=>none
 | .v (.one (.i (.ref tag cs)))=>some (.ref tag cs,none)
 | _=>none
def Hg:List S->(Nat->Option Box)->Option (List I × List Nat)
 | [],_=>some ([],[])
 | x::r,bx=>match Uo x bx,Hg r bx with
  | some (c,k),some (cs,ks)=>some (c::cs,match k with | some k=>k::ks | none=>ks)
  | _,_=>none
def Bk (bs:List (Nat × Box)):List Nat->List (Nat × Box)
 | []=>bs
 | h::r=>Bk (match A1 h bs with | some b=>B2 h { b with fz:=true } bs | none=>bs) r
theorem Bap {cs:List C} {xs:List I} (h:toI cs=some xs):cs=xs.map .i:=by
 induction cs generalizing xs with
 | nil=>simp [toI] at h;subst h;rfl
 | cons c r ih =>
  cases c with
  | i x =>
   simp only [toI,QI] at h;obtain ⟨ys,hy,rfl⟩:=h;simp [ih hy]
  | hs=>simp [toI] at h
  | hp=>simp [toI] at h
theorem Bej {Γ:Ctx} {w:World} {E:Env} {s:St} {tmps:Array Value} (hs:A6 Γ w E s tmps) {h:Nat} {b:Box} {r:List C} {cs:List I} {g sz cap:Nat} (hb:A1 h s.boxes=some b) (hβ:E.β h=some (g,sz,cap)) (hfz:b.fz=true) (htr:b.tr=false)
  (hr:b.rows=[r]) (hi:toI r=some cs):Ri w E (.pointer (some ⟨g,0,none⟩)) (.ref 0 cs):=by
 obtain ⟨rfl,hat,_⟩:=hs.box hb hβ;have hat:=hat htr;have hlt:=hat.lt;obtain ⟨arr,hg,_,_,_,hlen,hcell,_⟩:=hat;have hrc:=Bap hi
 refine .ref 0 g 0 cs (λj=>(arr[j]?).getD undef) hlt (by simpa [Env.blk] using hs.fzn h b g _ hb hβ hfz) (λj c hj=>?_) (λj c hj=>?_)
 . obtain ⟨v,hv,_⟩:=hcell 0 r j (.i c) (by rw [hr];rfl) (by rw [hrc,QQ,hj];rfl)
   simp only [JM,YI] at hv;simp [World.cell?,hg,hv]
 . obtain ⟨v,hv,hx⟩:=hcell 0 r j (.i c) (by rw [hr];rfl) (by rw [hrc,QQ,hj];rfl)
   simp only [JM,YI] at hv;rw [hv]
   cases hx with | i hx=>exact hx
theorem Zy {Γ:Ctx} {w:World}:∀ (xs:List S) (vs:List Value) (cs:List I) (ks:List Nat) (E:Env) (s:St) (tmps:Array Value),A6 Γ w E s tmps->vs.length=xs.length ->
  (∀ (j:Nat) v x,vs[j]? = some v->xs[j]? = some x->Rs w E v x)->Hg xs (A1 · s.boxes)=some (cs,ks) ->
  ∃ E',A6 Γ w E' { s with boxes:=Bk s.boxes ks } tmps/\vs.length=cs.length/\(∀ (j:Nat) v c,vs[j]? = some v->cs[j]? = some c->Ri w E' v c)/\Cy w w E E'
 | [],vs,cs,ks,E,s,tmps,hs,hl,_,h=>by
  simp only [Hg,QF,QL] at h;obtain ⟨rfl,rfl⟩:=h
  exact ⟨E,hs,by simpa using hl,λj v c _ hc=>by simp at hc,⟨ZF _,λ_ _ _ h=>h,λ_ _ h=>h,λ_ _ _ _ _ h=>h⟩⟩
 | x::xs,[],cs,ks,E,s,tmps,hs,hl,_,h=>by simp at hl
 | x::xs,v::vs,cs,ks,E,s,tmps,hs,hl,hv,h=>by
  simp only [Hg] at h;split at h
  . rename_i c k cs' ks' hc hcs;simp only [QF,QL] at h;obtain ⟨rfl,rfl⟩:=h;have hx:=hv 0 v x rfl rfl;unfold Uo at hc;split at hc
    . rename_i hh;split at hc
      . rename_i b hb;split at hc
        . rename_i r hr
          cases hcond:(b.hf&&Nat.blt hh 1000&&Nat.beq r.length b.sz && !b.tr) with
          | false=>rw [hcond] at hc;cases hc
          | true =>
           rw [hcond] at hc;simp only [cond] at hc;simp only [QH,XH] at hcond;obtain ⟨hcond,htr⟩:=hcond;split at hc
           . rename_i ics hics;simp only [QF,QL] at hc;obtain ⟨rfl,rfl⟩:=hc;obtain ⟨g,sz,cap,hβ,rfl⟩:=hx.hp_inv
             have hklt:hh<1000:=by have:=hcond.1.2;simpa [XD] using this
             have hf:=hs.freeze hb hβ hklt
             have kk:Cy w w E (E.free g):=by
              refine ⟨ZF _,λtag y _ hy=>?_,λ_ _ h=>h,λ_ _ _ _ _ h=>h⟩;unfold Env.blk at hy ⊢;split
              . rename_i e;rw [QC e] at hy;exact λh'=>hy h'.1
              . rename_i e;rw [QB e] at hy;exact hy
             have hlook:A1 hh (B2 hh { b with fz:=true } s.boxes)=some { b with fz:=true }:=At _ _ _
             have hcs':Hg xs (A1 · (B2 hh { b with fz:=true } s.boxes))=some (cs',ks'):=by
              have capeq:∀ y,Uo y (A1 · (B2 hh { b with fz:=true } s.boxes))=Uo y (A1 · s.boxes):=by
               intro y;unfold Uo;split
               . rename_i h2;by_cases he:h2=hh
                 . subst he;simp only [hlook,hb]
                 . simp only [As _ _ he]
               . rfl
               . rfl
              have allsame:∀ ys,Hg ys (A1 · (B2 hh { b with fz:=true } s.boxes))=Hg ys (A1 · s.boxes):=by
               intro ys
               induction ys with
               | nil=>rfl
               | cons y ys ih=>simp only [Hg,capeq,ih]
              rw [allsame];exact hcs
             obtain ⟨E2,hs2,hl2,hr2,kk2⟩:=Zy xs vs cs' ks' (E.free g) { s with boxes:=B2 hh { b with fz:=true } s.boxes } tmps hf (by simpa using hl) (λj v x hv' hx'=>(hv (j+1) v x (by simpa using hv') (by simpa using hx')).keep kk) hcs'
             have hri:=Bej hf hlook hβ rfl htr (r:=r) hr hics
             refine ⟨E2,?_,by simpa using hl2,λj v' c' hv' hc'=>?_,⟨ZF _,λtag y hy hb'=>kk2.blk tag y hy (kk.blk tag y hy hb'),λk y hy=>kk2.β k y (kk.β k y hy),λ_ _ _ _ _ h=>h⟩⟩
             . simp only [Bk,hb];exact hs2
             . cases j with
               | zero =>
                simp only [JO,QF] at hv' hc';subst hv';subst hc';simp only [JM,KE] at hri ⊢;exact hri.keep kk2
               | succ j=>exact hr2 j v' c' (by simpa using hv') (by simpa using hc')
           . cases hc
        . cases hc
      . cases hc
    . rename_i tag ics;simp only [QF,QL] at hc;obtain ⟨rfl,rfl⟩:=hc
      obtain ⟨E2,hs2,hl2,hr2,kk2⟩:=Zy xs vs cs' ks' E s tmps hs (by simpa using hl) (λj v x hv' hx'=>hv (j+1) v x (by simpa using hv') (by simpa using hx')) hcs
      refine ⟨E2,hs2,by simpa using hl2,λj v' c' hv' hc'=>?_,kk2⟩
      cases j with
      | zero =>
       simp only [JO,QF] at hv' hc';subst hv';subst hc';exact hx.i_inv.keep kk2
      | succ j=>exact hr2 j v' c' (by simpa using hv') (by simpa using hc')
    . cases hc
  . cases h
end Go.Ev
