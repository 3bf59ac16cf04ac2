/- DERIVED. The words of this seat. -/
import Derived.Test.YtdheaaapdlekdaaChecked
import Derived.Test.YtdheaaapdlekdaaEi

set_option linter.all false
set_option linter.unusedVariables false
set_option linter.unusedSimpArgs false

/- DERIVED. The seat's own words. -/
namespace Go.Ev
open Go Go.Proofs
abbrev hI:Sh:=.int .i64
abbrev hIs:Sh:=.sl hI
abbrev hN:Sh:=.st (.pair hI (.pair hI (.pair hI hI)))
abbrev hNs:Sh:=.sl hN
abbrev hE:Sh:=.st hNs
abbrev hR:Sh:=.st (.pair .bool (.pair hIs hIs))
abbrev LI:=List Int
abbrev Nq:=Int × Int × Int × Int
abbrev LN:=List Nq
theorem Nc:Try.prog.follows .mixedOrders=true:=by kernel_rfl
noncomputable abbrev PP:Program:=Try.prog
noncomputable abbrev TT:Ty:=Z5 Try.prog
theorem fk {f:Nat} {fn:Func} {c:Code} {K:A4} {ts rs:List Sh} {m:HL ts->Option (HL rs)} {D:D3 (HL rs)} (hD:D3.OK PP TT K D c)
  (h : ∀ x, Av PP TT K D c (Lf ts x) (Zw TT rs fn.results.toList) = m x := by intro x; kernel_rfl) (hf : PP.funcs[f]? = some fn := by kernel_rfl) (hn : (fn.name == "runtime.NumGoroutine") = false := by kernel_rfl)
  (hb:fn.body=some c:=by kernel_rfl) (hN:fn.ntmps=K.N:=by rfl) (hmv:K.mv=[]:=by rfl) (ha:Nat.ble ts.length K.N=true:=by rfl):(⟨f,ts,rs,m⟩:Ent).Sound PP :=
 A3o (Pa _) Nc D hf hn hb hN hmv (ZP ha) hD h
theorem Ex {f:Nat} {fn:Func} {ts rs:List Sh} {m:HL ts->Option (HL rs)} {D:D3 (HL rs)} (he:Dq PP (Ca D.reg))
  (h : ∀ x, Av PP TT ⟨fn.ntmps, []⟩ D (Am fn) (Lf ts x) (Zw TT rs fn.results.toList) = m x := by intro x; kernel_rfl) (hf : PP.funcs[f]? = some fn := by kernel_rfl) (hn : (fn.name == "runtime.NumGoroutine") = false := by kernel_rfl)
  (hb:fn.body=some (Am fn):=by kernel_rfl) (hl:B4 (Am fn)=[]:=by kernel_rfl) (hy:D.any=[]:=by rfl) (ha:Nat.ble ts.length fn.ntmps=true:=by rfl):(⟨f,ts,rs,m⟩:Ent).Sound PP :=
 fk (K:=⟨fn.ntmps,[]⟩) (D3.OK.mk3 he hl trivial hy) h hf hn hb rfl rfl ha
theorem fkB {f:Nat} {fn:Func} {c:Code} {K:A4} {ts:List PK} {forms:List (List PK)} {m:HP ts->Option (HF (A8 1000 ts) forms)} {D:D3 (HF (A8 1000 ts) forms)} (hD:D3.OK PP TT K D c)
  (h : ∀ x, Av PP TT K D c ⟨Cr 0 (B1 1000 ts x), Bl 1000 ts x⟩ (Zv TT ts forms fn.results.toList) = m x := by intro x; kernel_rfl) (hf : PP.funcs[f]? = some fn := by kernel_rfl) (hn : (fn.name == "runtime.NumGoroutine") = false := by kernel_rfl)
  (hb:fn.body=some c:=by kernel_rfl) (hN:fn.ntmps=K.N:=by rfl) (ha:Nat.ble ts.length K.N=true:=by rfl):(⟨f,ts,forms,m,K.mv⟩:Ent3).Sound PP :=
 A2h (Pa _) Nc D hf hn hb hN (ZP ha) hD h
theorem Ss {f:Nat} {fn:Func} {ts:List PK} {forms:List (List PK)} {m:HP ts->Option (HF (A8 1000 ts) forms)} {D:D3 (HF (A8 1000 ts) forms)} (he:Dq PP (Ca D.reg))
  (h : ∀ x, Av PP TT ⟨fn.ntmps, []⟩ D (Am fn) ⟨Cr 0 (B1 1000 ts x), Bl 1000 ts x⟩ (Zv TT ts forms fn.results.toList) = m x := by intro x; kernel_rfl) (hf : PP.funcs[f]? = some fn := by kernel_rfl) (hn : (fn.name == "runtime.NumGoroutine") = false := by kernel_rfl)
  (hb:fn.body=some (Am fn):=by kernel_rfl) (hl:B4 (Am fn)=[]:=by kernel_rfl) (hy:D.any=[]:=by rfl) (ha:Nat.ble ts.length fn.ntmps=true:=by rfl):(⟨f,ts,forms,m,[]⟩:Ent3).Sound PP :=
 fkB (K:=⟨fn.ntmps,[]⟩) (D3.OK.mk3 he hl trivial hy) h hf hn hb rfl ha
theorem lk {α:Type} {K:A4} {D:D3 α} {c:Code} {H:Tm} {outs:List (Exit × Tm)} {B:H.den->(H.den->Option α)->KS α outs->Option α} (hD:D3.OK PP TT K D c) (n:Nat)
  (hB:∀ v f ks,Av PP TT K D c (H.enc v) (P1 H outs f ks)=B v f ks:=by intro v f ks;kernel_rfl):(⟨H,outs,B6 B n⟩:LO α).Sound PP K (.loop c) :=
 A1e (Pa _) Nc B hD hB n
theorem Xi {α:Type} {K:A4} {D:D3 α} {c:Code} {H:Tm} {outs:List (Exit × Tm)} {B:H.den->(H.den->Option α)->KS α outs->Option α} (he:Dq PP (Ca D.reg)) (n:Nat)
  (hB:∀ v f ks,Av PP TT K D c (H.enc v) (P1 H outs f ks)=B v f ks:=by intro v f ks;kernel_rfl) (hl:B4 c=[]:=by kernel_rfl) (hy:D.any=[]:=by rfl):(⟨H,outs,B6 B n⟩:LO α).Sound PP K (.loop c) :=
 lk (D3.OK.mk3 he hl trivial hy) n hB
end Go.Ev
