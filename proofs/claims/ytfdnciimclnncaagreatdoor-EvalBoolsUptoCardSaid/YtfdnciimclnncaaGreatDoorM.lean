/- Seat r3: its interpreter, its summaries. -/
import Derived.Test.YtfdnciimclnncaaGreatDoorJ
import Derived.Test.YtfdnciimclnncaaGreatDoorK
import Derived.Test.YtfdnciimclnncaaGreatDoorL
import Derived.Test.YtfdnciimclnncaaGreatDoorShelf
import Derived.Test.YtfdnciimclnncaaGreatDoorChecked
import Derived.Tactics2
import Derived.Defers
import Derived.Recover
import Derived.Laws.Pointers
import Derived.Test.YtfdnciimclnncaaGreatDoorI
set_option linter.unusedVariables false
set_option linter.unusedSimpArgs false
namespace Go.Proofs.YtfdnciimclnncaaGreatDoor.live
open Go Go.Abs Go.RowKit
noncomputable def prg:jY:={prog:=Tryz.prog,ty:=Yn Tryz.prog,fn:=λf=>Tryz.prog.funcs[f]?,ald:=λ_ _ h=>h,Yo:=λ_ _ h=>h}
noncomputable def rep (n:Nat)(x:Int):List Tree:=List.replicate n (.int .u8 x)
noncomputable def u8s (l:List Int):List Tree:=l.map (.int .u8 ·)
noncomputable def wk:List Tree:=rep 128 0xF0++rep 66 0xF1++rep 30 0x02++u8s [0x13]++rep 12 0x03++u8s [0x23]++rep 2 0x03++u8s [0x34]++rep 3 0x04++u8s [0x44]++rep 11 0xF1
noncomputable def wm:List Tree:=u8s [0x80,0xBF,0xA0,0xBF,0x80,0x9F,0x90,0xBF,0x80,0x8F]++rep 22 0
noncomputable def CV:List Tree:=rep 9 0++rep 5 1++rep 18 0++rep 1 1++rep 223 0
noncomputable def cfg (m:Int):ey:={P:=prg,j8:=λ|0=>some wk|1=>some wm|3=>some CV|2=>some [.int .i64 m]|_=>none,lS:=λ_ _=>false}
noncomputable def P8 (m:Int):Ext:=λ|231=>some (CR 229)|197=>some (wg 5)|75=>some wh|120=>some pF|116=>some (Jh (cfg m) 194)|_=>none
noncomputable def ext (m:Int):Ext:=λ|231=>some (CR 229)|197=>some (wg 5)|75=>some wh|120=>some pF|116=>some (Jh (cfg m) 194)|128=>some (vF zh)|_=>none
theorem en (f:FuncId)(fn:Func)(h:Tryz.prog.funcs[f]?=some fn)(hn:(fn.name== "runtime.NumGoroutine")=false)(c:Code)(hb:fn.body=some c)(args:Array Value)(w:World):
 (callFunc f args).run Tryz.prog w=.ok (.enter f args) w:=by
 have h1:fn.name≠ "runtime.NumGoroutine" :=by simpa using hn
 simp[callFunc,h,h1,hb,mark]
theorem ad2 (args:Array Value)(w:World):(callFunc 231 args).run Tryz.prog w=.ok (.enter 231 args) w:=en 231 Tryz.f231 Tryz.func231 (by kernel_rfl) _ rfl args w
theorem aif (args:Array Value)(w:World):(callFunc 197 args).run Tryz.prog w=.ok (.enter 197 args) w:=en 197 Tryz.f197 Tryz.func197 (by kernel_rfl) _ rfl args w
theorem ZA (args:Array Value)(w:World):(callFunc 75 args).run Tryz.prog w=.ok (.enter 75 args) w:=en 75 Tryz.f75 Tryz.func75 (by kernel_rfl) _ rfl args w
theorem aih (args:Array Value)(w:World):(callFunc 120 args).run Tryz.prog w=.ok (.enter 120 args) w:=en 120 Tryz.f120 Tryz.func120 (by kernel_rfl) _ rfl args w
theorem aii (args:Array Value)(w:World):(callFunc 116 args).run Tryz.prog w=.ok (.enter 116 args) w:=en 116 Tryz.f116 Tryz.func116 (by kernel_rfl) _ rfl args w
set_option maxRecDepth 100000
theorem Hg (p:Addr)(pv:Value)(older:List PanicEntry)(w:World)(hc:w.cell? p=some (.bool false))(hz:w.frozen? p=false):
 CallsD Tryz.prog 167 #[.pointer (some p)] (.panicking ({v:=.iface 194 pv,recovered:=false}::older)) w λe u' w'=>
  e=.returned (.tuple #[])/\u'=.panicking ({v:=.iface 194 pv,recovered:=true}::older)/\w'=w.setCell p (.bool false):=by
 refine callsD_of_wpS Tryz.func167 rfl λc₀ cs hu=> ?_
 apply wpS_seq
 apply wpS_region
 simp[wpOpsS,go_sem,recoverD,hu,Tryz.ntmps167,Exit.thenS]
 show Code.wpS Tryz.prog _ _ {tmps:= #[Value.pointer (some p),Value.iface 194 pv,Value.iface 194 pv,undef,undef,undef,undef],defers:=[]} _ _
 refine wpS_of_wp ?_
 have hta:∀w,(Instr.typeAssert (.iface 194 pv) 20 194 false).run Tryz.prog w=.ok pv w:=by
  intro w;simp[Instr.typeAssert,run_underlying Tryz.underlying194,go_sem,Result.andThen]
 go_wp2
 exact⟨rfl,.panicking ({v:=Value.iface 194 pv,recovered:=true}::older),rfl,.tuple #[],results_none rfl _ _ _,rfl,rfl,rfl⟩
theorem Ta (p:Addr)(w:World):
 CallsD Tryz.prog 167 #[.pointer (some p)] .returning w λe u' w'=>e=.returned (.tuple #[])/\u'=.returning/\w'=w:=by
 refine callsD_of_wpS Tryz.func167 rfl λc₀ cs hu=> ?_
 apply wpS_seq
 apply wpS_region
 simp[wpOpsS,go_sem,recoverD,hu,Tryz.ntmps167,Exit.thenS]
 show Code.wpS Tryz.prog _ _ {tmps:= #[Value.pointer (some p),Value.nilIface,Value.nilIface,undef,undef,undef,undef],defers:=[]} _ _
 refine wpS_of_wp ?_
 go_wp2
 exact⟨rfl,.returning,by cases c₀;simp_all,.tuple #[],results_none rfl _ _ _,rfl,rfl,rfl⟩
theorem Xa (rv:Value)(f:FuncId)(fs cs:Array Value)(w:World)(R:Ending->World->Prop)
 (P0:∀args w,(callFunc f args).run Tryz.prog w=.ok (.enter f args) w)
 (Gl:Calls Tryz.prog f (fs++cs) (w.alloc (.cells #[.bool false] 4)) R)
 (hR:∀e w',R e w'->w'.cell? ⟨w.heap.size,0,none⟩=some (.bool false)/\w'.frozen? ⟨w.heap.size,0,none⟩=false/\((∃v,e=.returned v)\/∃pv,e=.panicked [{v:=.iface 194 pv,recovered:=false}])):
 Calls Tryz.prog 116 #[rv,.func (.func f) fs cs] w λe w'=>∃e' w2,R e' w2/\
  (((∃v,e'=.returned v)/\e=.returned (.bool true)/\w'=w2.setCell ⟨w.heap.size,0,none⟩ (.bool true))\/
   ((∃pv,e'=.panicked [{v:=.iface 194 pv,recovered:=false}])/\e=.returned (.bool false)/\w'=w2.setCell ⟨w.heap.size,0,none⟩ (.bool false))):=by
 have hmf:∀(fn:Fn) (first cap:Array Value) (w:World),(Instr.makeFunc fn first cap).run Tryz.prog w=.ok (.func fn first cap) w:=λ_ _ _ _=>rfl
 go_enter_defers Tryz.func116,Tryz.ntmps116
 go_wp2
 refine Gl.mono ?_
 intro e w2 hr
 obtain⟨hc,hz,he⟩:=hR _ _ hr
 rcases he with ⟨v,rfl⟩|⟨pv,rfl⟩
 ·simp only[];go_at_K;go_wp2;refine leaves_cons (f:=167) (args:= #[.pointer (some ⟨w.heap.size,0,none⟩)]) (by simp) (by simp[go_sem]) ?_;refine(Ta _ _).mono ?_;rintro e u' w'' ⟨rfl,rfl,rfl⟩;refine⟨.bool true, ?_,_,w2,hr,.inl ⟨⟨v,rfl⟩,rfl,rfl⟩⟩;have hc':(w2.setCell ⟨w.heap.size,0,none⟩ (.bool true)).cell? ⟨w.heap.size,0,none⟩=some (.bool true):=World.cell?_setCell_same _ _ _ hc;simp[results,Tryz.f116,Sem.run_bind,go_sem,hc']
 ·simp only[];refine leaves_cons (f:=167) (args:= #[.pointer (some ⟨w.heap.size,0,none⟩)]) (by simp) (by simp[go_sem]) ?_;refine(Hg _ pv [] _ hc hz).mono ?_;rintro e u' w'' ⟨rfl,rfl,rfl⟩;refine⟨.bool false, ?_,_,w2,hr,.inr ⟨⟨pv,rfl⟩,rfl,rfl⟩⟩;have hc':(w2.setCell ⟨w.heap.size,0,none⟩ (.bool false)).cell? ⟨w.heap.size,0,none⟩=some (.bool false):=World.cell?_setCell_same _ _ _ hc;simp[results,Tryz.f116,Sem.run_bind,go_sem,hc']
theorem alH (m:Int):q3 (cfg m) 197 (wg 5):=
 Nz (C:=cfg m) aif (λb w h=>P6 Tryz.lays169 Tryz.Builder_Extra_169 b w h)
  (λb a cap cells l w h1 h2 h3 h4 h5 h6 h7=>P7 Tryz.lays169 Tryz.Builder_Extra_169 b a cap cells l w h1 h2 h3 h4 h5 h6 h7)
theorem ZB:(Tryz.prog.info? 229).map (·.size)=some 2:=by kernel_rfl
theorem Xb (b:Nat)(w:World)(h0:w.cell? ⟨b,0,none⟩=some (.pointer (some ⟨b,0,none⟩))):
 Calls Tryz.prog 231 #[.pointer (some ⟨b,0,none⟩)] w λe w'=>e=.returned (.tuple #[])/\w'=w:=by
 obtain⟨j,hj,_⟩:=Option.map_eq_some_iff.1 ZB
 go_enter Tryz.func231,Tryz.ntmps231
 go_wp2
 rw[Lib.run_neq_ptr_same w _ Tryz.underlying227 hj]
 go_wp2
 go_end0
 exact⟨rfl,rfl⟩
theorem Tc (b:Nat)(w:World)(h0:w.cell? ⟨b,0,none⟩=some (.pointer none))(hsh:w.shape? b=some (229,2))(hfz:w.frozen? ⟨b,0,none⟩=false):
 Calls Tryz.prog 231 #[.pointer (some ⟨b,0,none⟩)] w λe w'=>e=.returned (.tuple #[])/\w'=w.setCell ⟨b,0,none⟩ (.pointer (some ⟨b,0,none⟩)):=by
 obtain⟨j,hj,hjs⟩:=Option.map_eq_some_iff.1 ZB
 go_enter Tryz.func231,Tryz.ntmps231
 go_wp2
 rw[Lib.run_to_unsafe w ⟨b,0,none⟩ Tryz.underlying227 Tryz.underlying288 hj (by rw[hjs];decide) hsh (Nat.zero_lt_succ 1)]
 simp only[Result.andThen]
 rw[Oper.upon_value]
 go_wp2
 rw[run_callFunc_extern Tryz.func253 (by kernel_rfl) (by kernel_rfl) (by kernel_rfl) (e:=Extern.AbiNoEscape.same) (by kernel_rfl)]
 rw[Lib.run_noEscape]
 simp only[Result.andThen]
 rw[Oper.upon_value]
 go_wp2
 rw[Lib.run_from_unsafe w ⟨b,0,none⟩ Tryz.underlying288 Tryz.underlying227 hj hsh (by kernel_rfl)]
 simp only[Result.andThen]
 rw[Oper.upon_value]
 go_wp2
 go_end0
 exact⟨rfl,rfl⟩
theorem ZC (m:Int):q3 (cfg m) 231 (CR 229):=
 S9 (C:=cfg m) ad2 (λb w h1 h2 h3=>Tc b w h1 h2 h3)
  (λb w h=>Xb b w h)
theorem P9 (m:Int):q3 (cfg m) 75 wh:=
 Gk (C:=cfg m) (gm:=2) (m:=m) rfl ZA (λs sub m w h1 h2=>Tryz.stringslite_Index s sub m w h1 h2)
theorem CW (m:Int):q3 (cfg m) 120 pF:=
 Hf (C:=cfg m) aih (λs c w=>Tryz.stringslite_IndexByte s c w)
theorem ahd (m:Int):q3 (cfg m) 116 (Jh (cfg m) 194):=
 W9 (C:=cfg m) (tb:=4) aii (λrv f fs cs w R h1 h2 h3=>Xa rv f fs cs w R h1 h2 h3)
theorem NF (m:Int):Ge (cfg m) (P8 m):=zi (by
 intro g s h;unfold P8 at h;split at h<;>first
  |(obtain rfl:=Option.some.inj h;first|exact ZC m|exact alH m|exact P9 m|exact CW m|exact ahd m)
  |cases h)
theorem ah (m:Int):(cfg m).P.prog.follows .mixedOrders=true:=by
 show Tryz.prog.follows .mixedOrders=true;kernel_rfl
end Go.Proofs.YtfdnciimclnncaaGreatDoor.live
noncomputable section
namespace Go.Abs
open Go
variable {C:ey}{R:Type}
abbrev AX (C:ey)(c:Code)(st:St)(Q:R->aQ->St->Prop):Prop:=∃r,AW C c st (Q r)
abbrev aN (C:ey)(ops:Array Oper)(l:List Oper)(st:St)(Q:R->aQ->St->Prop):Prop:=∃r,iM C ops l st (Q r)
abbrev aV (C:ey)(ev:bt)(f:FuncId)(ops:Array Oper)(bs:List Nat)(t0 i:Nat)(l:List Oper)(n:Nat)(sp:List (Nat×TV))(H:Heap)(K:R->List Rec->List (Nat×TV)->Heap->Prop):Prop:=
 ∃r,yH C ev f ops bs t0 i l n sp H (K r)
section code
variable {st:St}{Q:R->aQ->St->Prop}
theorem AX.re {c:Code}{st':St}(hr:Re C st st')(h:AX C c st' Q):AX C c st Q:=h.imp λ_ h=>AW.re hr h
theorem AX.skip (hq:∃r,Q r .normal st):AX C .skip st Q:=hq.imp λ_ h=>AW.skip h
theorem AX.label {l}(hq:∃r,Q r .normal st):AX C (.label l) st Q:=hq.imp λ_ h=>AW.label h
theorem AX.exit {id:Nat}(hq:∃r,Q r (.exit id) st):AX C (.exit id) st Q:=hq.imp λ_ h=>AW.exit h
theorem AX.ret (hq:∃r,Q r .ret st):AX C .ret st Q:=hq.imp λ_ h=>AW.ret h
theorem AX.seq {x y:Code}(h:AX C x st λr=>adT C y (Q r)):AX C (.seq x y) st Q:=h.imp λ_ h=>AW.seq h
theorem AX.block {id:Nat}{c:Code}(h:AX C c st λr=>Out id (Q r)):AX C (.block id c) st Q:=h.imp λ_ h=>AW.block h
theorem AX.cond {c:Operand}{x y:Code}{b:Bool}(hc:dz C st.slots c=some (.t (.bool b)))(h1:b=true->AX C x st Q)(h2:b=false->AX C y st Q):AX C (.cond c x y) st Q:=by
 cases b with
 |true=>exact(h1 rfl).imp λ_ h=>AW.cond hc (λ_=>h) λe=>by cases e
 |false=>exact(h2 rfl).imp λ_ h=>AW.cond hc (λe=>by cases e) λ_=>h
theorem AX.region {id:Nat}{ops:Array Oper}(h:aN C ops ops.toList st Q):AX C (.region id ops false) st Q:=h.imp λ_ h=>AW.region h
def Leave (Q:aQ->St->Prop):aQ->St->Prop
 |.normal,_=>False
 |e,s=>Q e s
def xF {α:Type}(C:ey)(st:α->St)(P:α->Prop)(Q:R->aQ->St->Prop):{y:α // P y}⊕ R->aQ->St->Prop
 |.inl y=>λe s=>e=.normal/\Re C s (st y.1)
 |.inr r=>Leave (Q r)
theorem AX.leave {α:Type}{C:ey}{st:α->St}{P:α->Prop}{s:St}{e:aQ}(he:e≠ .normal)(h:∃r,Q r e s):∃o,xF C st P Q o e s:=by
 obtain⟨r,h⟩:=h;refine⟨.inr r, ?_⟩;cases e with
 |normal=>exact absurd rfl he
 |exit i=>exact h
 |ret=>exact h
 |panic v=>exact h
inductive Qa {α:Type}(C:ey)(st:α->St)(ok:α->Prop)(μ:α->Nat)(body:Code)(Q:R->aQ->St->Prop):α->R->Prop
 |more {x y r} (hy:ok y) (hlt:μ y<μ x) (h:AW C body (st x) (λe s=>e=.normal/\Re C s (st y))) (k:Qa C st ok μ body Q y r):Qa C st ok μ body Q x r
 |last {x r} (h:AW C body (st x) (Leave (Q r))):Qa C st ok μ body Q x r
theorem AX.loop {α:Type}(st:α->St)(ok:α->Prop)(μ:α->Nat){body:Code}(x0:α){s0:St}(hr:Re C s0 (st x0))(h0:ok x0)
 (h:∀x,ok x->AX C body (st x) (xF C st (λy=>ok y/\μ y<μ x) Q)):AX C (.loop body) s0 Q:=by
 have all:∀m x,μ x<m->ok x->∃r,Qa C st ok μ body Q x r:=by
  intro m;induction m with
  |zero=>intro x hx;omega
  | succ m ih=>
   intro x hx hok
   obtain⟨o,ho⟩:=h x hok
   cases o with
   |inl y=>
    obtain⟨r,hr⟩:=ih y.1 (by have:=y.2.2;omega) y.2.1
    exact⟨r,.more y.2.1 y.2.2 ho hr⟩
   |inr r=>exact⟨r,.last ho⟩
 obtain⟨r,hl⟩:=all (μ x0+1) x0 (Nat.lt_succ_self _) h0
 refine⟨r,AW.loop st (λx=>ok x/\Qa C st ok μ body Q x r) μ x0 hr ⟨h0,hl⟩ ?_⟩
 rintro x ⟨hok,hx⟩
 cases hx with
 |more hy hlt hb k=>
  refine AW.mono hb ?_
  rintro e s ⟨rfl,Lf⟩
  exact⟨_,⟨hy,k⟩,hlt,Lf⟩
 |last hb=>
  refine AW.mono hb ?_
  intro e s hq
  cases e with
  |normal=>exact hq.elim
  |exit i=>exact hq
  |ret=>exact hq
  |panic v=>exact hq
end code
section ops
variable {ev:bt}{f:FuncId}{ops:Array Oper}{r:List Oper}{n t:Nat}{sp:List (Nat×TV)}{H:Heap}{Q:R->aQ->St->Prop}
theorem aN.nil {st:St}(hq:∃r,Q r .normal st):aN C ops [] st Q:=hq.imp λ_ h=>iM.nil h
theorem aN.go {d:Tmp}{op:Op}{ty pos af}{v:TV}{u:Heap}(aJ:aC C ev)(h:fE C ev f H n sp t (some d) op v u)(k:aN C ops r ⟨eC n ((d,v)::sp),H.eY u,t+1⟩ Q):
 aN C ops (⟨some d,op,ty,pos,af,none⟩::r) ⟨eC n sp,H,t⟩ Q:=k.imp λ_ k=>iM.go aJ h k
theorem aN.Si {op:Op}{ty pos af}{v:TV}{u:Heap}(aJ:aC C ev)(h:fE C ev f H n sp t none op v u)(k:aN C ops r ⟨eC n sp,H.eY u,t+1⟩ Q):
 aN C ops (⟨none,op,ty,pos,af,none⟩::r) ⟨eC n sp,H,t⟩ Q:=k.imp λ_ k=>iM.Si aJ h k
end ops
section drawn
variable {ev:bt}{f:FuncId}{ops:Array Oper}{bs:List Nat}{t0 i n:Nat}{r:List Oper}{sp:List (Nat×TV)}{H:Heap}{K:R->List Rec->List (Nat×TV)->Heap->Prop}
theorem aV.nil (h:∃r,K r [] sp H):aV C ev f ops bs t0 i [] n sp H K:=h.imp λ_ h=>yH.nil h
theorem aV.go {d:Tmp}{op:Op}{ty pos af}{fp:List Nm}{v:TV}{u:Heap}(UT:Sy C H (eC n sp) ⟨some d,op,ty,pos,af,none⟩=some fp)(h:fE C ev f (ov H fp) n sp (t0+i) (some d) op v u)
 (k:aV C ev f ops bs t0 (i+1) r n ((d,v)::sp) (H.eY u) λq rs sp' H'=>K q (⟨fp,.val v u⟩::rs) sp' H'):aV C ev f ops bs t0 i (⟨some d,op,ty,pos,af,none⟩::r) n sp H K:=k.imp λ_ k=>yH.go UT h k
theorem aV.Si {op:Op}{ty pos af}{fp:List Nm}{v:TV}{u:Heap}(UT:Sy C H (eC n sp) ⟨none,op,ty,pos,af,none⟩=some fp)(h:fE C ev f (ov H fp) n sp (t0+i) none op v u)
 (k:aV C ev f ops bs t0 (i+1) r n sp (H.eY u) λq rs sp' H'=>K q (⟨fp,.val v u⟩::rs) sp' H'):aV C ev f ops bs t0 i (⟨none,op,ty,pos,af,none⟩::r) n sp H K:=k.imp λ_ k=>yH.Si UT h k
theorem aV.yes {d:Tmp}{op:Op}{ty pos af}{j gd:Nat}{w b:Bool}{fp:List Nm}{v:TV}{u:Heap}(hj:(ops[j]?).bind (·.dst)=some gd)(hn:Nat.blt gd n=true)(hl:look sp gd=.t (.bool b))(hb:(b==w)=true)
 (UT:Sy C H (eC n sp) ⟨some d,op,ty,pos,af,some (j,w)⟩=some fp)(h:fE C ev f (ov H fp) n sp (t0+i) (some d) op v u)
 (k:aV C ev f ops bs t0 (i+1) r n ((d,v)::sp) (H.eY u) λq rs sp' H'=>K q (⟨fp,.val v u⟩::rs) sp' H'):aV C ev f ops bs t0 i (⟨some d,op,ty,pos,af,some (j,w)⟩::r) n sp H K:=k.imp λ_ k=>yH.yes hj hn hl hb UT h k
theorem aV.no {d:Tmp}{op:Op}{ty pos af}{j gd:Nat}{w b:Bool}(hj:(ops[j]?).bind (·.dst)=some gd)(hn:Nat.blt gd n=true)(hl:look sp gd=.t (.bool b))(hb:(b==w)=false)
 (k:aV C ev f ops bs t0 (i+1) r n ((d,dm)::sp) H λq rs sp' H'=>K q (⟨[],.unwanted⟩::rs) sp' H'):aV C ev f ops bs t0 i (⟨some d,op,ty,pos,af,some (j,w)⟩::r) n sp H K:=k.imp λ_ k=>yH.no hj hn hl hb k
theorem aV.none {d:Tmp}{op:Op}{ty pos af}{j gd:Nat}{w:Bool}(hj:(ops[j]?).bind (·.dst)=some gd)(hn:Nat.blt gd n=true)(hl:look sp gd=dm)
 (k:aV C ev f ops bs t0 (i+1) r n ((d,dm)::sp) H λq rs sp' H'=>K q (⟨[],.unwanted⟩::rs) sp' H'):aV C ev f ops bs t0 i (⟨some d,op,ty,pos,af,some (j,w)⟩::r) n sp H K:=k.imp λ_ k=>yH.none hj hn hl k
end drawn
theorem gN {a b:Prop}{c:R->Prop}(ha:a)(hb:b)(h:∃r,c r):∃r,a/\b/\c r:=h.imp λ_ h=>⟨ha,hb,h⟩
theorem AX.draw {ev:bt}{f:FuncId}{id:Nat}{ops:Array Oper}{n t:Nat}{sp:List (Nat×TV)}{H:Heap}{Q:R->aQ->St->Prop}(hm:C.P.prog.follows .mixedOrders=true)(aJ:aC C ev)
 (h:aV C ev f ops (nC ops.toList []) t 0 ops.toList n sp H λr recs sp' H'=>nQ ops ops.toList recs (nC ops.toList []) ops.toList recs 0=true/\wZ 0 ops.toList=true/\Q r .normal ⟨eC n sp',H',t+ops.size⟩):
 AX C (.region id ops true) ⟨eC n sp,H,t⟩ Q:=h.imp λ_ h=>AW.draw hm aJ h
section ends
variable {st:St}{Q:R->aQ->St->Prop}
theorem AX.cW {y:Code}(h:∃r,Q r .ret st):∃r,adT C y (Q r) .ret st:=h
theorem AX.k8 {y:Code}{i:Nat}(h:∃r,Q r (.exit i) st):∃r,adT C y (Q r) (.exit i) st:=h
theorem AX.cD {id:Nat}(h:∃r,Q r .ret st):∃r,Out id (Q r) .ret st:=h
theorem AX.lD {id:Nat}(h:∃r,Q r .normal st):∃r,Out id (Q r) .normal st:=h
theorem AX.nu {id:Nat}(h:∃r,Q r .normal st):∃r,Out id (Q r) (.exit id) st:=h.imp λ_ h=>by simp only[Out,if_true];exact h
end ends
theorem fG {b:Bool}(h:b=true):(b==true)=true:=by subst h;rfl
theorem dW {b:Bool}(h:b=false):(b==false)=true:=by subst h;rfl
theorem fH {b:Bool}(h:b=false):(b==true)=false:=by subst h;rfl
theorem aX {b:Bool}(h:b=true):(b==false)=false:=by subst h;rfl
section split
variable {ev:bt}{f:FuncId}{ops:Array Oper}{bs:List Nat}{t0 i n t:Nat}{r:List Oper}{l:List Oper}{sp:List (Nat×TV)}{H:Heap}
theorem aV.split {K:R->List Rec->List (Nat×TV)->Heap->Prop}(gd:Nat){b:Bool}(hl:look sp gd=.t (.bool b))(h1:b=true->aV C ev f ops bs t0 i l n sp H K)(h2:b=false->aV C ev f ops bs t0 i l n sp H K):aV C ev f ops bs t0 i l n sp H K:=by
 cases b with
 |true=>exact h1 rfl
 |false=>exact h2 rfl
variable {Q:R->aQ->St->Prop}
theorem aN.split (gd:Nat){b:Bool}(hl:look sp gd=.t (.bool b))(h1:b=true->aN C ops l ⟨eC n sp,H,t⟩ Q)(h2:b=false->aN C ops l ⟨eC n sp,H,t⟩ Q):aN C ops l ⟨eC n sp,H,t⟩ Q:=by
 cases b with
 |true=>exact h1 rfl
 |false=>exact h2 rfl
theorem aN.yes {d:Tmp}{op:Op}{ty pos af}{j gd:Nat}{w b:Bool}{v:TV}{u:Heap}(aJ:aC C ev)(hj:(ops[j]?).bind (·.dst)=some gd)(hn:Nat.blt gd n=true)(hl:look sp gd=.t (.bool b))(hb:(b==w)=true)
 (h:fE C ev f H n sp t (some d) op v u)(k:aN C ops r ⟨eC n ((d,v)::sp),H.eY u,t+1⟩ Q):aN C ops (⟨some d,op,ty,pos,af,some (j,w)⟩::r) ⟨eC n sp,H,t⟩ Q:=by
 refine k.imp λ_ k=>iM.step aJ (by rw[mH rfl hj hn,hl];simp only[hb]) (h _ _ _ _) ?_
 rw[gl]
 exact k
theorem aN.no {d:Tmp}{op:Op}{ty pos af}{j gd:Nat}{w b:Bool}(hj:(ops[j]?).bind (·.dst)=some gd)(hn:Nat.blt gd n=true)(hl:look sp gd=.t (.bool b))(hb:(b==w)=false)
 (k:aN C ops r ⟨eC n ((d,dm)::sp),H,t+1⟩ Q):aN C ops (⟨some d,op,ty,pos,af,some (j,w)⟩::r) ⟨eC n sp,H,t⟩ Q:=by
 refine k.imp λ_ k=>iM.unwanted (by rw[mH rfl hj hn,hl];simp only[hb]) ?_
 rw[gl]
 exact k
theorem aN.none {d:Tmp}{op:Op}{ty pos af}{j gd:Nat}{w:Bool}(hj:(ops[j]?).bind (·.dst)=some gd)(hn:Nat.blt gd n=true)(hl:look sp gd=dm)
 (k:aN C ops r ⟨eC n ((d,dm)::sp),H,t+1⟩ Q):aN C ops (⟨some d,op,ty,pos,af,some (j,w)⟩::r) ⟨eC n sp,H,t⟩ Q:=by
 refine k.imp λ_ k=>iM.unwanted (by rw[mH rfl hj hn,hl];rfl) ?_
 rw[gl]
 exact k
theorem AX.qg {st:St}{c:Operand}{x y:Code}{b:Bool}(hc:dz C st.slots c=some (.t (.bool b)))(hb:b=true)(h:AX C x st Q):AX C (.cond c x y) st Q:=AX.cond hc (λ_=>h) (λe=>by rw[hb] at e;cases e)
theorem AX.q4 {st:St}{c:Operand}{x y:Code}{b:Bool}(hc:dz C st.slots c=some (.t (.bool b)))(hb:b=false)(h:AX C y st Q):AX C (.cond c x y) st Q:=AX.cond hc (λe=>by rw[hb] at e;cases e) (λ_=>h)
variable {d:Option Tmp}
theorem bY {c x y:Operand}{b:Bool}{u v:TV}(hc:eZ C n sp c=some (.t (.bool b)))(hb:b=true)(hx:eZ C n sp x=some u)(hy:eZ C n sp y=some v):fE C ev f H n sp t d (.pick c x y) u []:=by
 subst hb;exact Zc hc hx hy
theorem fW {c x y:Operand}{b:Bool}{u v:TV}(hc:eZ C n sp c=some (.t (.bool b)))(hb:b=false)(hx:eZ C n sp x=some u)(hy:eZ C n sp y=some v):fE C ev f H n sp t d (.pick c x y) v []:=by
 subst hb;exact Zc hc hx hy
theorem tC {ty:TypeId}{ti:TI}{x lo:Operand}{s:List UInt8}{m:Nat}(h:eZ C n sp x=some (.t (.str s)))(hi:eZ C n sp lo=some (.t (.int .i64 (m:Int))))(ht:C.P.ty ty=some ti)(hd:ti.desc=.string)(hm:m<=s.length):
 fE C ev f H n sp t d (.slice ty x (some lo) none none) (.t (.str (s.drop m))) []:=λ_ _ _ _=>by
 have h1:gi (some (.t (.int .i64 (m:Int)))) 0=some m:=by simp[gi,iA]
 have h2:gi none s.length=some s.length:=rfl
 have h3:yN C (eC n sp) (some lo)=some (some (.t (.int .i64 (m:Int)))):=by simp[yN,fJ hi]
 have h4:yN C (eC n sp) none=some none:=rfl
 simp only[bl,evalOp,fJ h,h3,h4,MV,s5,bx,ht,hd,h1,h2,hm,Nat.le_refl,and_self,if_true,List.take_length]
 rfl
theorem qx {src dst:TypeId}{x:Operand}{a v:TV}(h:eZ C n sp x=some a)(hv:∀lS nm H,vT C.P lS nm H src dst a=some (v,[])):fE C ev f H n sp t d (.convert src dst x) v []:=λ_ _ _ _=>by
 simp only[bl,evalOp,fJ h,hv]
theorem U4 {fo:Operand}{g:FuncId}{args:Array Operand}{ats:Array TypeId}{ts:List Tree}{x:Tree}(hf:eZ C n sp fo=some (.t (.fn (.func g))))(h:tB C n sp args.toList=some (ts.map .t))(he:ev g (ts.map .t) []=some (.ret (.t x) [] []))(hk:C.lS f (d.getD 255)=false:=by rfl):
 fE C ev f H n sp t d (.call ⟨.value fo,args,ats⟩) (.t x) []:=
 S1 (by simp only[lT,fJ hf,I9 h]) (Gj he) hk
theorem qy {ty elem len:Nat}{ti te:TI}{x i:Operand}{cs:List Tree}{off m:Nat}{k:IntKind}(h:eZ C n sp x=some (.lM cs off))(hi:eZ C n sp i=some (.t (.int k (m:Int))))(ht:C.P.ty ty=some ti)(hd:ti.desc=.array len elem)
 (hte:C.P.ty elem=some te)(hm:m<len):fE C ev f H n sp t d (.indexAddr ty x i) (.lM cs (off+m*te.size)) []:=
 Gi h hi (by
  have h1:iA (.t (.int k (m:Int)))=some m:=by simp[iA]
  simp only[fu,bx,ht,h1,hd,hte,hm,if_true,sZ])
theorem ZD {cs:List Tree}{off:Nat}{c:Tree}(h:cs[off]?=some c):partT false 1 (cs.map .t) off=some (.t c):=by
 simp[partT,h]
end split
theorem AX.start {f:FuncId}{fn:Func}{body:Code}{args:List TV}{bu:List aO}{res:R->br}(n k:Nat)(Nn:C.P.fn f=some fn)(hbody:fn.body=some body)(hname:fn.name≠ "runtime.NumGoroutine")
 (hn:fn.ntmps=n)(ha:args.length=k)(hk:k<=n)(h:AX C body ⟨eC n (BA 0 args),dA 0 bu,0⟩ (λr=>uD C fn bu.length (res r))):∃r,ai C f args bu (res r):=
 h.imp λ_ h=>qw n k Nn hbody hname hn ha hk h
section freeze
variable {C:ey}
theorem Re.freeze {n d N:Nat}{sp:List (Nat×TV)}{H H':Heap}{t:Nat}{tr:Tree}{ks:List Nm}(hfz:su H N (look sp d)=some (tr,ks))(hH':∀k o,H'.get k=some o->H.get k=some o/\k∉ks)(hdn:d<n):
 Re C ⟨eC n sp,H,t⟩ ⟨eC n ((d,.t tr)::sp),H',t⟩:=by
 intro G0 w0 G w a h0 hs hst
 have st:=kL hst.wf hst.heap ks
 refine⟨G.frozen w H ks,(hs.trans st).mono (λ_ _ _=>trivial) (λk h=>h.elim id False.elim),st.wf,hst.j8.mono st.le, ?_, ?_, ?_⟩
 ·have hl:=hst.slots;refine⟨by have:=hl.1;simpa [jb] using this,λi c v hc hv=> ?_⟩;have hi:i<n:=by have:=(List.getElem?_eq_some_iff.1 hc).1;simpa [jb] using this
  rw[rM hi,Option.some.injEq] at hc;subst hc;have h0:=hl.2 i (look sp i) v (rM hi) hv;rw[qv];split
  ·rename_i e;subst e;exact .t _ _ (Is hst.wf hst.heap ks N _ tr ks v hfz (λ_ h=>h) h0)
  ·exact h0.mono st.le
 ·intro k o hk;obtain⟨h1,h2⟩:=hH' k o hk;obtain⟨h3,h4⟩:=hst.heap k o h1;exact⟨st.le.dom k h3,st.keeps hst.wf h3 (λh=>h2 h.1) h4⟩
 ·exact hst.fresh
end freeze
theorem Re.trans {C:ey}{a b c:St}(h:Re C a b)(k:Re C b c):Re C a c:=λG0 w0 G w x h0 hs hst=>by
 obtain⟨G1,hs1,ji⟩:=h G0 w0 G w x h0 hs hst;exact k G0 w0 G1 w x h0 hs1 ji
section more
variable {C:ey}{ev:bt}{f:FuncId}{H:Heap}{n t:Nat}{sp:List (Nat×TV)}{d:Option Tmp}
theorem ad3 {src dst e:TypeId}{ti td te:TI}{x:Operand}{s:List UInt8}(h:eZ C n sp x=some (.t (.str s)))(ha:d.any (C.lS f)=false)(ht:C.P.ty src=some ti)(hd:ti.desc=.string)(ht2:C.P.ty dst=some td)(hd2:td.desc=.slice e)
 (hte:C.P.ty e=some te)(hde:te.desc=.int .u8):fE C ev f H n sp t d (.convert src dst x) (.t (.sl (s.map λb=>.int .u8 b.toNat))) []:=λ_ _ _ _=>by
 simp only[bl,evalOp,fJ h,vT,bx,ht,ht2,hd,hd2,hte,hde,ha,Bool.false_eq_true,if_false]
end more
section alI
variable {C:ey}{ev:bt}{f:FuncId}{H:Heap}{n t:Nat}{sp:List (Nat×TV)}{d:Option Tmp}
end alI
end Go.Abs
end
