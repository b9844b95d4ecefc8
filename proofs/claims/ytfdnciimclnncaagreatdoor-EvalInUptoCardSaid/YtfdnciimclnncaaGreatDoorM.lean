/- Seat r3: its interpreter, its summaries. -/
import Derived.Test.YtfdnciimclnncaaGreatDoorJ
import Derived.Test.YtfdnciimclnncaaGreatDoorK
import Derived.Test.YtfdnciimclnncaaGreatDoorL
import Derived.Test.YtfdnciimclnncaaGreatDoorShelf
import Derived.Test.YtfdnciimclnncaaGreatDoorChecked
import Derived.Tactics2
import Derived.Defers
import Derived.Recover
import Derived.Laws.Pointers
import Derived.Test.YtfdnciimclnncaaGreatDoorI
set_option linter.unusedVariables false
set_option linter.unusedSimpArgs false
namespace Go.Proofs.YtfdnciimclnncaaGreatDoor.live
open Go Go.Abs Go.RowKit
noncomputable def prg:jZ:={prog:=Tryz.prog,ty:=Yv Tryz.prog,fn:=λf=>Tryz.prog.funcs[f]?,alx:=λ_ _ h=>h,Yw:=λ_ _ h=>h}
noncomputable def rep (n:Nat)(x:Int):List Tree:=List.replicate n (.int .u8 x)
noncomputable def u8s (l:List Int):List Tree:=l.map (.int .u8 ·)
noncomputable def wI:List Tree:=rep 128 0xF0++rep 66 0xF1++rep 30 0x02++u8s [0x13]++rep 12 0x03++u8s [0x23]++rep 2 0x03++u8s [0x34]++rep 3 0x04++u8s [0x44]++rep 11 0xF1
noncomputable def wJ:List Tree:=u8s [0x80,0xBF,0xA0,0xBF,0x80,0x9F,0x90,0xBF,0x80,0x8F]++rep 22 0
noncomputable def Dg:List Tree:=rep 9 0++rep 5 1++rep 18 0++rep 1 1++rep 223 0
noncomputable def cfg (m:Int):ew:={P:=prg,ku:=λ|0=>some wI|1=>some wJ|3=>some Dg|2=>some [.int .i64 m]|_=>none,lW:=λ_ _=>false}
noncomputable def Qk (m:Int):Ext:=λ|231=>some (Dc 229)|197=>some (wF 5)|75=>some wG|120=>some pU|116=>some (JG (cfg m) 194)|_=>none
noncomputable def ext (m:Int):Ext:=λ|231=>some (Dc 229)|197=>some (wF 5)|75=>some wG|120=>some pU|116=>some (JG (cfg m) 194)|128=>some (vJ zD)|_=>none
theorem en (f:FuncId)(fn:Func)(h:Tryz.prog.funcs[f]?=some fn)(hn:(fn.name== "runtime.NumGoroutine")=false)(c:Code)(hb:fn.body=some c)(args:Array Value)(w:World):
 (callFunc f args).run Tryz.prog w=.ok (.enter f args) w:=by
 have h1:fn.name≠ "runtime.NumGoroutine" :=by simpa using hn
 simp[callFunc,h,h1,hb,mark]
theorem aei (args:Array Value)(w:World):(callFunc 231 args).run Tryz.prog w=.ok (.enter 231 args) w:=en 231 Tryz.f231 Tryz.func231 (by kernel_rfl) _ rfl args w
theorem aiw (args:Array Value)(w:World):(callFunc 197 args).run Tryz.prog w=.ok (.enter 197 args) w:=en 197 Tryz.f197 Tryz.func197 (by kernel_rfl) _ rfl args w
theorem ZK (args:Array Value)(w:World):(callFunc 75 args).run Tryz.prog w=.ok (.enter 75 args) w:=en 75 Tryz.f75 Tryz.func75 (by kernel_rfl) _ rfl args w
theorem aix (args:Array Value)(w:World):(callFunc 120 args).run Tryz.prog w=.ok (.enter 120 args) w:=en 120 Tryz.f120 Tryz.func120 (by kernel_rfl) _ rfl args w
theorem aiy (args:Array Value)(w:World):(callFunc 116 args).run Tryz.prog w=.ok (.enter 116 args) w:=en 116 Tryz.f116 Tryz.func116 (by kernel_rfl) _ rfl args w
set_option maxRecDepth 100000
theorem HN (p:Addr)(pv:Value)(older:List PanicEntry)(w:World)(hc:w.cell? p=some (.bool false))(hz:w.frozen? p=false):
 CallsD Tryz.prog 167 #[.pointer (some p)] (.panicking ({v:=.iface 194 pv,recovered:=false}::older)) w λe u' w'=>
  e=.returned (.tuple #[])/\u'=.panicking ({v:=.iface 194 pv,recovered:=true}::older)/\w'=w.setCell p (.bool false):=by
 refine callsD_of_wpS Tryz.func167 rfl λc₀ cs hu=> ?_
 apply wpS_seq
 apply wpS_region
 simp[wpOpsS,go_sem,recoverD,hu,Tryz.ntmps167,Exit.thenS]
 show Code.wpS Tryz.prog _ _ {tmps:= #[Value.pointer (some p),Value.iface 194 pv,Value.iface 194 pv,undef,undef,undef,undef],defers:=[]} _ _
 refine wpS_of_wp ?_
 have hta:∀w,(Instr.typeAssert (.iface 194 pv) 20 194 false).run Tryz.prog w=.ok pv w:=by
  intro w;simp[Instr.typeAssert,run_underlying Tryz.underlying194,go_sem,Result.andThen]
 go_wp2
 exact⟨rfl,.panicking ({v:=Value.iface 194 pv,recovered:=true}::older),rfl,.tuple #[],results_none rfl _ _ _,rfl,rfl,rfl⟩
theorem Tn (p:Addr)(w:World):
 CallsD Tryz.prog 167 #[.pointer (some p)] .returning w λe u' w'=>e=.returned (.tuple #[])/\u'=.returning/\w'=w:=by
 refine callsD_of_wpS Tryz.func167 rfl λc₀ cs hu=> ?_
 apply wpS_seq
 apply wpS_region
 simp[wpOpsS,go_sem,recoverD,hu,Tryz.ntmps167,Exit.thenS]
 show Code.wpS Tryz.prog _ _ {tmps:= #[Value.pointer (some p),Value.nilIface,Value.nilIface,undef,undef,undef,undef],defers:=[]} _ _
 refine wpS_of_wp ?_
 go_wp2
 exact⟨rfl,.returning,by cases c₀;simp_all,.tuple #[],results_none rfl _ _ _,rfl,rfl,rfl⟩
theorem Xl (rv:Value)(f:FuncId)(fs cs:Array Value)(w:World)(R:Ending->World->Prop)
 (Qe:∀args w,(callFunc f args).run Tryz.prog w=.ok (.enter f args) w)
 (GU:Calls Tryz.prog f (fs++cs) (w.alloc (.cells #[.bool false] 4)) R)
 (hR:∀e w',R e w'->w'.cell? ⟨w.heap.size,0,none⟩=some (.bool false)/\w'.frozen? ⟨w.heap.size,0,none⟩=false/\((∃v,e=.returned v)\/∃pv,e=.panicked [{v:=.iface 194 pv,recovered:=false}])):
 Calls Tryz.prog 116 #[rv,.func (.func f) fs cs] w λe w'=>∃e' w2,R e' w2/\
  (((∃v,e'=.returned v)/\e=.returned (.bool true)/\w'=w2.setCell ⟨w.heap.size,0,none⟩ (.bool true))\/
   ((∃pv,e'=.panicked [{v:=.iface 194 pv,recovered:=false}])/\e=.returned (.bool false)/\w'=w2.setCell ⟨w.heap.size,0,none⟩ (.bool false))):=by
 have hmf:∀(fn:Fn) (first cap:Array Value) (w:World),(Instr.makeFunc fn first cap).run Tryz.prog w=.ok (.func fn first cap) w:=λ_ _ _ _=>rfl
 go_enter_defers Tryz.func116,Tryz.ntmps116
 go_wp2
 refine GU.mono ?_
 intro e w2 hr
 obtain⟨hc,hz,he⟩:=hR _ _ hr
 rcases he with ⟨v,rfl⟩|⟨pv,rfl⟩
 ·simp only[];go_at_K;go_wp2;refine leaves_cons (f:=167) (args:= #[.pointer (some ⟨w.heap.size,0,none⟩)]) (by simp) (by simp[go_sem]) ?_;refine(Tn _ _).mono ?_;rintro e u' w'' ⟨rfl,rfl,rfl⟩;refine⟨.bool true, ?_,_,w2,hr,.inl ⟨⟨v,rfl⟩,rfl,rfl⟩⟩;have hc':(w2.setCell ⟨w.heap.size,0,none⟩ (.bool true)).cell? ⟨w.heap.size,0,none⟩=some (.bool true):=World.cell?_setCell_same _ _ _ hc;simp[results,Tryz.f116,Sem.run_bind,go_sem,hc']
 ·simp only[];refine leaves_cons (f:=167) (args:= #[.pointer (some ⟨w.heap.size,0,none⟩)]) (by simp) (by simp[go_sem]) ?_;refine(HN _ pv [] _ hc hz).mono ?_;rintro e u' w'' ⟨rfl,rfl,rfl⟩;refine⟨.bool false, ?_,_,w2,hr,.inr ⟨⟨pv,rfl⟩,rfl,rfl⟩⟩;have hc':(w2.setCell ⟨w.heap.size,0,none⟩ (.bool false)).cell? ⟨w.heap.size,0,none⟩=some (.bool false):=World.cell?_setCell_same _ _ _ hc;simp[results,Tryz.f116,Sem.run_bind,go_sem,hc']
theorem alZ (m:Int):rE (cfg m) 197 (wF 5):=
 NJ (C:=cfg m) aiw (λb w h=>Qi Tryz.lays169 Tryz.Builder_Extra_169 b w h)
  (λb a cap cells l w h1 h2 h3 h4 h5 h6 h7=>Qj Tryz.lays169 Tryz.Builder_Extra_169 b a cap cells l w h1 h2 h3 h4 h5 h6 h7)
theorem ZL:(Tryz.prog.info? 229).map (·.size)=some 2:=by kernel_rfl
theorem Xm (b:Nat)(w:World)(h0:w.cell? ⟨b,0,none⟩=some (.pointer (some ⟨b,0,none⟩))):
 Calls Tryz.prog 231 #[.pointer (some ⟨b,0,none⟩)] w λe w'=>e=.returned (.tuple #[])/\w'=w:=by
 obtain⟨j,hj,_⟩:=Option.map_eq_some_iff.1 ZL
 go_enter Tryz.func231,Tryz.ntmps231
 go_wp2
 rw[Lib.run_neq_ptr_same w _ Tryz.underlying227 hj]
 go_wp2
 go_end0
 exact⟨rfl,rfl⟩
theorem Tp (b:Nat)(w:World)(h0:w.cell? ⟨b,0,none⟩=some (.pointer none))(hsh:w.shape? b=some (229,2))(hfz:w.frozen? ⟨b,0,none⟩=false):
 Calls Tryz.prog 231 #[.pointer (some ⟨b,0,none⟩)] w λe w'=>e=.returned (.tuple #[])/\w'=w.setCell ⟨b,0,none⟩ (.pointer (some ⟨b,0,none⟩)):=by
 obtain⟨j,hj,hjs⟩:=Option.map_eq_some_iff.1 ZL
 go_enter Tryz.func231,Tryz.ntmps231
 go_wp2
 rw[Lib.run_to_unsafe w ⟨b,0,none⟩ Tryz.underlying227 Tryz.underlying288 hj (by rw[hjs];decide) hsh (Nat.zero_lt_succ 1)]
 simp only[Result.andThen]
 rw[Oper.upon_value]
 go_wp2
 rw[run_callFunc_extern Tryz.func253 (by kernel_rfl) (by kernel_rfl) (by kernel_rfl) (e:=Extern.AbiNoEscape.same) (by kernel_rfl)]
 rw[Lib.run_noEscape]
 simp only[Result.andThen]
 rw[Oper.upon_value]
 go_wp2
 rw[Lib.run_from_unsafe w ⟨b,0,none⟩ Tryz.underlying288 Tryz.underlying227 hj hsh (by kernel_rfl)]
 simp only[Result.andThen]
 rw[Oper.upon_value]
 go_wp2
 go_end0
 exact⟨rfl,rfl⟩
theorem ZM (m:Int):rE (cfg m) 231 (Dc 229):=
 Tm (C:=cfg m) aei (λb w h1 h2 h3=>Tp b w h1 h2 h3)
  (λb w h=>Xm b w h)
theorem Ql (m:Int):rE (cfg m) 75 wG:=
 GS (C:=cfg m) (gm:=2) (m:=m) rfl ZK (λs sub m w h1 h2=>Tryz.stringslite_Index s sub m w h1 h2)
theorem Dh (m:Int):rE (cfg m) 120 pU:=
 HM (C:=cfg m) aix (λs c w=>Tryz.stringslite_IndexByte s c w)
theorem aho (m:Int):rE (cfg m) 116 (JG (cfg m) 194):=
 Xk (C:=cfg m) (tb:=4) aiy (λrv f fs cs w R h1 h2 h3=>Xl rv f fs cs w R h1 h2 h3)
theorem NL (m:Int):GJ (cfg m) (Qk m):=zF (by
 intro g s h;unfold Qk at h;split at h<;>first
  |(obtain rfl:=Option.some.inj h;first|exact ZM m|exact alZ m|exact Ql m|exact Dh m|exact aho m)
  |cases h)
theorem ah (m:Int):(cfg m).P.prog.follows .mixedOrders=true:=by
 show Tryz.prog.follows .mixedOrders=true;kernel_rfl
end Go.Proofs.YtfdnciimclnncaaGreatDoor.live
noncomputable section
namespace Go.Abs
open Go
variable {C:ew}{R:Type}
abbrev AX (C:ew)(c:Code)(st:St)(Q:R->aR->St->Prop):Prop:=∃r,AW C c st (Q r)
abbrev aO (C:ew)(ops:Array Oper)(l:List Oper)(st:St)(Q:R->aR->St->Prop):Prop:=∃r,iP C ops l st (Q r)
abbrev aU (C:ew)(ev:bp)(f:FuncId)(ops:Array Oper)(bs:List Nat)(t0 i:Nat)(l:List Oper)(n:Nat)(sp:List (Nat×TV))(H:Heap)(K:R->List Rec->List (Nat×TV)->Heap->Prop):Prop:=
 ∃r,y7 C ev f ops bs t0 i l n sp H (K r)
section code
variable {st:St}{Q:R->aR->St->Prop}
theorem AX.re {c:Code}{st':St}(hr:Re C st st')(h:AX C c st' Q):AX C c st Q:=h.imp λ_ h=>AW.re hr h
theorem AX.skip (hq:∃r,Q r .normal st):AX C .skip st Q:=hq.imp λ_ h=>AW.skip h
theorem AX.label {l}(hq:∃r,Q r .normal st):AX C (.label l) st Q:=hq.imp λ_ h=>AW.label h
theorem AX.exit {id:Nat}(hq:∃r,Q r (.exit id) st):AX C (.exit id) st Q:=hq.imp λ_ h=>AW.exit h
theorem AX.ret (hq:∃r,Q r .ret st):AX C .ret st Q:=hq.imp λ_ h=>AW.ret h
theorem AX.seq {x y:Code}(h:AX C x st λr=>aea C y (Q r)):AX C (.seq x y) st Q:=h.imp λ_ h=>AW.seq h
theorem AX.block {id:Nat}{c:Code}(h:AX C c st λr=>Out id (Q r)):AX C (.block id c) st Q:=h.imp λ_ h=>AW.block h
theorem AX.cond {c:Operand}{x y:Code}{b:Bool}(hc:dr C st.slots c=some (.t (.bool b)))(h1:b=true->AX C x st Q)(h2:b=false->AX C y st Q):AX C (.cond c x y) st Q:=by
 cases b with
 |true=>exact(h1 rfl).imp λ_ h=>AW.cond hc (λ_=>h) λe=>by cases e
 |false=>exact(h2 rfl).imp λ_ h=>AW.cond hc (λe=>by cases e) λ_=>h
theorem AX.region {id:Nat}{ops:Array Oper}(h:aO C ops ops.toList st Q):AX C (.region id ops false) st Q:=h.imp λ_ h=>AW.region h
def Leave (Q:aR->St->Prop):aR->St->Prop
 |.normal,_=>False
 |e,s=>Q e s
def xX {α:Type}(C:ew)(st:α->St)(P:α->Prop)(Q:R->aR->St->Prop):{y:α // P y}⊕ R->aR->St->Prop
 |.inl y=>λe s=>e=.normal/\Re C s (st y.1)
 |.inr r=>Leave (Q r)
theorem AX.leave {α:Type}{C:ew}{st:α->St}{P:α->Prop}{s:St}{e:aR}(he:e≠ .normal)(h:∃r,Q r e s):∃o,xX C st P Q o e s:=by
 obtain⟨r,h⟩:=h;refine⟨.inr r, ?_⟩;cases e with
 |normal=>exact absurd rfl he
 |exit i=>exact h
 |ret=>exact h
 |panic v=>exact h
inductive Qm {α:Type}(C:ew)(st:α->St)(ok:α->Prop)(μ:α->Nat)(body:Code)(Q:R->aR->St->Prop):α->R->Prop
 |more {x y r} (hy:ok y) (hlt:μ y<μ x) (h:AW C body (st x) (λe s=>e=.normal/\Re C s (st y))) (k:Qm C st ok μ body Q y r):Qm C st ok μ body Q x r
 |last {x r} (h:AW C body (st x) (Leave (Q r))):Qm C st ok μ body Q x r
theorem AX.loop {α:Type}(st:α->St)(ok:α->Prop)(μ:α->Nat){body:Code}(x0:α){s0:St}(hr:Re C s0 (st x0))(h0:ok x0)
 (h:∀x,ok x->AX C body (st x) (xX C st (λy=>ok y/\μ y<μ x) Q)):AX C (.loop body) s0 Q:=by
 have all:∀m x,μ x<m->ok x->∃r,Qm C st ok μ body Q x r:=by
  intro m;induction m with
  |zero=>intro x hx;omega
  | succ m ih=>
   intro x hx hok
   obtain⟨o,ho⟩:=h x hok
   cases o with
   |inl y=>
    obtain⟨r,hr⟩:=ih y.1 (by have:=y.2.2;omega) y.2.1
    exact⟨r,.more y.2.1 y.2.2 ho hr⟩
   |inr r=>exact⟨r,.last ho⟩
 obtain⟨r,hl⟩:=all (μ x0+1) x0 (Nat.lt_succ_self _) h0
 refine⟨r,AW.loop st (λx=>ok x/\Qm C st ok μ body Q x r) μ x0 hr ⟨h0,hl⟩ ?_⟩
 rintro x ⟨hok,hx⟩
 cases hx with
 |more hy hlt hb k=>
  refine AW.mono hb ?_
  rintro e s ⟨rfl,Lp⟩
  exact⟨_,⟨hy,k⟩,hlt,Lp⟩
 |last hb=>
  refine AW.mono hb ?_
  intro e s hq
  cases e with
  |normal=>exact hq.elim
  |exit i=>exact hq
  |ret=>exact hq
  |panic v=>exact hq
end code
section ops
variable {ev:bp}{f:FuncId}{ops:Array Oper}{r:List Oper}{n t:Nat}{sp:List (Nat×TV)}{H:Heap}{Q:R->aR->St->Prop}
theorem aO.nil {st:St}(hq:∃r,Q r .normal st):aO C ops [] st Q:=hq.imp λ_ h=>iP.nil h
theorem aO.go {d:Tmp}{op:Op}{ty pos af}{v:TV}{u:Heap}(aI:aC C ev)(h:fH C ev f H n sp t (some d) op v u)(k:aO C ops r ⟨eA n ((d,v)::sp),H.fk u,t+1⟩ Q):
 aO C ops (⟨some d,op,ty,pos,af,none⟩::r) ⟨eA n sp,H,t⟩ Q:=k.imp λ_ k=>iP.go aI h k
theorem aO.SA {op:Op}{ty pos af}{v:TV}{u:Heap}(aI:aC C ev)(h:fH C ev f H n sp t none op v u)(k:aO C ops r ⟨eA n sp,H.fk u,t+1⟩ Q):
 aO C ops (⟨none,op,ty,pos,af,none⟩::r) ⟨eA n sp,H,t⟩ Q:=k.imp λ_ k=>iP.SA aI h k
end ops
section drawn
variable {ev:bp}{f:FuncId}{ops:Array Oper}{bs:List Nat}{t0 i n:Nat}{r:List Oper}{sp:List (Nat×TV)}{H:Heap}{K:R->List Rec->List (Nat×TV)->Heap->Prop}
theorem aU.nil (h:∃r,K r [] sp H):aU C ev f ops bs t0 i [] n sp H K:=h.imp λ_ h=>y7.nil h
theorem aU.go {d:Tmp}{op:Op}{ty pos af}{fp:List Nm}{v:TV}{u:Heap}(Va:SK C H (eA n sp) ⟨some d,op,ty,pos,af,none⟩=some fp)(h:fH C ev f (pg H fp) n sp (t0+i) (some d) op v u)
 (k:aU C ev f ops bs t0 (i+1) r n ((d,v)::sp) (H.fk u) λq rs sp' H'=>K q (⟨fp,.val v u⟩::rs) sp' H'):aU C ev f ops bs t0 i (⟨some d,op,ty,pos,af,none⟩::r) n sp H K:=k.imp λ_ k=>y7.go Va h k
theorem aU.SA {op:Op}{ty pos af}{fp:List Nm}{v:TV}{u:Heap}(Va:SK C H (eA n sp) ⟨none,op,ty,pos,af,none⟩=some fp)(h:fH C ev f (pg H fp) n sp (t0+i) none op v u)
 (k:aU C ev f ops bs t0 (i+1) r n sp (H.fk u) λq rs sp' H'=>K q (⟨fp,.val v u⟩::rs) sp' H'):aU C ev f ops bs t0 i (⟨none,op,ty,pos,af,none⟩::r) n sp H K:=k.imp λ_ k=>y7.SA Va h k
theorem aU.yes {d:Tmp}{op:Op}{ty pos af}{j gd:Nat}{w b:Bool}{fp:List Nm}{v:TV}{u:Heap}(hj:(ops[j]?).bind (·.dst)=some gd)(hn:Nat.blt gd n=true)(hl:look sp gd=.t (.bool b))(hb:(b==w)=true)
 (Va:SK C H (eA n sp) ⟨some d,op,ty,pos,af,some (j,w)⟩=some fp)(h:fH C ev f (pg H fp) n sp (t0+i) (some d) op v u)
 (k:aU C ev f ops bs t0 (i+1) r n ((d,v)::sp) (H.fk u) λq rs sp' H'=>K q (⟨fp,.val v u⟩::rs) sp' H'):aU C ev f ops bs t0 i (⟨some d,op,ty,pos,af,some (j,w)⟩::r) n sp H K:=k.imp λ_ k=>y7.yes hj hn hl hb Va h k
theorem aU.no {d:Tmp}{op:Op}{ty pos af}{j gd:Nat}{w b:Bool}(hj:(ops[j]?).bind (·.dst)=some gd)(hn:Nat.blt gd n=true)(hl:look sp gd=.t (.bool b))(hb:(b==w)=false)
 (k:aU C ev f ops bs t0 (i+1) r n ((d,dc)::sp) H λq rs sp' H'=>K q (⟨[],.unwanted⟩::rs) sp' H'):aU C ev f ops bs t0 i (⟨some d,op,ty,pos,af,some (j,w)⟩::r) n sp H K:=k.imp λ_ k=>y7.no hj hn hl hb k
theorem aU.none {d:Tmp}{op:Op}{ty pos af}{j gd:Nat}{w:Bool}(hj:(ops[j]?).bind (·.dst)=some gd)(hn:Nat.blt gd n=true)(hl:look sp gd=dc)
 (k:aU C ev f ops bs t0 (i+1) r n ((d,dc)::sp) H λq rs sp' H'=>K q (⟨[],.unwanted⟩::rs) sp' H'):aU C ev f ops bs t0 i (⟨some d,op,ty,pos,af,some (j,w)⟩::r) n sp H K:=k.imp λ_ k=>y7.none hj hn hl k
end drawn
theorem gQ {a b:Prop}{c:R->Prop}(ha:a)(hb:b)(h:∃r,c r):∃r,a/\b/\c r:=h.imp λ_ h=>⟨ha,hb,h⟩
theorem AX.draw {ev:bp}{f:FuncId}{id:Nat}{ops:Array Oper}{n t:Nat}{sp:List (Nat×TV)}{H:Heap}{Q:R->aR->St->Prop}(hm:C.P.prog.follows .mixedOrders=true)(aI:aC C ev)
 (h:aU C ev f ops (nO ops.toList []) t 0 ops.toList n sp H λr recs sp' H'=>oh ops ops.toList recs (nO ops.toList []) ops.toList recs 0=true/\xF 0 ops.toList=true/\Q r .normal ⟨eA n sp',H',t+ops.size⟩):
 AX C (.region id ops true) ⟨eA n sp,H,t⟩ Q:=h.imp λ_ h=>AW.draw hm aI h
section ends
variable {st:St}{Q:R->aR->St->Prop}
theorem AX.cR {y:Code}(h:∃r,Q r .ret st):∃r,aea C y (Q r) .ret st:=h
theorem AX.lC {y:Code}{i:Nat}(h:∃r,Q r (.exit i) st):∃r,aea C y (Q r) (.exit i) st:=h
theorem AX.cB {id:Nat}(h:∃r,Q r .ret st):∃r,Out id (Q r) .ret st:=h
theorem AX.lI {id:Nat}(h:∃r,Q r .normal st):∃r,Out id (Q r) .normal st:=h
theorem AX.nG {id:Nat}(h:∃r,Q r .normal st):∃r,Out id (Q r) (.exit id) st:=h.imp λ_ h=>by simp only[Out,if_true];exact h
end ends
theorem fI {b:Bool}(h:b=true):(b==true)=true:=by subst h;rfl
theorem dO {b:Bool}(h:b=false):(b==false)=true:=by subst h;rfl
theorem fJ {b:Bool}(h:b=false):(b==true)=false:=by subst h;rfl
theorem aX {b:Bool}(h:b=true):(b==false)=false:=by subst h;rfl
section split
variable {ev:bp}{f:FuncId}{ops:Array Oper}{bs:List Nat}{t0 i n t:Nat}{r:List Oper}{l:List Oper}{sp:List (Nat×TV)}{H:Heap}
theorem aU.split {K:R->List Rec->List (Nat×TV)->Heap->Prop}(gd:Nat){b:Bool}(hl:look sp gd=.t (.bool b))(h1:b=true->aU C ev f ops bs t0 i l n sp H K)(h2:b=false->aU C ev f ops bs t0 i l n sp H K):aU C ev f ops bs t0 i l n sp H K:=by
 cases b with
 |true=>exact h1 rfl
 |false=>exact h2 rfl
variable {Q:R->aR->St->Prop}
theorem aO.split (gd:Nat){b:Bool}(hl:look sp gd=.t (.bool b))(h1:b=true->aO C ops l ⟨eA n sp,H,t⟩ Q)(h2:b=false->aO C ops l ⟨eA n sp,H,t⟩ Q):aO C ops l ⟨eA n sp,H,t⟩ Q:=by
 cases b with
 |true=>exact h1 rfl
 |false=>exact h2 rfl
theorem aO.yes {d:Tmp}{op:Op}{ty pos af}{j gd:Nat}{w b:Bool}{v:TV}{u:Heap}(aI:aC C ev)(hj:(ops[j]?).bind (·.dst)=some gd)(hn:Nat.blt gd n=true)(hl:look sp gd=.t (.bool b))(hb:(b==w)=true)
 (h:fH C ev f H n sp t (some d) op v u)(k:aO C ops r ⟨eA n ((d,v)::sp),H.fk u,t+1⟩ Q):aO C ops (⟨some d,op,ty,pos,af,some (j,w)⟩::r) ⟨eA n sp,H,t⟩ Q:=by
 refine k.imp λ_ k=>iP.step aI (by rw[mN rfl hj hn,hl];simp only[hb]) (h _ _ _ _) ?_
 rw[gp]
 exact k
theorem aO.no {d:Tmp}{op:Op}{ty pos af}{j gd:Nat}{w b:Bool}(hj:(ops[j]?).bind (·.dst)=some gd)(hn:Nat.blt gd n=true)(hl:look sp gd=.t (.bool b))(hb:(b==w)=false)
 (k:aO C ops r ⟨eA n ((d,dc)::sp),H,t+1⟩ Q):aO C ops (⟨some d,op,ty,pos,af,some (j,w)⟩::r) ⟨eA n sp,H,t⟩ Q:=by
 refine k.imp λ_ k=>iP.unwanted (by rw[mN rfl hj hn,hl];simp only[hb]) ?_
 rw[gp]
 exact k
theorem aO.none {d:Tmp}{op:Op}{ty pos af}{j gd:Nat}{w:Bool}(hj:(ops[j]?).bind (·.dst)=some gd)(hn:Nat.blt gd n=true)(hl:look sp gd=dc)
 (k:aO C ops r ⟨eA n ((d,dc)::sp),H,t+1⟩ Q):aO C ops (⟨some d,op,ty,pos,af,some (j,w)⟩::r) ⟨eA n sp,H,t⟩ Q:=by
 refine k.imp λ_ k=>iP.unwanted (by rw[mN rfl hj hn,hl];rfl) ?_
 rw[gp]
 exact k
theorem AX.qA {st:St}{c:Operand}{x y:Code}{b:Bool}(hc:dr C st.slots c=some (.t (.bool b)))(hb:b=true)(h:AX C x st Q):AX C (.cond c x y) st Q:=AX.cond hc (λ_=>h) (λe=>by rw[hb] at e;cases e)
theorem AX.rF {st:St}{c:Operand}{x y:Code}{b:Bool}(hc:dr C st.slots c=some (.t (.bool b)))(hb:b=false)(h:AX C y st Q):AX C (.cond c x y) st Q:=AX.cond hc (λe=>by rw[hb] at e;cases e) (λ_=>h)
variable {d:Option Tmp}
theorem b8 {c x y:Operand}{b:Bool}{u v:TV}(hc:fq C n sp c=some (.t (.bool b)))(hb:b=true)(hx:fq C n sp x=some u)(hy:fq C n sp y=some v):fH C ev f H n sp t d (.pick c x y) u []:=by
 subst hb;exact Zm hc hx hy
theorem fZ {c x y:Operand}{b:Bool}{u v:TV}(hc:fq C n sp c=some (.t (.bool b)))(hb:b=false)(hx:fq C n sp x=some u)(hy:fq C n sp y=some v):fH C ev f H n sp t d (.pick c x y) v []:=by
 subst hb;exact Zm hc hx hy
theorem tJ {ty:TypeId}{ti:TI}{x lo:Operand}{s:List UInt8}{m:Nat}(h:fq C n sp x=some (.t (.str s)))(hi:fq C n sp lo=some (.t (.int .i64 (m:Int))))(ht:C.P.ty ty=some ti)(hd:ti.desc=.string)(hm:m<=s.length):
 fH C ev f H n sp t d (.slice ty x (some lo) none none) (.t (.str (s.drop m))) []:=λ_ _ _ _=>by
 have h1:gj (some (.t (.int .i64 (m:Int)))) 0=some m:=by simp[gj,iB]
 have h2:gj none s.length=some s.length:=rfl
 have h3:za C (eA n sp) (some lo)=some (some (.t (.int .i64 (m:Int)))):=by simp[za,fL hi]
 have h4:za C (eA n sp) none=some none:=rfl
 simp only[bk,evalOp,fL h,h3,h4,M0,tq,bw,ht,hd,h1,h2,hm,Nat.le_refl,and_self,if_true,List.take_length]
 rfl
theorem qK {src dst:TypeId}{x:Operand}{a v:TV}(h:fq C n sp x=some a)(hv:∀lW nm H,wm C.P lW nm H src dst a=some (v,[])):fH C ev f H n sp t d (.convert src dst x) v []:=λ_ _ _ _=>by
 simp only[bk,evalOp,fL h,hv]
theorem Vl {fo:Operand}{g:FuncId}{args:Array Operand}{ats:Array TypeId}{ts:List Tree}{x:Tree}(hf:fq C n sp fo=some (.t (.fn (.func g))))(h:tI C n sp args.toList=some (ts.map .t))(he:ev g (ts.map .t) []=some (.ret (.t x) [] []))(hk:C.lW f (d.getD 255)=false:=by rfl):
 fH C ev f H n sp t d (.call ⟨.value fo,args,ats⟩) (.t x) []:=
 Te (by simp only[lX,fL hf,Jy h]) (GN he) hk
theorem qL {ty elem len:Nat}{ti te:TI}{x i:Operand}{cs:List Tree}{off m:Nat}{k:IntKind}(h:fq C n sp x=some (.lS cs off))(hi:fq C n sp i=some (.t (.int k (m:Int))))(ht:C.P.ty ty=some ti)(hd:ti.desc=.array len elem)
 (hte:C.P.ty elem=some te)(hm:m<len):fH C ev f H n sp t d (.indexAddr ty x i) (.lS cs (off+m*te.size)) []:=
 GK h hi (by
  have h1:iB (.t (.int k (m:Int)))=some m:=by simp[iB]
  simp only[fE,bw,ht,h1,hd,hte,hm,if_true,th])
theorem ZN {cs:List Tree}{off:Nat}{c:Tree}(h:cs[off]?=some c):partT false 1 (cs.map .t) off=some (.t c):=by
 simp[partT,h]
end split
theorem AX.start {f:FuncId}{fn:Func}{body:Code}{args:List TV}{bq:List aP}{res:R->br}(n k:Nat)(Nu:C.P.fn f=some fn)(hbody:fn.body=some body)(hname:fn.name≠ "runtime.NumGoroutine")
 (hn:fn.ntmps=n)(ha:args.length=k)(hk:k<=n)(h:AX C body ⟨eA n (BR 0 args),dw 0 bq,0⟩ (λr=>wE C fn bq.length (res r))):∃r,ai C f args bq (res r):=
 h.imp λ_ h=>qJ n k Nu hbody hname hn ha hk h
section freeze
variable {C:ew}
theorem Re.freeze {n d N:Nat}{sp:List (Nat×TV)}{H H':Heap}{t:Nat}{tr:Tree}{ks:List Nm}(hfz:sG H N (look sp d)=some (tr,ks))(hH':∀k o,H'.get k=some o->H.get k=some o/\k∉ks)(hdn:d<n):
 Re C ⟨eA n sp,H,t⟩ ⟨eA n ((d,.t tr)::sp),H',t⟩:=by
 intro G0 w0 G w a h0 hs hst
 have st:=kV hst.wf hst.heap ks
 refine⟨G.frozen w H ks,(hs.trans st).mono (λ_ _ _=>trivial) (λk h=>h.elim id False.elim),st.wf,hst.ku.mono st.le, ?_, ?_, ?_⟩
 ·have hl:=hst.slots;refine⟨by have:=hl.1;simpa [jc] using this,λi c v hc hv=> ?_⟩;have hi:i<n:=by have:=(List.getElem?_eq_some_iff.1 hc).1;simpa [jc] using this
  rw[rY hi,Option.some.injEq] at hc;subst hc;have h0:=hl.2 i (look sp i) v (rY hi) hv;rw[qI];split
  ·rename_i e;subst e;exact .t _ _ (IY hst.wf hst.heap ks N _ tr ks v hfz (λ_ h=>h) h0)
  ·exact h0.mono st.le
 ·intro k o hk;obtain⟨h1,h2⟩:=hH' k o hk;obtain⟨h3,h4⟩:=hst.heap k o h1;exact⟨st.le.dom k h3,st.keeps hst.wf h3 (λh=>h2 h.1) h4⟩
 ·exact hst.fresh
end freeze
theorem Re.trans {C:ew}{a b c:St}(h:Re C a b)(k:Re C b c):Re C a c:=λG0 w0 G w x h0 hs hst=>by
 obtain⟨G1,hs1,jk⟩:=h G0 w0 G w x h0 hs hst;exact k G0 w0 G1 w x h0 hs1 jk
section more
variable {C:ew}{ev:bp}{f:FuncId}{H:Heap}{n t:Nat}{sp:List (Nat×TV)}{d:Option Tmp}
theorem aej {src dst e:TypeId}{ti td te:TI}{x:Operand}{s:List UInt8}(h:fq C n sp x=some (.t (.str s)))(ha:d.any (C.lW f)=false)(ht:C.P.ty src=some ti)(hd:ti.desc=.string)(ht2:C.P.ty dst=some td)(hd2:td.desc=.slice e)
 (hte:C.P.ty e=some te)(hde:te.desc=.int .u8):fH C ev f H n sp t d (.convert src dst x) (.t (.sl (s.map λb=>.int .u8 b.toNat))) []:=λ_ _ _ _=>by
 simp only[bk,evalOp,fL h,wm,bw,ht,ht2,hd,hd2,hte,hde,ha,Bool.false_eq_true,if_false]
end more
section al0
variable {C:ew}{ev:bp}{f:FuncId}{H:Heap}{n t:Nat}{sp:List (Nat×TV)}{d:Option Tmp}
end al0
end Go.Abs
end
