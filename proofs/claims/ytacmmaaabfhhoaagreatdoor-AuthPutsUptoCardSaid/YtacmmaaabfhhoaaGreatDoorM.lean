/- Seat r3: its interpreter, its summaries. -/
import Derived.Test.YtacmmaaabfhhoaaGreatDoorJ
import Derived.Test.YtacmmaaabfhhoaaGreatDoorK
import Derived.Test.YtacmmaaabfhhoaaGreatDoorL
import Derived.Test.YtacmmaaabfhhoaaGreatDoorShelf
import Derived.Test.YtacmmaaabfhhoaaGreatDoorChecked
import Derived.Tactics2
import Derived.Defers
import Derived.Recover
import Derived.Laws.Pointers
import Derived.Test.YtacmmaaabfhhoaaGreatDoorI
set_option linter.unusedVariables false
set_option linter.unusedSimpArgs false
namespace Go.Proofs.YtacmmaaabfhhoaaGreatDoor.live
open Go Go.Abs Go.RowKit
noncomputable def prg:iP:={prog:=Tryz.prog,ty:=PB Tryz.prog,fn:=λf=>Tryz.prog.funcs[f]?,abg:=λ_ _ h=>h,Nh:=λ_ _ h=>h}
noncomputable def rep (n:Nat)(x:Int):List Tree:=List.replicate n (.int .u8 x)
noncomputable def u8s (l:List Int):List Tree:=l.map (.int .u8 ·)
noncomputable def rO:List Tree:=rep 128 0xF0++rep 66 0xF1++rep 30 0x02++u8s [0x13]++rep 12 0x03++u8s [0x23]++rep 2 0x03++u8s [0x34]++rep 3 0x04++u8s [0x44]++rep 11 0xF1
noncomputable def rP:List Tree:=u8s [0x80,0xBF,0xA0,0xBF,0x80,0x9F,0x90,0xBF,0x80,0x8F]++rep 22 0
noncomputable def yz:List Tree:=rep 9 0++rep 5 1++rep 18 0++rep 1 1++rep 223 0
noncomputable def cfg (m:Int):cE:={P:=prg,iC:=λ|0=>some rO|1=>some rP|2=>some yz|3=>some [.int .i64 m]|7=>some [.int .u64 1]|_=>none,jD:=λ_ _=>false}
noncomputable def Ko (m:Int):Ext:=λ|212=>some (yq 251)|176=>some (rJ 5)|233=>some uJ|173=>some mL|44=>some (Cp (cfg m) 158)|_=>none
noncomputable def ext (m:Int):Ext:=λ|212=>some (yq 251)|176=>some (rJ 5)|233=>some uJ|173=>some mL|44=>some (Cp (cfg m) 158)|184=>some (zI uM)|_=>none
theorem en (f:FuncId)(fn:Func)(h:Tryz.prog.funcs[f]?=some fn)(hn:(fn.name== "runtime.NumGoroutine")=false)(c:Code)(hb:fn.body=some c)(args:Array Value)(w:World):
 (callFunc f args).run Tryz.prog w=.ok (.enter f args) w:=by
 have h1:fn.name≠ "runtime.NumGoroutine" :=by simpa using hn
 simp[callFunc,h,h1,hb,mark]
theorem VH (args:Array Value)(w:World):(callFunc 212 args).run Tryz.prog w=.ok (.enter 212 args) w:=en 212 Tryz.f212 Tryz.func212 (by kernel_rfl) _ rfl args w
theorem Zb (args:Array Value)(w:World):(callFunc 176 args).run Tryz.prog w=.ok (.enter 176 args) w:=en 176 Tryz.f176 Tryz.func176 (by kernel_rfl) _ rfl args w
theorem Zc (args:Array Value)(w:World):(callFunc 233 args).run Tryz.prog w=.ok (.enter 233 args) w:=en 233 Tryz.f233 Tryz.func233 (by kernel_rfl) _ rfl args w
theorem Zd (args:Array Value)(w:World):(callFunc 173 args).run Tryz.prog w=.ok (.enter 173 args) w:=en 173 Tryz.f173 Tryz.func173 (by kernel_rfl) _ rfl args w
theorem Ze (args:Array Value)(w:World):(callFunc 44 args).run Tryz.prog w=.ok (.enter 44 args) w:=en 44 Tryz.f44 Tryz.func44 (by kernel_rfl) _ rfl args w
set_option maxRecDepth 100000
theorem A3 (p:Addr)(pv:Value)(older:List PanicEntry)(w:World)(hc:w.cell? p=some (.bool false))(hz:w.frozen? p=false):
 CallsD Tryz.prog 80 #[.pointer (some p)] (.panicking ({v:=.iface 158 pv,recovered:=false}::older)) w λe u' w'=>
  e=.returned (.tuple #[])/\u'=.panicking ({v:=.iface 158 pv,recovered:=true}::older)/\w'=w.setCell p (.bool false):=by
 refine callsD_of_wpS Tryz.func80 rfl λc₀ cs hu=> ?_
 apply wpS_seq
 apply wpS_region
 simp[wpOpsS,go_sem,recoverD,hu,Tryz.ntmps80,Exit.thenS]
 show Code.wpS Tryz.prog _ _ {tmps:= #[Value.pointer (some p),Value.iface 158 pv,Value.iface 158 pv,undef,undef,undef,undef],defers:=[]} _ _
 refine wpS_of_wp ?_
 have hta:∀w,(Instr.typeAssert (.iface 158 pv) 20 158 false).run Tryz.prog w=.ok pv w:=by
  intro w;simp[Instr.typeAssert,run_underlying Tryz.underlying158,go_sem,Result.andThen]
 go_wp2
 exact⟨rfl,.panicking ({v:=Value.iface 158 pv,recovered:=true}::older),rfl,.tuple #[],results_none rfl _ _ _,rfl,rfl,rfl⟩
theorem Kq (p:Addr)(w:World):
 CallsD Tryz.prog 80 #[.pointer (some p)] .returning w λe u' w'=>e=.returned (.tuple #[])/\u'=.returning/\w'=w:=by
 refine callsD_of_wpS Tryz.func80 rfl λc₀ cs hu=> ?_
 apply wpS_seq
 apply wpS_region
 simp[wpOpsS,go_sem,recoverD,hu,Tryz.ntmps80,Exit.thenS]
 show Code.wpS Tryz.prog _ _ {tmps:= #[Value.pointer (some p),Value.nilIface,Value.nilIface,undef,undef,undef,undef],defers:=[]} _ _
 refine wpS_of_wp ?_
 go_wp2
 exact⟨rfl,.returning,by cases c₀;simp_all,.tuple #[],results_none rfl _ _ _,rfl,rfl,rfl⟩
theorem N3 (rv:Value)(f:FuncId)(fs cs:Array Value)(w:World)(R:Ending->World->Prop)
 (DF:∀args w,(callFunc f args).run Tryz.prog w=.ok (.enter f args) w)
 (tO:Calls Tryz.prog f (fs++cs) (w.alloc (.cells #[.bool false] 4)) R)
 (hR:∀e w',R e w'->w'.cell? ⟨w.heap.size,0,none⟩=some (.bool false)/\w'.frozen? ⟨w.heap.size,0,none⟩=false/\((∃v,e=.returned v)\/∃pv,e=.panicked [{v:=.iface 158 pv,recovered:=false}])):
 Calls Tryz.prog 44 #[rv,.func (.func f) fs cs] w λe w'=>∃e' w2,R e' w2/\
  (((∃v,e'=.returned v)/\e=.returned (.bool true)/\w'=w2.setCell ⟨w.heap.size,0,none⟩ (.bool true))\/
   ((∃pv,e'=.panicked [{v:=.iface 158 pv,recovered:=false}])/\e=.returned (.bool false)/\w'=w2.setCell ⟨w.heap.size,0,none⟩ (.bool false))):=by
 have hmf:∀(fn:Fn) (first cap:Array Value) (w:World),(Instr.makeFunc fn first cap).run Tryz.prog w=.ok (.func fn first cap) w:=λ_ _ _ _=>rfl
 go_enter_defers Tryz.func44,Tryz.ntmps44
 go_wp2
 refine tO.mono ?_
 intro e w2 hr
 obtain⟨hc,hz,he⟩:=hR _ _ hr
 rcases he with ⟨v,rfl⟩|⟨pv,rfl⟩
 ·simp only[];go_at_K;go_wp2;refine leaves_cons (f:=80) (args:= #[.pointer (some ⟨w.heap.size,0,none⟩)]) (by simp) (by simp[go_sem]) ?_;refine(Kq _ _).mono ?_;rintro e u' w'' ⟨rfl,rfl,rfl⟩;refine⟨.bool true, ?_,_,w2,hr,.inl ⟨⟨v,rfl⟩,rfl,rfl⟩⟩;have hc':(w2.setCell ⟨w.heap.size,0,none⟩ (.bool true)).cell? ⟨w.heap.size,0,none⟩=some (.bool true):=World.cell?_setCell_same _ _ _ hc;simp[results,Tryz.f44,Sem.run_bind,go_sem,hc']
 ·simp only[];refine leaves_cons (f:=80) (args:= #[.pointer (some ⟨w.heap.size,0,none⟩)]) (by simp) (by simp[go_sem]) ?_;refine(A3 _ pv [] _ hc hz).mono ?_;rintro e u' w'' ⟨rfl,rfl,rfl⟩;refine⟨.bool false, ?_,_,w2,hr,.inr ⟨⟨pv,rfl⟩,rfl,rfl⟩⟩;have hc':(w2.setCell ⟨w.heap.size,0,none⟩ (.bool false)).cell? ⟨w.heap.size,0,none⟩=some (.bool false):=World.cell?_setCell_same _ _ _ hc;simp[results,Tryz.f44,Sem.run_bind,go_sem,hc']
theorem abJ (m:Int):jF (cfg m) 176 (rJ 5):=
 FZ (C:=cfg m) Zb (λb w h=>Iu Tryz.lays169 Tryz.Builder_Extra_169 b w h)
  (λb a cap cells l w h1 h2 h3 h4 h5 h6 h7=>Iv Tryz.lays169 Tryz.Builder_Extra_169 b a cap cells l w h1 h2 h3 h4 h5 h6 h7)
theorem Ra:(Tryz.prog.info? 251).map (·.size)=some 2:=by kernel_rfl
theorem N4 (b:Nat)(w:World)(h0:w.cell? ⟨b,0,none⟩=some (.pointer (some ⟨b,0,none⟩))):
 Calls Tryz.prog 212 #[.pointer (some ⟨b,0,none⟩)] w λe w'=>e=.returned (.tuple #[])/\w'=w:=by
 obtain⟨j,hj,_⟩:=Option.map_eq_some_iff.1 Ra
 go_enter Tryz.func212,Tryz.ntmps212
 go_wp2
 rw[Lib.run_neq_ptr_same w _ Tryz.underlying248 hj]
 go_wp2
 go_end0
 exact⟨rfl,rfl⟩
theorem Kr (b:Nat)(w:World)(h0:w.cell? ⟨b,0,none⟩=some (.pointer none))(hsh:w.shape? b=some (251,2))(hfz:w.frozen? ⟨b,0,none⟩=false):
 Calls Tryz.prog 212 #[.pointer (some ⟨b,0,none⟩)] w λe w'=>e=.returned (.tuple #[])/\w'=w.setCell ⟨b,0,none⟩ (.pointer (some ⟨b,0,none⟩)):=by
 obtain⟨j,hj,hjs⟩:=Option.map_eq_some_iff.1 Ra
 go_enter Tryz.func212,Tryz.ntmps212
 go_wp2
 rw[Lib.run_to_unsafe w ⟨b,0,none⟩ Tryz.underlying248 Tryz.underlying298 hj (by rw[hjs];decide) hsh (Nat.zero_lt_succ 1)]
 simp only[Result.andThen]
 rw[Oper.upon_value]
 go_wp2
 rw[run_callFunc_extern Tryz.func241 (by kernel_rfl) (by kernel_rfl) (by kernel_rfl) (e:=Extern.AbiNoEscape.same) (by kernel_rfl)]
 rw[Lib.run_noEscape]
 simp only[Result.andThen]
 rw[Oper.upon_value]
 go_wp2
 rw[Lib.run_from_unsafe w ⟨b,0,none⟩ Tryz.underlying298 Tryz.underlying248 hj hsh (by kernel_rfl)]
 simp only[Result.andThen]
 rw[Oper.upon_value]
 go_wp2
 go_end0
 exact⟨rfl,rfl⟩
theorem Rb (m:Int):jF (cfg m) 212 (yq 251):=
 Kn (C:=cfg m) VH (λb w h1 h2 h3=>Kr b w h1 h2 h3)
  (λb w h=>N4 b w h)
theorem Iw (m:Int):jF (cfg m) 233 uJ:=
 Iq (C:=cfg m) (gm:=3) (m:=m) rfl Zc (λs sub m w h1 h2=>Tryz.stringslite_Index s sub m w h1 h2)
theorem yA (m:Int):jF (cfg m) 173 mL:=
 A2 (C:=cfg m) Zd (λs c w=>Tryz.stringslite_IndexByte s c w)
theorem X8 (m:Int):jF (cfg m) 44 (Cp (cfg m) 158):=
 NZ (C:=cfg m) (tb:=4) Ze (λrv f fs cs w R h1 h2 h3=>N3 rv f fs cs w R h1 h2 h3)
theorem Mq (m:Int):Ao (cfg m) (Ko m):=rK (by
 intro g s h;unfold Ko at h;split at h<;>first
  |(obtain rfl:=Option.some.inj h;first|exact Rb m|exact abJ m|exact Iw m|exact yA m|exact X8 m)
  |cases h)
theorem ah (m:Int):(cfg m).P.prog.follows .mixedOrders=true:=by
 show Tryz.prog.follows .mixedOrders=true;kernel_rfl
end Go.Proofs.YtacmmaaabfhhoaaGreatDoor.live
noncomputable section
namespace Go.Abs
open Go
variable {C:cE}{R:Type}
abbrev AX (C:cE)(c:Code)(st:St)(Q:R->aJ->St->Prop):Prop:=∃r,AW C c st (Q r)
abbrev aC (C:cE)(ops:Array Oper)(l:List Oper)(st:St)(Q:R->aJ->St->Prop):Prop:=∃r,cD C ops l st (Q r)
abbrev aL (C:cE)(ev:aX)(f:FuncId)(ops:Array Oper)(bs:List Nat)(t0 i:Nat)(l:List Oper)(n:Nat)(sp:List (Nat×TV))(H:Heap)(K:R->List Rec->List (Nat×TV)->Heap->Prop):Prop:=
 ∃r,uf C ev f ops bs t0 i l n sp H (K r)
section code
variable {st:St}{Q:R->aJ->St->Prop}
theorem AX.re {c:Code}{st':St}(hr:Re C st st')(h:AX C c st' Q):AX C c st Q:=h.imp λ_ h=>AW.re hr h
theorem AX.skip (hq:∃r,Q r .normal st):AX C .skip st Q:=hq.imp λ_ h=>AW.skip h
theorem AX.label {l}(hq:∃r,Q r .normal st):AX C (.label l) st Q:=hq.imp λ_ h=>AW.label h
theorem AX.exit {id:Nat}(hq:∃r,Q r (.exit id) st):AX C (.exit id) st Q:=hq.imp λ_ h=>AW.exit h
theorem AX.ret (hq:∃r,Q r .ret st):AX C .ret st Q:=hq.imp λ_ h=>AW.ret h
theorem AX.seq {x y:Code}(h:AX C x st λr=>Vy C y (Q r)):AX C (.seq x y) st Q:=h.imp λ_ h=>AW.seq h
theorem AX.block {id:Nat}{c:Code}(h:AX C c st λr=>Out id (Q r)):AX C (.block id c) st Q:=h.imp λ_ h=>AW.block h
theorem AX.cond {c:Operand}{x y:Code}{b:Bool}(hc:bU C st.slots c=some (.t (.bool b)))(h1:b=true->AX C x st Q)(h2:b=false->AX C y st Q):AX C (.cond c x y) st Q:=by
 cases b with
 |true=>exact(h1 rfl).imp λ_ h=>AW.cond hc (λ_=>h) λe=>by cases e
 |false=>exact(h2 rfl).imp λ_ h=>AW.cond hc (λe=>by cases e) λ_=>h
theorem AX.region {id:Nat}{ops:Array Oper}(h:aC C ops ops.toList st Q):AX C (.region id ops false) st Q:=h.imp λ_ h=>AW.region h
def Leave (Q:aJ->St->Prop):aJ->St->Prop
 |.normal,_=>False
 |e,s=>Q e s
def uO {α:Type}(C:cE)(st:α->St)(P:α->Prop)(Q:R->aJ->St->Prop):{y:α // P y}⊕ R->aJ->St->Prop
 |.inl y=>λe s=>e=.normal/\Re C s (st y.1)
 |.inr r=>Leave (Q r)
theorem AX.leave {α:Type}{C:cE}{st:α->St}{P:α->Prop}{s:St}{e:aJ}(he:e≠ .normal)(h:∃r,Q r e s):∃o,uO C st P Q o e s:=by
 obtain⟨r,h⟩:=h;refine⟨.inr r, ?_⟩;cases e with
 |normal=>exact absurd rfl he
 |exit i=>exact h
 |ret=>exact h
 |panic v=>exact h
inductive Iy {α:Type}(C:cE)(st:α->St)(ok:α->Prop)(μ:α->Nat)(body:Code)(Q:R->aJ->St->Prop):α->R->Prop
 |more {x y r} (hy:ok y) (hlt:μ y<μ x) (h:AW C body (st x) (λe s=>e=.normal/\Re C s (st y))) (k:Iy C st ok μ body Q y r):Iy C st ok μ body Q x r
 |last {x r} (h:AW C body (st x) (Leave (Q r))):Iy C st ok μ body Q x r
theorem AX.loop {α:Type}(st:α->St)(ok:α->Prop)(μ:α->Nat){body:Code}(x0:α){s0:St}(hr:Re C s0 (st x0))(h0:ok x0)
 (h:∀x,ok x->AX C body (st x) (uO C st (λy=>ok y/\μ y<μ x) Q)):AX C (.loop body) s0 Q:=by
 have all:∀m x,μ x<m->ok x->∃r,Iy C st ok μ body Q x r:=by
  intro m;induction m with
  |zero=>intro x hx;omega
  | succ m ih=>
   intro x hx hok
   obtain⟨o,ho⟩:=h x hok
   cases o with
   |inl y=>
    obtain⟨r,hr⟩:=ih y.1 (by have:=y.2.2;omega) y.2.1
    exact⟨r,.more y.2.1 y.2.2 ho hr⟩
   |inr r=>exact⟨r,.last ho⟩
 obtain⟨r,hl⟩:=all (μ x0+1) x0 (Nat.lt_succ_self _) h0
 refine⟨r,AW.loop st (λx=>ok x/\Iy C st ok μ body Q x r) μ x0 hr ⟨h0,hl⟩ ?_⟩
 rintro x ⟨hok,hx⟩
 cases hx with
 |more hy hlt hb k=>
  refine AW.mono hb ?_
  rintro e s ⟨rfl,Ib⟩
  exact⟨_,⟨hy,k⟩,hlt,Ib⟩
 |last hb=>
  refine AW.mono hb ?_
  intro e s hq
  cases e with
  |normal=>exact hq.elim
  |exit i=>exact hq
  |ret=>exact hq
  |panic v=>exact hq
end code
section ops
variable {ev:aX}{f:FuncId}{ops:Array Oper}{r:List Oper}{n t:Nat}{sp:List (Nat×TV)}{H:Heap}{Q:R->aJ->St->Prop}
theorem aC.nil {st:St}(hq:∃r,Q r .normal st):aC C ops [] st Q:=hq.imp λ_ h=>cD.nil h
theorem aC.go {d:Tmp}{op:Op}{ty pos af}{v:TV}{u:Heap}(az:aF C ev)(h:dS C ev f H n sp t (some d) op v u)(k:aC C ops r ⟨dU n ((d,v)::sp),H.dH u,t+1⟩ Q):
 aC C ops (⟨some d,op,ty,pos,af,none⟩::r) ⟨dU n sp,H,t⟩ Q:=k.imp λ_ k=>cD.go az h k
theorem aC.Ch {op:Op}{ty pos af}{v:TV}{u:Heap}(az:aF C ev)(h:dS C ev f H n sp t none op v u)(k:aC C ops r ⟨dU n sp,H.dH u,t+1⟩ Q):
 aC C ops (⟨none,op,ty,pos,af,none⟩::r) ⟨dU n sp,H,t⟩ Q:=k.imp λ_ k=>cD.Ch az h k
end ops
section drawn
variable {ev:aX}{f:FuncId}{ops:Array Oper}{bs:List Nat}{t0 i n:Nat}{r:List Oper}{sp:List (Nat×TV)}{H:Heap}{K:R->List Rec->List (Nat×TV)->Heap->Prop}
theorem aL.nil (h:∃r,K r [] sp H):aL C ev f ops bs t0 i [] n sp H K:=h.imp λ_ h=>uf.nil h
theorem aL.go {d:Tmp}{op:Op}{ty pos af}{fp:List Nm}{v:TV}{u:Heap}(Md:JT C H (dU n sp) ⟨some d,op,ty,pos,af,none⟩=some fp)(h:dS C ev f (l9 H fp) n sp (t0+i) (some d) op v u)
 (k:aL C ev f ops bs t0 (i+1) r n ((d,v)::sp) (H.dH u) λq rs sp' H'=>K q (⟨fp,.val v u⟩::rs) sp' H'):aL C ev f ops bs t0 i (⟨some d,op,ty,pos,af,none⟩::r) n sp H K:=k.imp λ_ k=>uf.go Md h k
theorem aL.Ch {op:Op}{ty pos af}{fp:List Nm}{v:TV}{u:Heap}(Md:JT C H (dU n sp) ⟨none,op,ty,pos,af,none⟩=some fp)(h:dS C ev f (l9 H fp) n sp (t0+i) none op v u)
 (k:aL C ev f ops bs t0 (i+1) r n sp (H.dH u) λq rs sp' H'=>K q (⟨fp,.val v u⟩::rs) sp' H'):aL C ev f ops bs t0 i (⟨none,op,ty,pos,af,none⟩::r) n sp H K:=k.imp λ_ k=>uf.Ch Md h k
theorem aL.yes {d:Tmp}{op:Op}{ty pos af}{j gd:Nat}{w b:Bool}{fp:List Nm}{v:TV}{u:Heap}(hj:(ops[j]?).bind (·.dst)=some gd)(hn:Nat.blt gd n=true)(hl:look sp gd=.t (.bool b))(hb:(b==w)=true)
 (Md:JT C H (dU n sp) ⟨some d,op,ty,pos,af,some (j,w)⟩=some fp)(h:dS C ev f (l9 H fp) n sp (t0+i) (some d) op v u)
 (k:aL C ev f ops bs t0 (i+1) r n ((d,v)::sp) (H.dH u) λq rs sp' H'=>K q (⟨fp,.val v u⟩::rs) sp' H'):aL C ev f ops bs t0 i (⟨some d,op,ty,pos,af,some (j,w)⟩::r) n sp H K:=k.imp λ_ k=>uf.yes hj hn hl hb Md h k
theorem aL.no {d:Tmp}{op:Op}{ty pos af}{j gd:Nat}{w b:Bool}(hj:(ops[j]?).bind (·.dst)=some gd)(hn:Nat.blt gd n=true)(hl:look sp gd=.t (.bool b))(hb:(b==w)=false)
 (k:aL C ev f ops bs t0 (i+1) r n ((d,bR)::sp) H λq rs sp' H'=>K q (⟨[],.unwanted⟩::rs) sp' H'):aL C ev f ops bs t0 i (⟨some d,op,ty,pos,af,some (j,w)⟩::r) n sp H K:=k.imp λ_ k=>uf.no hj hn hl hb k
theorem aL.none {d:Tmp}{op:Op}{ty pos af}{j gd:Nat}{w:Bool}(hj:(ops[j]?).bind (·.dst)=some gd)(hn:Nat.blt gd n=true)(hl:look sp gd=bR)
 (k:aL C ev f ops bs t0 (i+1) r n ((d,bR)::sp) H λq rs sp' H'=>K q (⟨[],.unwanted⟩::rs) sp' H'):aL C ev f ops bs t0 i (⟨some d,op,ty,pos,af,some (j,w)⟩::r) n sp H K:=k.imp λ_ k=>uf.none hj hn hl k
end drawn
theorem eD {a b:Prop}{c:R->Prop}(ha:a)(hb:b)(h:∃r,c r):∃r,a/\b/\c r:=h.imp λ_ h=>⟨ha,hb,h⟩
theorem AX.draw {ev:aX}{f:FuncId}{id:Nat}{ops:Array Oper}{n t:Nat}{sp:List (Nat×TV)}{H:Heap}{Q:R->aJ->St->Prop}(hm:C.P.prog.follows .mixedOrders=true)(az:aF C ev)
 (h:aL C ev f ops (kX ops.toList []) t 0 ops.toList n sp H λr recs sp' H'=>lT ops ops.toList recs (kX ops.toList []) ops.toList recs 0=true/\sF 0 ops.toList=true/\Q r .normal ⟨dU n sp',H',t+ops.size⟩):
 AX C (.region id ops true) ⟨dU n sp,H,t⟩ Q:=h.imp λ_ h=>AW.draw hm az h
section ends
variable {st:St}{Q:R->aJ->St->Prop}
theorem AX.bQ {y:Code}(h:∃r,Q r .ret st):∃r,Vy C y (Q r) .ret st:=h
theorem AX.jG {y:Code}{i:Nat}(h:∃r,Q r (.exit i) st):∃r,Vy C y (Q r) (.exit i) st:=h
theorem AX.bH {id:Nat}(h:∃r,Q r .ret st):∃r,Out id (Q r) .ret st:=h
theorem AX.jM {id:Nat}(h:∃r,Q r .normal st):∃r,Out id (Q r) .normal st:=h
theorem AX.lB {id:Nat}(h:∃r,Q r .normal st):∃r,Out id (Q r) (.exit id) st:=h.imp λ_ h=>by simp only[Out,if_true];exact h
end ends
theorem eu {b:Bool}(h:b=true):(b==true)=true:=by subst h;rfl
theorem aS {b:Bool}(h:b=false):(b==false)=true:=by subst h;rfl
theorem ew {b:Bool}(h:b=false):(b==true)=false:=by subst h;rfl
theorem aE {b:Bool}(h:b=true):(b==false)=false:=by subst h;rfl
section split
variable {ev:aX}{f:FuncId}{ops:Array Oper}{bs:List Nat}{t0 i n t:Nat}{r:List Oper}{l:List Oper}{sp:List (Nat×TV)}{H:Heap}
theorem aL.split {K:R->List Rec->List (Nat×TV)->Heap->Prop}(gd:Nat){b:Bool}(hl:look sp gd=.t (.bool b))(h1:b=true->aL C ev f ops bs t0 i l n sp H K)(h2:b=false->aL C ev f ops bs t0 i l n sp H K):aL C ev f ops bs t0 i l n sp H K:=by
 cases b with
 |true=>exact h1 rfl
 |false=>exact h2 rfl
variable {Q:R->aJ->St->Prop}
theorem aC.split (gd:Nat){b:Bool}(hl:look sp gd=.t (.bool b))(h1:b=true->aC C ops l ⟨dU n sp,H,t⟩ Q)(h2:b=false->aC C ops l ⟨dU n sp,H,t⟩ Q):aC C ops l ⟨dU n sp,H,t⟩ Q:=by
 cases b with
 |true=>exact h1 rfl
 |false=>exact h2 rfl
theorem aC.yes {d:Tmp}{op:Op}{ty pos af}{j gd:Nat}{w b:Bool}{v:TV}{u:Heap}(az:aF C ev)(hj:(ops[j]?).bind (·.dst)=some gd)(hn:Nat.blt gd n=true)(hl:look sp gd=.t (.bool b))(hb:(b==w)=true)
 (h:dS C ev f H n sp t (some d) op v u)(k:aC C ops r ⟨dU n ((d,v)::sp),H.dH u,t+1⟩ Q):aC C ops (⟨some d,op,ty,pos,af,some (j,w)⟩::r) ⟨dU n sp,H,t⟩ Q:=by
 refine k.imp λ_ k=>cD.step az (by rw[kK rfl hj hn,hl];simp only[hb]) (h _ _ _ _) ?_
 rw[eU]
 exact k
theorem aC.no {d:Tmp}{op:Op}{ty pos af}{j gd:Nat}{w b:Bool}(hj:(ops[j]?).bind (·.dst)=some gd)(hn:Nat.blt gd n=true)(hl:look sp gd=.t (.bool b))(hb:(b==w)=false)
 (k:aC C ops r ⟨dU n ((d,bR)::sp),H,t+1⟩ Q):aC C ops (⟨some d,op,ty,pos,af,some (j,w)⟩::r) ⟨dU n sp,H,t⟩ Q:=by
 refine k.imp λ_ k=>cD.unwanted (by rw[kK rfl hj hn,hl];simp only[hb]) ?_
 rw[eU]
 exact k
theorem aC.none {d:Tmp}{op:Op}{ty pos af}{j gd:Nat}{w:Bool}(hj:(ops[j]?).bind (·.dst)=some gd)(hn:Nat.blt gd n=true)(hl:look sp gd=bR)
 (k:aC C ops r ⟨dU n ((d,bR)::sp),H,t+1⟩ Q):aC C ops (⟨some d,op,ty,pos,af,some (j,w)⟩::r) ⟨dU n sp,H,t⟩ Q:=by
 refine k.imp λ_ k=>cD.unwanted (by rw[kK rfl hj hn,hl];rfl) ?_
 rw[eU]
 exact k
theorem AX.nc {st:St}{c:Operand}{x y:Code}{b:Bool}(hc:bU C st.slots c=some (.t (.bool b)))(hb:b=true)(h:AX C x st Q):AX C (.cond c x y) st Q:=AX.cond hc (λ_=>h) (λe=>by rw[hb] at e;cases e)
theorem AX.nU {st:St}{c:Operand}{x y:Code}{b:Bool}(hc:bU C st.slots c=some (.t (.bool b)))(hb:b=false)(h:AX C y st Q):AX C (.cond c x y) st Q:=AX.cond hc (λe=>by rw[hb] at e;cases e) (λ_=>h)
variable {d:Option Tmp}
theorem bw {c x y:Operand}{b:Bool}{u v:TV}(hc:dM C n sp c=some (.t (.bool b)))(hb:b=true)(hx:dM C n sp x=some u)(hy:dM C n sp y=some v):dS C ev f H n sp t d (.pick c x y) u []:=by
 subst hb;exact QB hc hx hy
theorem cy {c x y:Operand}{b:Bool}{u v:TV}(hc:dM C n sp c=some (.t (.bool b)))(hb:b=false)(hx:dM C n sp x=some u)(hy:dM C n sp y=some v):dS C ev f H n sp t d (.pick c x y) v []:=by
 subst hb;exact QB hc hx hy
theorem qd {ty:TypeId}{ti:TI}{x lo:Operand}{s:List UInt8}{m:Nat}(h:dM C n sp x=some (.t (.str s)))(hi:dM C n sp lo=some (.t (.int .i64 (m:Int))))(ht:C.P.ty ty=some ti)(hd:ti.desc=.string)(hm:m<=s.length):
 dS C ev f H n sp t d (.slice ty x (some lo) none none) (.t (.str (s.drop m))) []:=λ_ _ _ _=>by
 have h1:eP (some (.t (.int .i64 (m:Int)))) 0=some m:=by simp[eP,fV]
 have h2:eP none s.length=some s.length:=rfl
 have h3:um C (dU n sp) (some lo)=some (some (.t (.int .i64 (m:Int)))):=by simp[um,ey hi]
 have h4:um C (dU n sp) none=some none:=rfl
 simp only[aR,evalOp,ey h,h3,h4,Fg,pW,bh,ht,hd,h1,h2,hm,Nat.le_refl,and_self,if_true,List.take_length]
 rfl
theorem nx {src dst:TypeId}{x:Operand}{a v:TV}(h:dM C n sp x=some a)(hv:∀jD nm H,rz C.P jD nm H src dst a=some (v,[])):dS C ev f H n sp t d (.convert src dst x) v []:=λ_ _ _ _=>by
 simp only[aR,evalOp,ey h,hv]
theorem Mr {fo:Operand}{g:FuncId}{args:Array Operand}{ats:Array TypeId}{ts:List Tree}{x:Tree}(hf:dM C n sp fo=some (.t (.fn (.func g))))(h:qc C n sp args.toList=some (ts.map .t))(he:ev g (ts.map .t) []=some (.ret (.t x) [] []))(hk:C.jD f (d.getD 255)=false:=by rfl):
 dS C ev f H n sp t d (.call ⟨.value fo,args,ats⟩) (.t x) []:=
 FU (by simp only[jv,ey hf,Cf h]) (Aq he) hk
theorem ny {ty elem len:Nat}{ti te:TI}{x i:Operand}{cs:List Tree}{off m:Nat}{k:IntKind}(h:dM C n sp x=some (.jC cs off))(hi:dM C n sp i=some (.t (.int k (m:Int))))(ht:C.P.ty ty=some ti)(hd:ti.desc=.array len elem)
 (hte:C.P.ty elem=some te)(hm:m<len):dS C ev f H n sp t d (.indexAddr ty x i) (.jC cs (off+m*te.size)) []:=
 Ap h hi (by
  have h1:fV (.t (.int k (m:Int)))=some m:=by simp[fV]
  simp only[dW,bh,ht,h1,hd,hte,hm,if_true,pU])
theorem Rc {cs:List Tree}{off:Nat}{c:Tree}(h:cs[off]?=some c):partT false 1 (cs.map .t) off=some (.t c):=by
 simp[partT,h]
end split
theorem AX.start {f:FuncId}{fn:Func}{body:Code}{args:List TV}{aP:List aO}{res:R->bz}(n k:Nat)(zF:C.P.fn f=some fn)(hbody:fn.body=some body)(hname:fn.name≠ "runtime.NumGoroutine")
 (hn:fn.ntmps=n)(ha:args.length=k)(hk:k<=n)(h:AX C body ⟨dU n (w9 0 args),bK 0 aP,0⟩ (λr=>wh C fn aP.length (res r))):∃r,ai C f args aP (res r):=
 h.imp λ_ h=>gY n k zF hbody hname hn ha hk h
section freeze
variable {C:cE}
theorem Re.freeze {n d N:Nat}{sp:List (Nat×TV)}{H H':Heap}{t:Nat}{tr:Tree}{ks:List Nm}(hfz:pq H N (look sp d)=some (tr,ks))(Vw:∀k o,H'.get k=some o->H.get k=some o/\k∉ks)(hdn:d<n):
 Re C ⟨dU n sp,H,t⟩ ⟨dU n ((d,.t tr)::sp),H',t⟩:=by
 intro G0 w0 G w a h0 hs hst
 have st:=iJ hst.wf hst.heap ks
 refine⟨G.frozen w H ks,(hs.trans st).mono (λ_ _ _=>trivial) (λk h=>h.elim id False.elim),st.wf,hst.iC.mono st.le, ?_, ?_, ?_⟩
 ·have hl:=hst.slots;refine⟨by have:=hl.1;simpa [fI] using this,λi c v hc hv=> ?_⟩;have hi:i<n:=by have:=(List.getElem?_eq_some_iff.1 hc).1;simpa [fI] using this
  rw[mJ hi,Option.some.injEq] at hc;subst hc;have h0:=hl.2 i (look sp i) v (mJ hi) hv;rw[nu];split
  ·rename_i e;subst e;exact .t _ _ (zx hst.wf hst.heap ks N _ tr ks v hfz (λ_ h=>h) h0)
  ·exact h0.mono st.le
 ·intro k o hk;obtain⟨h1,h2⟩:=Vw k o hk;obtain⟨h3,h4⟩:=hst.heap k o h1;exact⟨st.le.dom k h3,st.keeps hst.wf h3 (λh=>h2 h.1) h4⟩
 ·exact hst.fresh
end freeze
theorem Re.trans {C:cE}{a b c:St}(h:Re C a b)(k:Re C b c):Re C a c:=λG0 w0 G w x h0 hs hst=>by
 obtain⟨G1,hs1,iz⟩:=h G0 w0 G w x h0 hs hst;exact k G0 w0 G1 w x h0 hs1 iz
section more
variable {C:cE}{ev:aX}{f:FuncId}{H:Heap}{n t:Nat}{sp:List (Nat×TV)}{d:Option Tmp}
theorem VI {src dst e:TypeId}{ti td te:TI}{x:Operand}{s:List UInt8}(h:dM C n sp x=some (.t (.str s)))(ha:d.any (C.jD f)=false)(ht:C.P.ty src=some ti)(hd:ti.desc=.string)(ht2:C.P.ty dst=some td)(Ek:td.desc=.slice e)
 (hte:C.P.ty e=some te)(hde:te.desc=.int .u8):dS C ev f H n sp t d (.convert src dst x) (.t (.sl (s.map λb=>.int .u8 b.toNat))) []:=λ_ _ _ _=>by
 simp only[aR,evalOp,ey h,rz,bh,ht,ht2,hd,Ek,hte,hde,ha,Bool.false_eq_true,if_false]
end more
section abK
variable {C:cE}{ev:aX}{f:FuncId}{H:Heap}{n t:Nat}{sp:List (Nat×TV)}{d:Option Tmp}
end abK
end Go.Abs
end
