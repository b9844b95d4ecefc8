/- Seat r3: its interpreter, its summaries. -/
import Derived.Test.YtnfnihgmankidaaGreatDoorJ
import Derived.Test.YtnfnihgmankidaaGreatDoorK
import Derived.Test.YtnfnihgmankidaaGreatDoorL
import Derived.Test.YtnfnihgmankidaaGreatDoorShelf
import Derived.Test.YtnfnihgmankidaaGreatDoorChecked
import Derived.Tactics2
import Derived.Defers
import Derived.Recover
import Derived.Laws.Pointers
import Derived.Test.YtnfnihgmankidaaGreatDoorI
set_option linter.unusedVariables false
set_option linter.unusedSimpArgs false
namespace Go.Proofs.YtnfnihgmankidaaGreatDoor.live
open Go Go.Abs Go.RowKit
noncomputable def prg:iE:={prog:=Tryz.prog,ty:=Sg Tryz.prog,fn:=λf=>Tryz.prog.funcs[f]?,adu:=λ_ _ h=>h,P9:=λ_ _ h=>h}
noncomputable def rep (n:Nat)(x:Int):List Tree:=List.replicate n (.int .u8 x)
noncomputable def u8s (l:List Int):List Tree:=l.map (.int .u8 ·)
noncomputable def sX:List Tree:=rep 128 0xF0++rep 66 0xF1++rep 30 0x02++u8s [0x13]++rep 12 0x03++u8s [0x23]++rep 2 0x03++u8s [0x34]++rep 3 0x04++u8s [0x44]++rep 11 0xF1
noncomputable def sY:List Tree:=u8s [0x80,0xBF,0xA0,0xBF,0x80,0x9F,0x90,0xBF,0x80,0x8F]++rep 22 0
noncomputable def zO:List Tree:=rep 9 0++rep 5 1++rep 18 0++rep 1 1++rep 223 0
noncomputable def cfg (m:Int):cE:={P:=prg,iT:=λ|0=>some sX|1=>some sY|2=>some zO|3=>some [.int .i64 m]|4=>some [.int .u64 1]|_=>none,jN:=λ_ _=>false}
noncomputable def QT (m:Int):Ext:=λ|160=>some (zK 141)|105=>some (sU 5)|250=>some wj|183=>some mF|48=>some (DN (cfg m) 129)|_=>none
noncomputable def ext (m:Int):Ext:=λ|160=>some (zK 141)|105=>some (sU 5)|250=>some wj|183=>some mF|48=>some (DN (cfg m) 129)|164=>some (Bb wo)|_=>none
theorem en (f:FuncId)(fn:Func)(h:Tryz.prog.funcs[f]?=some fn)(hn:(fn.name== "runtime.NumGoroutine")=false)(c:Code)(hb:fn.body=some c)(args:Array Value)(w:World):
 (callFunc f args).run Tryz.prog w=.ok (.enter f args) w:=by
 have h1:fn.name≠ "runtime.NumGoroutine" :=by simpa using hn
 simp[callFunc,h,h1,hb,mark]
theorem XX (args:Array Value)(w:World):(callFunc 160 args).run Tryz.prog w=.ok (.enter 160 args) w:=en 160 Tryz.f160 Tryz.func160 (by kernel_rfl) _ rfl args w
theorem abj (args:Array Value)(w:World):(callFunc 105 args).run Tryz.prog w=.ok (.enter 105 args) w:=en 105 Tryz.f105 Tryz.func105 (by kernel_rfl) _ rfl args w
theorem abk (args:Array Value)(w:World):(callFunc 250 args).run Tryz.prog w=.ok (.enter 250 args) w:=en 250 Tryz.f250 Tryz.func250 (by kernel_rfl) _ rfl args w
theorem abl (args:Array Value)(w:World):(callFunc 183 args).run Tryz.prog w=.ok (.enter 183 args) w:=en 183 Tryz.f183 Tryz.func183 (by kernel_rfl) _ rfl args w
theorem abm (args:Array Value)(w:World):(callFunc 48 args).run Tryz.prog w=.ok (.enter 48 args) w:=en 48 Tryz.f48 Tryz.func48 (by kernel_rfl) _ rfl args w
set_option maxRecDepth 100000
theorem Cq (p:Addr)(pv:Value)(older:List PanicEntry)(w:World)(hc:w.cell? p=some (.bool false))(hz:w.frozen? p=false):
 CallsD Tryz.prog 91 #[.pointer (some p)] (.panicking ({v:=.iface 129 pv,recovered:=false}::older)) w λe u' w'=>
  e=.returned (.tuple #[])/\u'=.panicking ({v:=.iface 129 pv,recovered:=true}::older)/\w'=w.setCell p (.bool false):=by
 refine callsD_of_wpS Tryz.func91 rfl λc₀ cs hu=> ?_
 apply wpS_seq
 apply wpS_region
 simp[wpOpsS,go_sem,recoverD,hu,Tryz.ntmps91,Exit.thenS]
 show Code.wpS Tryz.prog _ _ {tmps:= #[Value.pointer (some p),Value.iface 129 pv,Value.iface 129 pv,undef,undef,undef,undef],defers:=[]} _ _
 refine wpS_of_wp ?_
 have hta:∀w,(Instr.typeAssert (.iface 129 pv) 20 129 false).run Tryz.prog w=.ok pv w:=by
  intro w;simp[Instr.typeAssert,run_underlying Tryz.underlying129,go_sem,Result.andThen]
 go_wp2
 exact⟨rfl,.panicking ({v:=Value.iface 129 pv,recovered:=true}::older),rfl,.tuple #[],results_none rfl _ _ _,rfl,rfl,rfl⟩
theorem MZ (p:Addr)(w:World):
 CallsD Tryz.prog 91 #[.pointer (some p)] .returning w λe u' w'=>e=.returned (.tuple #[])/\u'=.returning/\w'=w:=by
 refine callsD_of_wpS Tryz.func91 rfl λc₀ cs hu=> ?_
 apply wpS_seq
 apply wpS_region
 simp[wpOpsS,go_sem,recoverD,hu,Tryz.ntmps91,Exit.thenS]
 show Code.wpS Tryz.prog _ _ {tmps:= #[Value.pointer (some p),Value.nilIface,Value.nilIface,undef,undef,undef,undef],defers:=[]} _ _
 refine wpS_of_wp ?_
 go_wp2
 exact⟨rfl,.returning,by cases c₀;simp_all,.tuple #[],results_none rfl _ _ _,rfl,rfl,rfl⟩
theorem QU (rv:Value)(f:FuncId)(fs cs:Array Value)(w:World)(R:Ending->World->Prop)
 (Io:∀args w,(callFunc f args).run Tryz.prog w=.ok (.enter f args) w)
 (rK:Calls Tryz.prog f (fs++cs) (w.alloc (.cells #[.bool false] 4)) R)
 (hR:∀e w',R e w'->w'.cell? ⟨w.heap.size,0,none⟩=some (.bool false)/\w'.frozen? ⟨w.heap.size,0,none⟩=false/\((∃v,e=.returned v)\/∃pv,e=.panicked [{v:=.iface 129 pv,recovered:=false}])):
 Calls Tryz.prog 48 #[rv,.func (.func f) fs cs] w λe w'=>∃e' w2,R e' w2/\
  (((∃v,e'=.returned v)/\e=.returned (.bool true)/\w'=w2.setCell ⟨w.heap.size,0,none⟩ (.bool true))\/
   ((∃pv,e'=.panicked [{v:=.iface 129 pv,recovered:=false}])/\e=.returned (.bool false)/\w'=w2.setCell ⟨w.heap.size,0,none⟩ (.bool false))):=by
 have hmf:∀(fn:Fn) (first cap:Array Value) (w:World),(Instr.makeFunc fn first cap).run Tryz.prog w=.ok (.func fn first cap) w:=λ_ _ _ _=>rfl
 go_enter_defers Tryz.func48,Tryz.ntmps48
 go_wp2
 refine rK.mono ?_
 intro e w2 hr
 obtain⟨hc,hz,he⟩:=hR _ _ hr
 rcases he with ⟨v,rfl⟩|⟨pv,rfl⟩
 ·simp only[];go_at_K;go_wp2;refine leaves_cons (f:=91) (args:= #[.pointer (some ⟨w.heap.size,0,none⟩)]) (by simp) (by simp[go_sem]) ?_;refine(MZ _ _).mono ?_;rintro e u' w'' ⟨rfl,rfl,rfl⟩;refine⟨.bool true, ?_,_,w2,hr,.inl ⟨⟨v,rfl⟩,rfl,rfl⟩⟩;have hc':(w2.setCell ⟨w.heap.size,0,none⟩ (.bool true)).cell? ⟨w.heap.size,0,none⟩=some (.bool true):=World.cell?_setCell_same _ _ _ hc;simp[results,Tryz.f48,Sem.run_bind,go_sem,hc']
 ·simp only[];refine leaves_cons (f:=91) (args:= #[.pointer (some ⟨w.heap.size,0,none⟩)]) (by simp) (by simp[go_sem]) ?_;refine(Cq _ pv [] _ hc hz).mono ?_;rintro e u' w'' ⟨rfl,rfl,rfl⟩;refine⟨.bool false, ?_,_,w2,hr,.inr ⟨⟨pv,rfl⟩,rfl,rfl⟩⟩;have hc':(w2.setCell ⟨w.heap.size,0,none⟩ (.bool false)).cell? ⟨w.heap.size,0,none⟩=some (.bool false):=World.cell?_setCell_same _ _ _ hc;simp[results,Tryz.f48,Sem.run_bind,go_sem,hc']
theorem adX (m:Int):gu (cfg m) 105 (sU 5):=
 Iq (C:=cfg m) abj (λb w h=>KD Tryz.lays169 Tryz.Builder_Extra_169 b w h)
  (λb a cap cells l w h1 h2 h3 h4 h5 h6 h7=>KF Tryz.lays169 Tryz.Builder_Extra_169 b a cap cells l w h1 h2 h3 h4 h5 h6 h7)
theorem TK:(Tryz.prog.info? 141).map (·.size)=some 2:=by kernel_rfl
theorem QV (b:Nat)(w:World)(h0:w.cell? ⟨b,0,none⟩=some (.pointer (some ⟨b,0,none⟩))):
 Calls Tryz.prog 160 #[.pointer (some ⟨b,0,none⟩)] w λe w'=>e=.returned (.tuple #[])/\w'=w:=by
 obtain⟨j,hj,_⟩:=Option.map_eq_some_iff.1 TK
 go_enter Tryz.func160,Tryz.ntmps160
 go_wp2
 rw[Lib.run_neq_ptr_same w _ Tryz.underlying138 hj]
 go_wp2
 go_end0
 exact⟨rfl,rfl⟩
theorem M0 (b:Nat)(w:World)(h0:w.cell? ⟨b,0,none⟩=some (.pointer none))(hsh:w.shape? b=some (141,2))(hfz:w.frozen? ⟨b,0,none⟩=false):
 Calls Tryz.prog 160 #[.pointer (some ⟨b,0,none⟩)] w λe w'=>e=.returned (.tuple #[])/\w'=w.setCell ⟨b,0,none⟩ (.pointer (some ⟨b,0,none⟩)):=by
 obtain⟨j,hj,hjs⟩:=Option.map_eq_some_iff.1 TK
 go_enter Tryz.func160,Tryz.ntmps160
 go_wp2
 rw[Lib.run_to_unsafe w ⟨b,0,none⟩ Tryz.underlying138 Tryz.underlying236 hj (by rw[hjs];decide) hsh (Nat.zero_lt_succ 1)]
 simp only[Result.andThen]
 rw[Oper.upon_value]
 go_wp2
 rw[run_callFunc_extern Tryz.func203 (by kernel_rfl) (by kernel_rfl) (by kernel_rfl) (e:=Extern.AbiNoEscape.same) (by kernel_rfl)]
 rw[Lib.run_noEscape]
 simp only[Result.andThen]
 rw[Oper.upon_value]
 go_wp2
 rw[Lib.run_from_unsafe w ⟨b,0,none⟩ Tryz.underlying236 Tryz.underlying138 hj hsh (by kernel_rfl)]
 simp only[Result.andThen]
 rw[Oper.upon_value]
 go_wp2
 go_end0
 exact⟨rfl,rfl⟩
theorem TL (m:Int):gu (cfg m) 160 (zK 141):=
 MY (C:=cfg m) XX (λb w h1 h2 h3=>M0 b w h1 h2 h3)
  (λb w h=>QV b w h)
theorem KG (m:Int):gu (cfg m) 250 wj:=
 Kz (C:=cfg m) (gm:=3) (m:=m) rfl abk (λs sub m w h1 h2=>Tryz.stringslite_Index s sub m w h1 h2)
theorem zP (m:Int):gu (cfg m) 183 mF:=
 Cp (C:=cfg m) abl (λs c w=>Tryz.stringslite_IndexByte s c w)
theorem aae (m:Int):gu (cfg m) 48 (DN (cfg m) 129):=
 QO (C:=cfg m) (tb:=4) abm (λrv f fs cs w R h1 h2 h3=>QU rv f fs cs w R h1 h2 h3)
theorem XY (m:Int):BR (cfg m) (QT m):=sV (by
 intro g s h;unfold QT at h;split at h<;>first
  |(obtain rfl:=Option.some.inj h;first|exact TL m|exact adX m|exact KG m|exact zP m|exact aae m)
  |cases h)
theorem ai (m:Int):(cfg m).P.prog.follows .mixedOrders=true:=by
 show Tryz.prog.follows .mixedOrders=true;kernel_rfl
end Go.Proofs.YtnfnihgmankidaaGreatDoor.live
noncomputable section
namespace Go.Abs
open Go
variable {C:cE}{R:Type}
abbrev AX (C:cE)(c:Code)(st:St)(Q:R->aK->St->Prop):Prop:=∃r,AW C c st (Q r)
abbrev aG (C:cE)(ops:Array Oper)(l:List Oper)(st:St)(Q:R->aK->St->Prop):Prop:=∃r,dP C ops l st (Q r)
abbrev aQ (C:cE)(ev:aW)(f:FuncId)(ops:Array Oper)(bs:List Nat)(t0 i:Nat)(l:List Oper)(n:Nat)(sp:List (Nat×TV))(H:Heap)(K:R->List Rec->List (Nat×TV)->Heap->Prop):Prop:=
 ∃r,vH C ev f ops bs t0 i l n sp H (K r)
section code
variable {st:St}{Q:R->aK->St->Prop}
theorem AX.re {c:Code}{st':St}(hr:Re C st st')(h:AX C c st' Q):AX C c st Q:=h.imp λ_ h=>AW.re hr h
theorem AX.skip (hq:∃r,Q r .normal st):AX C .skip st Q:=hq.imp λ_ h=>AW.skip h
theorem AX.label {l}(hq:∃r,Q r .normal st):AX C (.label l) st Q:=hq.imp λ_ h=>AW.label h
theorem AX.exit {id:Nat}(hq:∃r,Q r (.exit id) st):AX C (.exit id) st Q:=hq.imp λ_ h=>AW.exit h
theorem AX.ret (hq:∃r,Q r .ret st):AX C .ret st Q:=hq.imp λ_ h=>AW.ret h
theorem AX.seq {x y:Code}(h:AX C x st λr=>XP C y (Q r)):AX C (.seq x y) st Q:=h.imp λ_ h=>AW.seq h
theorem AX.block {id:Nat}{c:Code}(h:AX C c st λr=>Out id (Q r)):AX C (.block id c) st Q:=h.imp λ_ h=>AW.block h
theorem AX.cond {c:Operand}{x y:Code}{b:Bool}(hc:cg C st.slots c=some (.t (.bool b)))(h1:b=true->AX C x st Q)(h2:b=false->AX C y st Q):AX C (.cond c x y) st Q:=by
 cases b with
 |true=>exact(h1 rfl).imp λ_ h=>AW.cond hc (λ_=>h) λe=>by cases e
 |false=>exact(h2 rfl).imp λ_ h=>AW.cond hc (λe=>by cases e) λ_=>h
theorem AX.region {id:Nat}{ops:Array Oper}(h:aG C ops ops.toList st Q):AX C (.region id ops false) st Q:=h.imp λ_ h=>AW.region h
def Leave (Q:aK->St->Prop):aK->St->Prop
 |.normal,_=>False
 |e,s=>Q e s
def uy {α:Type}(C:cE)(st:α->St)(P:α->Prop)(Q:R->aK->St->Prop):{y:α // P y}⊕ R->aK->St->Prop
 |.inl y=>λe s=>e=.normal/\Re C s (st y.1)
 |.inr r=>Leave (Q r)
theorem AX.leave {α:Type}{C:cE}{st:α->St}{P:α->Prop}{s:St}{e:aK}(he:e≠ .normal)(h:∃r,Q r e s):∃o,uy C st P Q o e s:=by
 obtain⟨r,h⟩:=h;refine⟨.inr r, ?_⟩;cases e with
 |normal=>exact absurd rfl he
 |exit i=>exact h
 |ret=>exact h
 |panic v=>exact h
inductive KH {α:Type}(C:cE)(st:α->St)(ok:α->Prop)(μ:α->Nat)(body:Code)(Q:R->aK->St->Prop):α->R->Prop
 |more {x y r} (hy:ok y) (hlt:μ y<μ x) (h:AW C body (st x) (λe s=>e=.normal/\Re C s (st y))) (k:KH C st ok μ body Q y r):KH C st ok μ body Q x r
 |last {x r} (h:AW C body (st x) (Leave (Q r))):KH C st ok μ body Q x r
theorem AX.loop {α:Type}(st:α->St)(ok:α->Prop)(μ:α->Nat){body:Code}(x0:α){s0:St}(hr:Re C s0 (st x0))(h0:ok x0)
 (h:∀x,ok x->AX C body (st x) (uy C st (λy=>ok y/\μ y<μ x) Q)):AX C (.loop body) s0 Q:=by
 have all:∀m x,μ x<m->ok x->∃r,KH C st ok μ body Q x r:=by
  intro m;induction m with
  |zero=>intro x hx;omega
  | succ m ih=>
   intro x hx hok
   obtain⟨o,ho⟩:=h x hok
   cases o with
   |inl y=>
    obtain⟨r,hr⟩:=ih y.1 (by have:=y.2.2;omega) y.2.1
    exact⟨r,.more y.2.1 y.2.2 ho hr⟩
   |inr r=>exact⟨r,.last ho⟩
 obtain⟨r,hl⟩:=all (μ x0+1) x0 (Nat.lt_succ_self _) h0
 refine⟨r,AW.loop st (λx=>ok x/\KH C st ok μ body Q x r) μ x0 hr ⟨h0,hl⟩ ?_⟩
 rintro x ⟨hok,hx⟩
 cases hx with
 |more hy hlt hb k=>
  refine AW.mono hb ?_
  rintro e s ⟨rfl,FE⟩
  exact⟨_,⟨hy,k⟩,hlt,FE⟩
 |last hb=>
  refine AW.mono hb ?_
  intro e s hq
  cases e with
  |normal=>exact hq.elim
  |exit i=>exact hq
  |ret=>exact hq
  |panic v=>exact hq
end code
section ops
variable {ev:aW}{f:FuncId}{ops:Array Oper}{r:List Oper}{n t:Nat}{sp:List (Nat×TV)}{H:Heap}{Q:R->aK->St->Prop}
theorem aG.nil {st:St}(hq:∃r,Q r .normal st):aG C ops [] st Q:=hq.imp λ_ h=>dP.nil h
theorem aG.go {d:Tmp}{op:Op}{ty pos af}{v:TV}{u:Heap}(aC:aI C ev)(h:dJ C ev f H n sp t (some d) op v u)(k:aG C ops r ⟨ei n ((d,v)::sp),H.dX u,t+1⟩ Q):
 aG C ops (⟨some d,op,ty,pos,af,none⟩::r) ⟨ei n sp,H,t⟩ Q:=k.imp λ_ k=>dP.go aC h k
theorem aG.Ml {op:Op}{ty pos af}{v:TV}{u:Heap}(aC:aI C ev)(h:dJ C ev f H n sp t none op v u)(k:aG C ops r ⟨ei n sp,H.dX u,t+1⟩ Q):
 aG C ops (⟨none,op,ty,pos,af,none⟩::r) ⟨ei n sp,H,t⟩ Q:=k.imp λ_ k=>dP.Ml aC h k
end ops
section drawn
variable {ev:aW}{f:FuncId}{ops:Array Oper}{bs:List Nat}{t0 i n:Nat}{r:List Oper}{sp:List (Nat×TV)}{H:Heap}{K:R->List Rec->List (Nat×TV)->Heap->Prop}
theorem aQ.nil (h:∃r,K r [] sp H):aQ C ev f ops bs t0 i [] n sp H K:=h.imp λ_ h=>vH.nil h
theorem aQ.go {d:Tmp}{op:Op}{ty pos af}{fp:List Nm}{v:TV}{u:Heap}(ON:Mr C H (ei n sp) ⟨some d,op,ty,pos,af,none⟩=some fp)(h:dJ C ev f (lW H fp) n sp (t0+i) (some d) op v u)
 (k:aQ C ev f ops bs t0 (i+1) r n ((d,v)::sp) (H.dX u) λq rs sp' H'=>K q (⟨fp,.val v u⟩::rs) sp' H'):aQ C ev f ops bs t0 i (⟨some d,op,ty,pos,af,none⟩::r) n sp H K:=k.imp λ_ k=>vH.go ON h k
theorem aQ.Ml {op:Op}{ty pos af}{fp:List Nm}{v:TV}{u:Heap}(ON:Mr C H (ei n sp) ⟨none,op,ty,pos,af,none⟩=some fp)(h:dJ C ev f (lW H fp) n sp (t0+i) none op v u)
 (k:aQ C ev f ops bs t0 (i+1) r n sp (H.dX u) λq rs sp' H'=>K q (⟨fp,.val v u⟩::rs) sp' H'):aQ C ev f ops bs t0 i (⟨none,op,ty,pos,af,none⟩::r) n sp H K:=k.imp λ_ k=>vH.Ml ON h k
theorem aQ.yes {d:Tmp}{op:Op}{ty pos af}{j gd:Nat}{w b:Bool}{fp:List Nm}{v:TV}{u:Heap}(hj:(ops[j]?).bind (·.dst)=some gd)(hn:Nat.blt gd n=true)(hl:look sp gd=.t (.bool b))(hb:(b==w)=true)
 (ON:Mr C H (ei n sp) ⟨some d,op,ty,pos,af,some (j,w)⟩=some fp)(h:dJ C ev f (lW H fp) n sp (t0+i) (some d) op v u)
 (k:aQ C ev f ops bs t0 (i+1) r n ((d,v)::sp) (H.dX u) λq rs sp' H'=>K q (⟨fp,.val v u⟩::rs) sp' H'):aQ C ev f ops bs t0 i (⟨some d,op,ty,pos,af,some (j,w)⟩::r) n sp H K:=k.imp λ_ k=>vH.yes hj hn hl hb ON h k
theorem aQ.no {d:Tmp}{op:Op}{ty pos af}{j gd:Nat}{w b:Bool}(hj:(ops[j]?).bind (·.dst)=some gd)(hn:Nat.blt gd n=true)(hl:look sp gd=.t (.bool b))(hb:(b==w)=false)
 (k:aQ C ev f ops bs t0 (i+1) r n ((d,bS)::sp) H λq rs sp' H'=>K q (⟨[],.unwanted⟩::rs) sp' H'):aQ C ev f ops bs t0 i (⟨some d,op,ty,pos,af,some (j,w)⟩::r) n sp H K:=k.imp λ_ k=>vH.no hj hn hl hb k
theorem aQ.none {d:Tmp}{op:Op}{ty pos af}{j gd:Nat}{w:Bool}(hj:(ops[j]?).bind (·.dst)=some gd)(hn:Nat.blt gd n=true)(hl:look sp gd=bS)
 (k:aQ C ev f ops bs t0 (i+1) r n ((d,bS)::sp) H λq rs sp' H'=>K q (⟨[],.unwanted⟩::rs) sp' H'):aQ C ev f ops bs t0 i (⟨some d,op,ty,pos,af,some (j,w)⟩::r) n sp H K:=k.imp λ_ k=>vH.none hj hn hl k
end drawn
theorem eT {a b:Prop}{c:R->Prop}(ha:a)(hb:b)(h:∃r,c r):∃r,a/\b/\c r:=h.imp λ_ h=>⟨ha,hb,h⟩
theorem AX.draw {ev:aW}{f:FuncId}{id:Nat}{ops:Array Oper}{n t:Nat}{sp:List (Nat×TV)}{H:Heap}{Q:R->aK->St->Prop}(hm:C.P.prog.follows .mixedOrders=true)(aC:aI C ev)
 (h:aQ C ev f ops (jH ops.toList []) t 0 ops.toList n sp H λr recs sp' H'=>jx ops ops.toList recs (jH ops.toList []) ops.toList recs 0=true/\qv 0 ops.toList=true/\Q r .normal ⟨ei n sp',H',t+ops.size⟩):
 AX C (.region id ops true) ⟨ei n sp,H,t⟩ Q:=h.imp λ_ h=>AW.draw hm aC h
section ends
variable {st:St}{Q:R->aK->St->Prop}
theorem AX.bR {y:Code}(h:∃r,Q r .ret st):∃r,XP C y (Q r) .ret st:=h
theorem AX.jw {y:Code}{i:Nat}(h:∃r,Q r (.exit i) st):∃r,XP C y (Q r) (.exit i) st:=h
theorem AX.bL {id:Nat}(h:∃r,Q r .ret st):∃r,Out id (Q r) .ret st:=h
theorem AX.jA {id:Nat}(h:∃r,Q r .normal st):∃r,Out id (Q r) .normal st:=h
theorem AX.k5 {id:Nat}(h:∃r,Q r .normal st):∃r,Out id (Q r) (.exit id) st:=h.imp λ_ h=>by simp only[Out,if_true];exact h
end ends
theorem eE {b:Bool}(h:b=true):(b==true)=true:=by subst h;rfl
theorem br {b:Bool}(h:b=false):(b==false)=true:=by subst h;rfl
theorem eG {b:Bool}(h:b=false):(b==true)=false:=by subst h;rfl
theorem aH {b:Bool}(h:b=true):(b==false)=false:=by subst h;rfl
section split
variable {ev:aW}{f:FuncId}{ops:Array Oper}{bs:List Nat}{t0 i n t:Nat}{r:List Oper}{l:List Oper}{sp:List (Nat×TV)}{H:Heap}
theorem aQ.split {K:R->List Rec->List (Nat×TV)->Heap->Prop}(gd:Nat){b:Bool}(hl:look sp gd=.t (.bool b))(h1:b=true->aQ C ev f ops bs t0 i l n sp H K)(h2:b=false->aQ C ev f ops bs t0 i l n sp H K):aQ C ev f ops bs t0 i l n sp H K:=by
 cases b with
 |true=>exact h1 rfl
 |false=>exact h2 rfl
variable {Q:R->aK->St->Prop}
theorem aG.split (gd:Nat){b:Bool}(hl:look sp gd=.t (.bool b))(h1:b=true->aG C ops l ⟨ei n sp,H,t⟩ Q)(h2:b=false->aG C ops l ⟨ei n sp,H,t⟩ Q):aG C ops l ⟨ei n sp,H,t⟩ Q:=by
 cases b with
 |true=>exact h1 rfl
 |false=>exact h2 rfl
theorem aG.yes {d:Tmp}{op:Op}{ty pos af}{j gd:Nat}{w b:Bool}{v:TV}{u:Heap}(aC:aI C ev)(hj:(ops[j]?).bind (·.dst)=some gd)(hn:Nat.blt gd n=true)(hl:look sp gd=.t (.bool b))(hb:(b==w)=true)
 (h:dJ C ev f H n sp t (some d) op v u)(k:aG C ops r ⟨ei n ((d,v)::sp),H.dX u,t+1⟩ Q):aG C ops (⟨some d,op,ty,pos,af,some (j,w)⟩::r) ⟨ei n sp,H,t⟩ Q:=by
 refine k.imp λ_ k=>dP.step aC (by rw[lC rfl hj hn,hl];simp only[hb]) (h _ _ _ _) ?_
 rw[fh]
 exact k
theorem aG.no {d:Tmp}{op:Op}{ty pos af}{j gd:Nat}{w b:Bool}(hj:(ops[j]?).bind (·.dst)=some gd)(hn:Nat.blt gd n=true)(hl:look sp gd=.t (.bool b))(hb:(b==w)=false)
 (k:aG C ops r ⟨ei n ((d,bS)::sp),H,t+1⟩ Q):aG C ops (⟨some d,op,ty,pos,af,some (j,w)⟩::r) ⟨ei n sp,H,t⟩ Q:=by
 refine k.imp λ_ k=>dP.unwanted (by rw[lC rfl hj hn,hl];simp only[hb]) ?_
 rw[fh]
 exact k
theorem aG.none {d:Tmp}{op:Op}{ty pos af}{j gd:Nat}{w:Bool}(hj:(ops[j]?).bind (·.dst)=some gd)(hn:Nat.blt gd n=true)(hl:look sp gd=bS)
 (k:aG C ops r ⟨ei n ((d,bS)::sp),H,t+1⟩ Q):aG C ops (⟨some d,op,ty,pos,af,some (j,w)⟩::r) ⟨ei n sp,H,t⟩ Q:=by
 refine k.imp λ_ k=>dP.unwanted (by rw[lC rfl hj hn,hl];rfl) ?_
 rw[fh]
 exact k
theorem AX.ng {st:St}{c:Operand}{x y:Code}{b:Bool}(hc:cg C st.slots c=some (.t (.bool b)))(hb:b=true)(h:AX C x st Q):AX C (.cond c x y) st Q:=AX.cond hc (λ_=>h) (λe=>by rw[hb] at e;cases e)
theorem AX.ov {st:St}{c:Operand}{x y:Code}{b:Bool}(hc:cg C st.slots c=some (.t (.bool b)))(hb:b=false)(h:AX C y st Q):AX C (.cond c x y) st Q:=AX.cond hc (λe=>by rw[hb] at e;cases e) (λ_=>h)
variable {d:Option Tmp}
theorem bq {c x y:Operand}{b:Bool}{u v:TV}(hc:dn C n sp c=some (.t (.bool b)))(hb:b=true)(hx:dn C n sp x=some u)(hy:dn C n sp y=some v):dJ C ev f H n sp t d (.pick c x y) u []:=by
 subst hb;exact Te hc hx hy
theorem cZ {c x y:Operand}{b:Bool}{u v:TV}(hc:dn C n sp c=some (.t (.bool b)))(hb:b=false)(hx:dn C n sp x=some u)(hy:dn C n sp y=some v):dJ C ev f H n sp t d (.pick c x y) v []:=by
 subst hb;exact Te hc hx hy
theorem qC {ty:TypeId}{ti:TI}{x lo:Operand}{s:List UInt8}{m:Nat}(h:dn C n sp x=some (.t (.str s)))(hi:dn C n sp lo=some (.t (.int .i64 (m:Int))))(ht:C.P.ty ty=some ti)(hd:ti.desc=.string)(hm:m<=s.length):
 dJ C ev f H n sp t d (.slice ty x (some lo) none none) (.t (.str (s.drop m))) []:=λ_ _ _ _=>by
 have h1:ez (some (.t (.int .i64 (m:Int)))) 0=some m:=by simp[ez,fA]
 have h2:ez none s.length=some s.length:=rfl
 have h3:vK C (ei n sp) (some lo)=some (some (.t (.int .i64 (m:Int)))):=by simp[vK,dO hi]
 have h4:vK C (ei n sp) none=some none:=rfl
 simp only[aT,evalOp,dO h,h3,h4,Hq,qq,bf,ht,hd,h1,h2,hm,Nat.le_refl,and_self,if_true,List.take_length]
 rfl
theorem nx {src dst:TypeId}{x:Operand}{a v:TV}(h:dn C n sp x=some a)(hv:∀jN nm H,sG C.P jN nm H src dst a=some (v,[])):dJ C ev f H n sp t d (.convert src dst x) v []:=λ_ _ _ _=>by
 simp only[aT,evalOp,dO h,hv]
theorem O0 {fo:Operand}{g:FuncId}{args:Array Operand}{ats:Array TypeId}{ts:List Tree}{x:Tree}(hf:dn C n sp fo=some (.t (.fn (.func g))))(h:qB C n sp args.toList=some (ts.map .t))(he:ev g (ts.map .t) []=some (.ret (.t x) [] []))(hk:C.jN f (d.getD 255)=false:=by rfl):
 dJ C ev f H n sp t d (.call ⟨.value fo,args,ats⟩) (.t x) []:=
 MS (by simp only[lV,dO hf,DF h]) (BU he) hk
theorem ny {ty elem len:Nat}{ti te:TI}{x i:Operand}{cs:List Tree}{off m:Nat}{k:IntKind}(h:dn C n sp x=some (.jt cs off))(hi:dn C n sp i=some (.t (.int k (m:Int))))(ht:C.P.ty ty=some ti)(hd:ti.desc=.array len elem)
 (hte:C.P.ty elem=some te)(hm:m<len):dJ C ev f H n sp t d (.indexAddr ty x i) (.jt cs (off+m*te.size)) []:=
 BS h hi (by
  have h1:fA (.t (.int k (m:Int)))=some m:=by simp[fA]
  simp only[dI,bf,ht,h1,hd,hte,hm,if_true,qo])
theorem TM {cs:List Tree}{off:Nat}{c:Tree}(h:cs[off]?=some c):partT false 1 (cs.map .t) off=some (.t c):=by
 simp[partT,h]
end split
theorem AX.start {f:FuncId}{fn:Func}{body:Code}{args:List TV}{aU:List aO}{res:R->bk}(n k:Nat)(A8:C.P.fn f=some fn)(hbody:fn.body=some body)(hname:fn.name≠ "runtime.NumGoroutine")
 (hn:fn.ntmps=n)(ha:args.length=k)(hk:k<=n)(h:AX C body ⟨ei n (yK 0 args),bX 0 aU,0⟩ (λr=>Ks C fn aU.length (res r))):∃r,aq C f args aU (res r):=
 h.imp λ_ h=>jy n k A8 hbody hname hn ha hk h
section freeze
variable {C:cE}
theorem Re.freeze {n d N:Nat}{sp:List (Nat×TV)}{H H':Heap}{t:Nat}{tr:Tree}{ks:List Nm}(hfz:pQ H N (look sp d)=some (tr,ks))(hH':∀k o,H'.get k=some o->H.get k=some o/\k∉ks)(hdn:d<n):
 Re C ⟨ei n sp,H,t⟩ ⟨ei n ((d,.t tr)::sp),H',t⟩:=by
 intro G0 w0 G w a h0 hs hst
 have st:=iu hst.wf hst.heap ks
 refine⟨G.frozen w H ks,(hs.trans st).mono (λ_ _ _=>trivial) (λk h=>h.elim id False.elim),st.wf,hst.iT.mono st.le, ?_, ?_, ?_⟩
 ·have hl:=hst.slots;refine⟨by have:=hl.1;simpa [eS] using this,λi c v hc hv=> ?_⟩;have hi:i<n:=by have:=(List.getElem?_eq_some_iff.1 hc).1;simpa [eS] using this
  rw[mB hi,Option.some.injEq] at hc;subst hc;have h0:=hl.2 i (look sp i) v (mB hi) hv;rw[nu];split
  ·rename_i e;subst e;exact .t _ _ (AY hst.wf hst.heap ks N _ tr ks v hfz (λ_ h=>h) h0)
  ·exact h0.mono st.le
 ·intro k o hk;obtain⟨h1,h2⟩:=hH' k o hk;obtain⟨h3,h4⟩:=hst.heap k o h1;exact⟨st.le.dom k h3,st.keeps hst.wf h3 (λh=>h2 h.1) h4⟩
 ·exact hst.fresh
end freeze
theorem Re.trans {C:cE}{a b c:St}(h:Re C a b)(k:Re C b c):Re C a c:=λG0 w0 G w x h0 hs hst=>by
 obtain⟨G1,hs1,j5⟩:=h G0 w0 G w x h0 hs hst;exact k G0 w0 G1 w x h0 hs1 j5
section more
variable {C:cE}{ev:aW}{f:FuncId}{H:Heap}{n t:Nat}{sp:List (Nat×TV)}{d:Option Tmp}
theorem XZ {src dst e:TypeId}{ti td te:TI}{x:Operand}{s:List UInt8}(h:dn C n sp x=some (.t (.str s)))(ha:d.any (C.jN f)=false)(ht:C.P.ty src=some ti)(hd:ti.desc=.string)(ht2:C.P.ty dst=some td)(hd2:td.desc=.slice e)
 (hte:C.P.ty e=some te)(hde:te.desc=.int .u8):dJ C ev f H n sp t d (.convert src dst x) (.t (.sl (s.map λb=>.int .u8 b.toNat))) []:=λ_ _ _ _=>by
 simp only[aT,evalOp,dO h,sG,bf,ht,ht2,hd,hd2,hte,hde,ha,Bool.false_eq_true,if_false]
end more
section adY
variable {C:cE}{ev:aW}{f:FuncId}{H:Heap}{n t:Nat}{sp:List (Nat×TV)}{d:Option Tmp}
end adY
end Go.Abs
end
