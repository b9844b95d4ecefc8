/- Seat r3: its interpreter, its summaries. -/
import Derived.Test.YtijfhoelihclbaaGreatDoorJ
import Derived.Test.YtijfhoelihclbaaGreatDoorK
import Derived.Test.YtijfhoelihclbaaGreatDoorL
import Derived.Test.YtijfhoelihclbaaGreatDoorShelf
import Derived.Test.YtijfhoelihclbaaGreatDoorChecked
import Derived.Tactics2
import Derived.Defers
import Derived.Recover
import Derived.Laws.Pointers
import Derived.Test.YtijfhoelihclbaaGreatDoorI
namespace Go.Proofs.YtijfhoelihclbaaGreatDoor.live
open Go Go.Abs Go.RowKit
noncomputable def prg:lI:={prog:=Tryz.prog,ty:=RO Tryz.prog,fn:=fun f=>Tryz.prog.funcs[f]?,aey:=fun _ _ h=>h,RP:=fun _ _ h=>h}
noncomputable def rep (n:Nat)(x:Int):List Tree:=List.replicate n (.int .u8 x)
noncomputable def u8s (l:List Int):List Tree:=l.map (.int .u8 ·)
noncomputable def sH:List Tree:=rep 128 0xF0++rep 66 0xF1++rep 30 0x02++u8s [0x13]++rep 12 0x03++u8s [0x23]++rep 2 0x03++u8s [0x34]++rep 3 0x04++u8s [0x44]++rep 11 0xF1
noncomputable def sI:List Tree:=u8s [0x80,0xBF,0xA0,0xBF,0x80,0x9F,0x90,0xBF,0x80,0x8F]++rep 22 0
noncomputable def za:List Tree:=rep 9 0++rep 5 1++rep 18 0++rep 1 1++rep 223 0
noncomputable def cfg (m:Int):dI:={P:=prg,jA:=fun|0=>some sH|1=>some sI|2=>some za|4=>some [.int .i64 m]|_=>none,qb:=fun _ _=>false}
noncomputable def kq (m:Int):Ext:=fun|203=>some (yY 251)|188=>some (sF 5)|199=>some vz|185=>some mF|88=>some (DA (cfg m) 184)|_=>none
noncomputable def ext (m:Int):Ext:=fun|203=>some (yY 251)|188=>some (sF 5)|199=>some vz|185=>some mF|88=>some (DA (cfg m) 184)|70=>some (nG ou)|_=>none
theorem en (f:FuncId)(fn:Func)(h:Tryz.prog.funcs[f]?=some fn)(hn:(fn.name== "runtime.NumGoroutine")=false)(c:Code)(hb:fn.body=some c)(args:Array Value)(w:World):
  (callFunc f args).run Tryz.prog w=.ok (.enter f args) w:=by
 have h1:fn.name≠ "runtime.NumGoroutine" :=by simpa using hn
 simp[callFunc,h,h1,hb,mark]
theorem X1 (args:Array Value)(w:World):(callFunc 203 args).run Tryz.prog w=.ok (.enter 203 args) w:=en 203 Tryz.f203 Tryz.func203 (by kernel_rfl) _ rfl args w
theorem abA (args:Array Value)(w:World):(callFunc 188 args).run Tryz.prog w=.ok (.enter 188 args) w:=en 188 Tryz.f188 Tryz.func188 (by kernel_rfl) _ rfl args w
theorem abB (args:Array Value)(w:World):(callFunc 199 args).run Tryz.prog w=.ok (.enter 199 args) w:=en 199 Tryz.f199 Tryz.func199 (by kernel_rfl) _ rfl args w
theorem abC (args:Array Value)(w:World):(callFunc 185 args).run Tryz.prog w=.ok (.enter 185 args) w:=en 185 Tryz.f185 Tryz.func185 (by kernel_rfl) _ rfl args w
theorem abD (args:Array Value)(w:World):(callFunc 88 args).run Tryz.prog w=.ok (.enter 88 args) w:=en 88 Tryz.f88 Tryz.func88 (by kernel_rfl) _ rfl args w
set_option maxRecDepth 100000
theorem Ca (p:Addr)(pv:Value)(older:List PanicEntry)(w:World)(hc:w.cell? p=some (.bool false))(hz:w.frozen? p=false):
  CallsD Tryz.prog 120 #[.pointer (some p)] (.panicking ({v:=.iface 184 pv,recovered:=false}::older)) w fun e u' w'=>
   e=.returned (.tuple #[])∧u'=.panicking ({v:=.iface 184 pv,recovered:=true}::older)∧w'=w.setCell p (.bool false):=by
 refine callsD_of_wpS Tryz.func120 rfl fun c₀ cs hu=> ?_
 apply wpS_seq
 apply wpS_region
 simp[wpOpsS,go_sem,recoverD,hu,Tryz.ntmps120,Exit.thenS]
 show Code.wpS Tryz.prog _ _ {tmps:= #[Value.pointer (some p),Value.iface 184 pv,Value.iface 184 pv,undef,undef,undef,undef],defers:=[]} _ _
 refine wpS_of_wp ?_
 have hta:∀w,(Instr.typeAssert (.iface 184 pv) 20 184 false).run Tryz.prog w=.ok pv w:=by
  intro w
  simp[Instr.typeAssert,run_underlying Tryz.underlying184,go_sem,Result.andThen]
 go_wp2
 exact⟨rfl,.panicking ({v:=Value.iface 184 pv,recovered:=true}::older),rfl,.tuple #[],results_none rfl _ _ _,rfl,rfl,rfl⟩
theorem Mz (p:Addr)(w:World):
  CallsD Tryz.prog 120 #[.pointer (some p)] .returning w fun e u' w'=>e=.returned (.tuple #[])∧u'=.returning∧w'=w:=by
 refine callsD_of_wpS Tryz.func120 rfl fun c₀ cs hu=> ?_
 apply wpS_seq
 apply wpS_region
 simp[wpOpsS,go_sem,recoverD,hu,Tryz.ntmps120,Exit.thenS]
 show Code.wpS Tryz.prog _ _ {tmps:= #[Value.pointer (some p),Value.nilIface,Value.nilIface,undef,undef,undef,undef],defers:=[]} _ _
 refine wpS_of_wp ?_
 go_wp2
 exact⟨rfl,.returning,by cases c₀;simp_all,.tuple #[],results_none rfl _ _ _,rfl,rfl,rfl⟩
theorem QC (rv:Value)(f:FuncId)(fs cs:Array Value)(w:World)(R:Ending→World→Prop)
    (Mx:∀args w,(callFunc f args).run Tryz.prog w=.ok (.enter f args) w)
    (BN:Calls Tryz.prog f (fs++cs) (w.alloc (.cells #[.bool false] 4)) R)
    (hR:∀e w',R e w'→w'.cell? ⟨w.heap.size,0,none⟩=some (.bool false)∧w'.frozen? ⟨w.heap.size,0,none⟩=false∧((∃v,e=.returned v)∨∃pv,e=.panicked [{v:=.iface 184 pv,recovered:=false}])):
    Calls Tryz.prog 88 #[rv,.func (.func f) fs cs] w fun e w'=>∃e' w2,R e' w2∧
      (((∃v,e'=.returned v)∧e=.returned (.bool true)∧w'=w2.setCell ⟨w.heap.size,0,none⟩ (.bool true))∨
       ((∃pv,e'=.panicked [{v:=.iface 184 pv,recovered:=false}])∧e=.returned (.bool false)∧w'=w2.setCell ⟨w.heap.size,0,none⟩ (.bool false))):=by
  have hmf:∀(fn:Fn) (first cap:Array Value) (w:World),(Instr.makeFunc fn first cap).run Tryz.prog w=.ok (.func fn first cap) w:=fun _ _ _ _=>rfl
  go_enter_defers Tryz.func88,Tryz.ntmps88
  go_wp2
  refine BN.mono ?_
  intro e w2 hr
  obtain⟨hc,hz,he⟩:=hR _ _ hr
  rcases he with ⟨v,rfl⟩|⟨pv,rfl⟩
  · simp only[]
    go_at_K
    go_wp2
    refine leaves_cons (f:=120) (args:= #[.pointer (some ⟨w.heap.size,0,none⟩)]) (by simp) (by simp[go_sem]) ?_
    refine(Mz _ _).mono ?_
    rintro e u' w'' ⟨rfl,rfl,rfl⟩
    refine⟨.bool true, ?_,_,w2,hr,.inl ⟨⟨v,rfl⟩,rfl,rfl⟩⟩
    have hc':(w2.setCell ⟨w.heap.size,0,none⟩ (.bool true)).cell? ⟨w.heap.size,0,none⟩=some (.bool true):=World.cell?_setCell_same _ _ _ hc
    simp[results,Tryz.f88,Sem.run_bind,go_sem,hc']
  · simp only[]
    refine leaves_cons (f:=120) (args:= #[.pointer (some ⟨w.heap.size,0,none⟩)]) (by simp) (by simp[go_sem]) ?_
    refine(Ca _ pv [] _ hc hz).mono ?_
    rintro e u' w'' ⟨rfl,rfl,rfl⟩
    refine⟨.bool false, ?_,_,w2,hr,.inr ⟨⟨pv,rfl⟩,rfl,rfl⟩⟩
    have hc':(w2.setCell ⟨w.heap.size,0,none⟩ (.bool false)).cell? ⟨w.heap.size,0,none⟩=some (.bool false):=World.cell?_setCell_same _ _ _ hc
    simp[results,Tryz.f88,Sem.run_bind,go_sem,hc']
theorem ajK (m:Int):mG (cfg m) 188 (sF 5):=
 Hs (C:=cfg m) abA (fun b w h=>JX Tryz.lays169 Tryz.Builder_Extra_169 b w h)
  (fun b a cap cells l w h1 h2 h3 h4 h5 h6 h7=>JY Tryz.lays169 Tryz.Builder_Extra_169 b a cap cells l w h1 h2 h3 h4 h5 h6 h7)
theorem Ti:(Tryz.prog.info? 251).map (·.size)=some 2:=by kernel_rfl
theorem QD (b:Nat)(w:World)(h0:w.cell? ⟨b,0,none⟩=some (.pointer (some ⟨b,0,none⟩))):
  Calls Tryz.prog 203 #[.pointer (some ⟨b,0,none⟩)] w fun e w'=>e=.returned (.tuple #[])∧w'=w:=by
 obtain⟨j,hj,_⟩:=Option.map_eq_some_iff.1 Ti
 go_enter Tryz.func203,Tryz.ntmps203
 go_wp2
 rw[Lib.run_neq_ptr_same w _ Tryz.underlying249 hj]
 go_wp2
 go_end0
 exact⟨rfl,rfl⟩
theorem MA (b:Nat)(w:World)(h0:w.cell? ⟨b,0,none⟩=some (.pointer none))(hsh:w.shape? b=some (251,2))(hfz:w.frozen? ⟨b,0,none⟩=false):
  Calls Tryz.prog 203 #[.pointer (some ⟨b,0,none⟩)] w fun e w'=>e=.returned (.tuple #[])∧w'=w.setCell ⟨b,0,none⟩ (.pointer (some ⟨b,0,none⟩)):=by
 obtain⟨j,hj,hjs⟩:=Option.map_eq_some_iff.1 Ti
 go_enter Tryz.func203,Tryz.ntmps203
 go_wp2
 rw[Lib.run_to_unsafe w ⟨b,0,none⟩ Tryz.underlying249 Tryz.underlying280 hj (by rw[hjs];decide) hsh (Nat.zero_lt_succ 1)]
 simp only[Result.andThen]
 rw[Oper.upon_value]
 go_wp2
 rw[run_callFunc_extern Tryz.func225 (by kernel_rfl) (by kernel_rfl) (by kernel_rfl) (e:=Extern.AbiNoEscape.same) (by kernel_rfl)]
 rw[Lib.run_noEscape]
 simp only[Result.andThen]
 rw[Oper.upon_value]
 go_wp2
 rw[Lib.run_from_unsafe w ⟨b,0,none⟩ Tryz.underlying280 Tryz.underlying249 hj hsh (by kernel_rfl)]
 simp only[Result.andThen]
 rw[Oper.upon_value]
 go_wp2
 go_end0
 exact⟨rfl,rfl⟩
theorem abE (m:Int):mG (cfg m) 203 (yY 251):=
 My (C:=cfg m) X1 (fun b w h1 h2 h3=>MA b w h1 h2 h3)
  (fun b w h=>QD b w h)
theorem Tj (m:Int):mG (cfg m) 199 vz:=
 JU (C:=cfg m) (gm:=4) (m:=m) rfl abB (fun s sub m w h1 h2=>Tryz.stringslite_Index s sub m w h1 h2)
theorem Hu (m:Int):mG (cfg m) 185 mF:=
 B9 (C:=cfg m) abC (fun s c w=>Tryz.stringslite_IndexByte s c w)
theorem aeZ (m:Int):mG (cfg m) 88 (DA (cfg m) 184):=
 QB (C:=cfg m) (tb:=4) abD (fun rv f fs cs w R h1 h2 h3=>QC rv f fs cs w R h1 h2 h3)
theorem zb (m:Int):FL (cfg m) (kq m):=yZ (by
 intro g s h
 unfold kq at h
 split at h<;>first
  |(obtain rfl:=Option.some.inj h;first|exact abE m|exact ajK m|exact Tj m|exact Hu m|exact aeZ m)
  |cases h)
theorem ah (m:Int):(cfg m).P.prog.follows .mixedOrders=true:=by
 show Tryz.prog.follows .mixedOrders=true
 kernel_rfl
end Go.Proofs.YtijfhoelihclbaaGreatDoor.live

noncomputable section
namespace Go.Abs
open Go
set_option linter.unusedVariables false
variable {C:dI}{R:Type}
abbrev AX (C:dI)(c:Code)(st:St)(Q:R→aP→St→Prop):Prop:=∃r,AW C c st (Q r)
abbrev ak (C:dI)(ops:Array Oper)(l:List Oper)(st:St)(Q:R→aP→St→Prop):Prop:=∃r,fC C ops l st (Q r)
abbrev aJ (C:dI)(ev:aW)(f:FuncId)(ops:Array Oper)(bs:List Nat)(t0 i:Nat)(l:List Oper)(n:Nat)(sp:List (Nat×TV))(H:Heap)(K:R→List Rec→List (Nat×TV)→Heap→Prop):Prop:=
 ∃r,uP C ev f ops bs t0 i l n sp H (K r)
section code
variable {st:St}{Q:R→aP→St→Prop}
theorem AX.re {c:Code}{st':St}(hr:Re C st st')(h:AX C c st' Q):AX C c st Q:=h.imp fun _ h=>AW.re hr h
theorem AX.skip (hq:∃r,Q r .normal st):AX C .skip st Q:=hq.imp fun _ h=>AW.skip h
theorem AX.label {l}(hq:∃r,Q r .normal st):AX C (.label l) st Q:=hq.imp fun _ h=>AW.label h
theorem AX.exit {id:Nat}(hq:∃r,Q r (.exit id) st):AX C (.exit id) st Q:=hq.imp fun _ h=>AW.exit h
theorem AX.ret (hq:∃r,Q r .ret st):AX C .ret st Q:=hq.imp fun _ h=>AW.ret h
theorem AX.seq {x y:Code}(h:AX C x st fun r=>XQ C y (Q r)):AX C (.seq x y) st Q:=h.imp fun _ h=>AW.seq h
theorem AX.block {id:Nat}{c:Code}(h:AX C c st fun r=>Out id (Q r)):AX C (.block id c) st Q:=h.imp fun _ h=>AW.block h
theorem AX.cond {c:Operand}{x y:Code}{b:Bool}(hc:dB C st.slots c=some (.t (.bool b)))(h1:b=true→AX C x st Q)(h2:b=false→AX C y st Q):AX C (.cond c x y) st Q:=by
 cases b with
 |true=>exact(h1 rfl).imp fun _ h=>AW.cond hc (fun _=>h) fun e=>by cases e
 |false=>exact(h2 rfl).imp fun _ h=>AW.cond hc (fun e=>by cases e) fun _=>h
theorem AX.region {id:Nat}{ops:Array Oper}(h:ak C ops ops.toList st Q):AX C (.region id ops false) st Q:=h.imp fun _ h=>AW.region h
def Leave (Q:aP→St→Prop):aP→St→Prop
 |.normal,_=>False
 |e,s=>Q e s
def DJ {α:Type}(C:dI)(st:α→St)(P:α→Prop)(Q:R→aP→St→Prop):{y:α // P y}⊕ R→aP→St→Prop
 |.inl y=>fun e s=>e=.normal∧Re C s (st y.1)
 |.inr r=>Leave (Q r)
theorem AX.leave {α:Type}{C:dI}{st:α→St}{P:α→Prop}{s:St}{e:aP}(he:e≠ .normal)(h:∃r,Q r e s):∃o,DJ C st P Q o e s:=by
 obtain⟨r,h⟩:=h
 refine⟨.inr r, ?_⟩
 cases e with
 |normal=>exact absurd rfl he
 |exit i=>exact h
 |ret=>exact h
 |panic v=>exact h
inductive JZ {α:Type}(C:dI)(st:α→St)(ok:α→Prop)(μ:α→Nat)(body:Code)(Q:R→aP→St→Prop):α→R→Prop
 |more {x y r} (hy:ok y) (hlt:μ y<μ x) (h:AW C body (st x) (fun e s=>e=.normal∧Re C s (st y))) (k:JZ C st ok μ body Q y r):JZ C st ok μ body Q x r
 |last {x r} (h:AW C body (st x) (Leave (Q r))):JZ C st ok μ body Q x r
theorem AX.loop {α:Type}(st:α→St)(ok:α→Prop)(μ:α→Nat){body:Code}(x0:α){s0:St}(hr:Re C s0 (st x0))(h0:ok x0)
  (h:∀x,ok x→AX C body (st x) (DJ C st (fun y=>ok y∧μ y<μ x) Q)):AX C (.loop body) s0 Q:=by
 have all:∀m x,μ x<m→ok x→∃r,JZ C st ok μ body Q x r:=by
  intro m
  induction m with
  |zero=>intro x hx;omega
  | succ m ih=>
   intro x hx hok
   obtain⟨o,ho⟩:=h x hok
   cases o with
   |inl y=>
    obtain⟨r,hr⟩:=ih y.1 (by have:=y.2.2;omega) y.2.1
    exact⟨r,.more y.2.1 y.2.2 ho hr⟩
   |inr r=>exact⟨r,.last ho⟩
 obtain⟨r,hl⟩:=all (μ x0+1) x0 (Nat.lt_succ_self _) h0
 refine⟨r,AW.loop st (fun x=>ok x∧JZ C st ok μ body Q x r) μ x0 hr ⟨h0,hl⟩ ?_⟩
 rintro x ⟨hok,hx⟩
 cases hx with
 |more hy hlt hb k=>
  refine AW.mono hb ?_
  rintro e s ⟨rfl,JJ⟩
  exact⟨_,⟨hy,k⟩,hlt,JJ⟩
 |last hb=>
  refine AW.mono hb ?_
  intro e s hq
  cases e with
  |normal=>exact hq.elim
  |exit i=>exact hq
  |ret=>exact hq
  |panic v=>exact hq
end code
section ops
variable {ev:aW}{f:FuncId}{ops:Array Oper}{r:List Oper}{n t:Nat}{sp:List (Nat×TV)}{H:Heap}{Q:R→aP→St→Prop}
theorem ak.nil {st:St}(hq:∃r,Q r .normal st):ak C ops [] st Q:=hq.imp fun _ h=>fC.nil h
theorem ak.go {d:Tmp}{op:Op}{ty pos af}{v:TV}{u:Heap}(ai:aF C ev)(h:cF C ev f H n sp t (some d) op v u)(k:ak C ops r ⟨bH n ((d,v)::sp),H.ei u,t+1⟩ Q):
  ak C ops (⟨some d,op,ty,pos,af,none⟩::r) ⟨bH n sp,H,t⟩ Q:=k.imp fun _ k=>fC.go ai h k
theorem ak.lQ {op:Op}{ty pos af}{v:TV}{u:Heap}(ai:aF C ev)(h:cF C ev f H n sp t none op v u)(k:ak C ops r ⟨bH n sp,H.ei u,t+1⟩ Q):
  ak C ops (⟨none,op,ty,pos,af,none⟩::r) ⟨bH n sp,H,t⟩ Q:=k.imp fun _ k=>fC.lQ ai h k
theorem ak.gT {d:Tmp}{op:Op}{ty pos af}{j gd:Nat}{b:Bool}{v:TV}(ai:aF C ev)(hj:(ops[j]?).bind (·.dst)=some gd)(hn:Nat.blt gd n=true)(hl:look sp gd=.t (.bool b))
  (h:b=true→cF C ev f H n sp t (some d) op v [])(k:ak C ops r ⟨bH n ((d,gv b v)::sp),H,t+1⟩ Q):ak C ops (⟨some d,op,ty,pos,af,some (j,true)⟩::r) ⟨bH n sp,H,t⟩ Q:=k.imp fun _ k=>fC.gT ai hj hn hl h k
theorem ak.gF {d:Tmp}{op:Op}{ty pos af}{j gd:Nat}{b:Bool}{v:TV}(ai:aF C ev)(hj:(ops[j]?).bind (·.dst)=some gd)(hn:Nat.blt gd n=true)(hl:look sp gd=.t (.bool b))
  (h:(!b)=true→cF C ev f H n sp t (some d) op v [])(k:ak C ops r ⟨bH n ((d,gv (!b) v)::sp),H,t+1⟩ Q):ak C ops (⟨some d,op,ty,pos,af,some (j,false)⟩::r) ⟨bH n sp,H,t⟩ Q:=k.imp fun _ k=>fC.gF ai hj hn hl h k
theorem ak.nF {d:Tmp}{op:Op}{ty pos af}{j gd:Nat}{b g:Bool}{v:TV}(ai:aF C ev)(hj:(ops[j]?).bind (·.dst)=some gd)(hn:Nat.blt gd n=true)(hl:look sp gd=gv g (.t (.bool b)))
  (h:(g&& !b)=true→cF C ev f H n sp t (some d) op v [])(k:ak C ops r ⟨bH n ((d,gv (g&& !b) v)::sp),H,t+1⟩ Q):ak C ops (⟨some d,op,ty,pos,af,some (j,false)⟩::r) ⟨bH n sp,H,t⟩ Q:=k.imp fun _ k=>fC.nF ai hj hn hl h k
end ops
section drawn
variable {ev:aW}{f:FuncId}{ops:Array Oper}{bs:List Nat}{t0 i n:Nat}{r:List Oper}{sp:List (Nat×TV)}{H:Heap}{K:R→List Rec→List (Nat×TV)→Heap→Prop}
theorem aJ.nil (h:∃r,K r [] sp H):aJ C ev f ops bs t0 i [] n sp H K:=h.imp fun _ h=>uP.nil h
theorem aJ.go {d:Tmp}{op:Op}{ty pos af}{fp:List Nm}{v:TV}{u:Heap}(N4:PX C H (bH n sp) ⟨some d,op,ty,pos,af,none⟩=some fp)(h:cF C ev f (ni H fp) n sp (t0+i) (some d) op v u)
  (k:aJ C ev f ops bs t0 (i+1) r n ((d,v)::sp) (H.ei u) fun q rs sp' H'=>K q (⟨fp,.val v u⟩::rs) sp' H'):aJ C ev f ops bs t0 i (⟨some d,op,ty,pos,af,none⟩::r) n sp H K:=k.imp fun _ k=>uP.go N4 h k
theorem aJ.lQ {op:Op}{ty pos af}{fp:List Nm}{v:TV}{u:Heap}(N4:PX C H (bH n sp) ⟨none,op,ty,pos,af,none⟩=some fp)(h:cF C ev f (ni H fp) n sp (t0+i) none op v u)
  (k:aJ C ev f ops bs t0 (i+1) r n sp (H.ei u) fun q rs sp' H'=>K q (⟨fp,.val v u⟩::rs) sp' H'):aJ C ev f ops bs t0 i (⟨none,op,ty,pos,af,none⟩::r) n sp H K:=k.imp fun _ k=>uP.lQ N4 h k
theorem aJ.yes {d:Tmp}{op:Op}{ty pos af}{j gd:Nat}{w b:Bool}{fp:List Nm}{v:TV}{u:Heap}(hj:(ops[j]?).bind (·.dst)=some gd)(hn:Nat.blt gd n=true)(hl:look sp gd=.t (.bool b))(hb:(b==w)=true)
  (N4:PX C H (bH n sp) ⟨some d,op,ty,pos,af,some (j,w)⟩=some fp)(h:cF C ev f (ni H fp) n sp (t0+i) (some d) op v u)
  (k:aJ C ev f ops bs t0 (i+1) r n ((d,v)::sp) (H.ei u) fun q rs sp' H'=>K q (⟨fp,.val v u⟩::rs) sp' H'):aJ C ev f ops bs t0 i (⟨some d,op,ty,pos,af,some (j,w)⟩::r) n sp H K:=k.imp fun _ k=>uP.yes hj hn hl hb N4 h k
theorem aJ.no {d:Tmp}{op:Op}{ty pos af}{j gd:Nat}{w b:Bool}(hj:(ops[j]?).bind (·.dst)=some gd)(hn:Nat.blt gd n=true)(hl:look sp gd=.t (.bool b))(hb:(b==w)=false)
  (k:aJ C ev f ops bs t0 (i+1) r n ((d,cz)::sp) H fun q rs sp' H'=>K q (⟨[],.unwanted⟩::rs) sp' H'):aJ C ev f ops bs t0 i (⟨some d,op,ty,pos,af,some (j,w)⟩::r) n sp H K:=k.imp fun _ k=>uP.no hj hn hl hb k
theorem aJ.none {d:Tmp}{op:Op}{ty pos af}{j gd:Nat}{w:Bool}(hj:(ops[j]?).bind (·.dst)=some gd)(hn:Nat.blt gd n=true)(hl:look sp gd=cz)
  (k:aJ C ev f ops bs t0 (i+1) r n ((d,cz)::sp) H fun q rs sp' H'=>K q (⟨[],.unwanted⟩::rs) sp' H'):aJ C ev f ops bs t0 i (⟨some d,op,ty,pos,af,some (j,w)⟩::r) n sp H K:=k.imp fun _ k=>uP.none hj hn hl k
end drawn
theorem eE {a b:Prop}{c:R→Prop}(ha:a)(hb:b)(h:∃r,c r):∃r,a∧b∧c r:=h.imp fun _ h=>⟨ha,hb,h⟩
theorem AX.draw {ev:aW}{f:FuncId}{id:Nat}{ops:Array Oper}{n t:Nat}{sp:List (Nat×TV)}{H:Heap}{Q:R→aP→St→Prop}(hm:C.P.prog.follows .mixedOrders=true)(ai:aF C ev)
  (h:aJ C ev f ops (qW ops.toList []) t 0 ops.toList n sp H fun r recs sp' H'=>lJ ops ops.toList recs (qW ops.toList []) ops.toList recs 0=true∧uV 0 ops.toList=true∧Q r .normal ⟨bH n sp',H',t+ops.size⟩):
  AX C (.region id ops true) ⟨bH n sp,H,t⟩ Q:=h.imp fun _ h=>AW.draw hm ai h
section ends
variable {st:St}{Q:R→aP→St→Prop}
theorem AX.bt {y:Code}(h:∃r,Q r .ret st):∃r,XQ C y (Q r) .ret st:=h
theorem AX.eP {y:Code}{i:Nat}(h:∃r,Q r (.exit i) st):∃r,XQ C y (Q r) (.exit i) st:=h
theorem AX.bx {id:Nat}(h:∃r,Q r .ret st):∃r,Out id (Q r) .ret st:=h
theorem AX.cC {id:Nat}(h:∃r,Q r .normal st):∃r,Out id (Q r) .normal st:=h
theorem AX.fV {id:Nat}(h:∃r,Q r .normal st):∃r,Out id (Q r) (.exit id) st:=h.imp fun _ h=>by simp only[Out,if_true];exact h
end ends
theorem cQ {b:Bool}(h:b=true):(b==true)=true:=by subst h;rfl
theorem cL {b:Bool}(h:b=false):(b==false)=true:=by subst h;rfl
theorem dh {b:Bool}(h:b=false):(b==true)=false:=by subst h;rfl
theorem aN {b:Bool}(h:b=true):(b==false)=false:=by subst h;rfl
section split
variable {ev:aW}{f:FuncId}{ops:Array Oper}{bs:List Nat}{t0 i n t:Nat}{r:List Oper}{l:List Oper}{sp:List (Nat×TV)}{H:Heap}
theorem aJ.split {K:R→List Rec→List (Nat×TV)→Heap→Prop}(gd:Nat){b:Bool}(hl:look sp gd=.t (.bool b))(h1:b=true→aJ C ev f ops bs t0 i l n sp H K)(h2:b=false→aJ C ev f ops bs t0 i l n sp H K):aJ C ev f ops bs t0 i l n sp H K:=by
 cases b with
 |true=>exact h1 rfl
 |false=>exact h2 rfl
variable {Q:R→aP→St→Prop}
theorem ak.split (gd:Nat){b:Bool}(hl:look sp gd=.t (.bool b))(h1:b=true→ak C ops l ⟨bH n sp,H,t⟩ Q)(h2:b=false→ak C ops l ⟨bH n sp,H,t⟩ Q):ak C ops l ⟨bH n sp,H,t⟩ Q:=by
 cases b with
 |true=>exact h1 rfl
 |false=>exact h2 rfl
theorem ak.yes {d:Tmp}{op:Op}{ty pos af}{j gd:Nat}{w b:Bool}{v:TV}{u:Heap}(ai:aF C ev)(hj:(ops[j]?).bind (·.dst)=some gd)(hn:Nat.blt gd n=true)(hl:look sp gd=.t (.bool b))(hb:(b==w)=true)
  (h:cF C ev f H n sp t (some d) op v u)(k:ak C ops r ⟨bH n ((d,v)::sp),H.ei u,t+1⟩ Q):ak C ops (⟨some d,op,ty,pos,af,some (j,w)⟩::r) ⟨bH n sp,H,t⟩ Q:=by
 refine k.imp fun _ k=>fC.step ai (by rw[kH rfl hj hn,hl];simp only[hb]) (h _ _ _ _) ?_
 rw[fk]
 exact k
theorem ak.no {d:Tmp}{op:Op}{ty pos af}{j gd:Nat}{w b:Bool}(hj:(ops[j]?).bind (·.dst)=some gd)(hn:Nat.blt gd n=true)(hl:look sp gd=.t (.bool b))(hb:(b==w)=false)
  (k:ak C ops r ⟨bH n ((d,cz)::sp),H,t+1⟩ Q):ak C ops (⟨some d,op,ty,pos,af,some (j,w)⟩::r) ⟨bH n sp,H,t⟩ Q:=by
 refine k.imp fun _ k=>fC.unwanted (by rw[kH rfl hj hn,hl];simp only[hb]) ?_
 rw[fk]
 exact k
theorem ak.none {d:Tmp}{op:Op}{ty pos af}{j gd:Nat}{w:Bool}(hj:(ops[j]?).bind (·.dst)=some gd)(hn:Nat.blt gd n=true)(hl:look sp gd=cz)
  (k:ak C ops r ⟨bH n ((d,cz)::sp),H,t+1⟩ Q):ak C ops (⟨some d,op,ty,pos,af,some (j,w)⟩::r) ⟨bH n sp,H,t⟩ Q:=by
 refine k.imp fun _ k=>fC.unwanted (by rw[kH rfl hj hn,hl];rfl) ?_
 rw[fk]
 exact k
theorem AX.nu {st:St}{c:Operand}{x y:Code}{b:Bool}(hc:dB C st.slots c=some (.t (.bool b)))(hb:b=true)(h:AX C x st Q):AX C (.cond c x y) st Q:=AX.cond hc (fun _=>h) (fun e=>by rw[hb] at e;cases e)
theorem AX.nt {st:St}{c:Operand}{x y:Code}{b:Bool}(hc:dB C st.slots c=some (.t (.bool b)))(hb:b=false)(h:AX C y st Q):AX C (.cond c x y) st Q:=AX.cond hc (fun e=>by rw[hb] at e;cases e) (fun _=>h)
variable {d:Option Tmp}
theorem bz {c x y:Operand}{b:Bool}{u v:TV}(hc:bL C n sp c=some (.t (.bool b)))(hb:b=true)(hx:bL C n sp x=some u)(hy:bL C n sp y=some v):cF C ev f H n sp t d (.pick c x y) u []:=by
 subst hb;exact iK hc hx hy
theorem dU {c x y:Operand}{b:Bool}{u v:TV}(hc:bL C n sp c=some (.t (.bool b)))(hb:b=false)(hx:bL C n sp x=some u)(hy:bL C n sp y=some v):cF C ev f H n sp t d (.pick c x y) v []:=by
 subst hb;exact iK hc hx hy
theorem qy {ty:TypeId}{ti:TI}{x lo:Operand}{s:List UInt8}{m:Nat}(h:bL C n sp x=some (.t (.str s)))(hi:bL C n sp lo=some (.t (.int .i64 (m:Int))))(ht:C.P.ty ty=some ti)(hd:ti.desc=.string)(hm:m≤s.length):
  cF C ev f H n sp t d (.slice ty x (some lo) none none) (.t (.str (s.drop m))) []:=fun _ _ _ _=>by
 have h1:fF (some (.t (.int .i64 (m:Int)))) 0=some m:=by simp[fF,fU]
 have h2:fF none s.length=some s.length:=rfl
 have h3:s7 C (bH n sp) (some lo)=some (some (.t (.int .i64 (m:Int)))):=by simp[s7,bT hi]
 have h4:s7 C (bH n sp) none=some none:=rfl
 simp only[bk,evalOp,bT h,h3,h4,CK,bn,ht,hd,h1,h2,hm,Nat.le_refl,and_self,if_true,List.take_length]
 rfl
theorem nI {src dst:TypeId}{x:Operand}{a v:TV}(h:bL C n sp x=some a)(hv:∀qb nm H,r9 C.P qb nm H src dst a=some (v,[])):cF C ev f H n sp t d (.convert src dst x) v []:=fun _ _ _ _=>by
 simp only[bk,evalOp,bT h,hv]
theorem zc {fo:Operand}{g:FuncId}{args:Array Operand}{ats:Array TypeId}{ts:List Tree}{x:Tree}(hf:bL C n sp fo=some (.t (.fn (.func g))))(h:kn C n sp args.toList=some (ts.map .t))(he:ev g (ts.map .t) []=some (.ret (.t x) [] [])):
  cF C ev f H n sp t d (.call ⟨.value fo,args,ats⟩) (.t x) []:=
 Hl (by simp only[jT,bT hf,vv h]) (BL he)
theorem nJ {ty elem len:Nat}{ti te:TI}{x i:Operand}{cs:List Tree}{off m:Nat}{k:IntKind}(h:bL C n sp x=some (.kD cs off))(hi:bL C n sp i=some (.t (.int k (m:Int))))(ht:C.P.ty ty=some ti)(hd:ti.desc=.array len elem)
  (hte:C.P.ty elem=some te)(hm:m<len):cF C ev f H n sp t d (.indexAddr ty x i) (.kD cs (off+m*te.size)) []:=
 BK h hi (by
  have h1:fU (.t (.int k (m:Int)))=some m:=by simp[fU]
  simp only[fE,bn,ht,h1,hd,hte,hm,if_true,p8])
theorem Tk {cs:List Tree}{off:Nat}{c:Tree}(h:cs[off]?=some c):partT false 1 (cs.map .t) off=some (.t c):=by
 simp[partT,h]
end split
theorem AX.start {f:FuncId}{fn:Func}{body:Code}{args:List TV}{aX:List aV}{res:R→bG}(n k:Nat)(Df:C.P.fn f=some fn)(hbody:fn.body=some body)(hname:fn.name≠ "runtime.NumGoroutine")
  (hn:fn.ntmps=n)(ha:args.length=k)(hk:k≤n)(h:AX C body ⟨bH n (xI 0 args),cU 0 aX,0⟩ (fun r=>cB C fn aX.length (res r))):∃r,ay C f args aX (res r):=
 h.imp fun _ h=>nD n k Df hbody hname hn ha hk h
section freeze
variable {C:dI}
theorem Re.freeze {n d N:Nat}{sp:List (Nat×TV)}{H H':Heap}{t:Nat}{tr:Tree}{ks:List Nm}(hfz:pV H N (look sp d)=some (tr,ks))(hH':∀k o,H'.get k=some o→H.get k=some o∧k∉ks)(hdn:d<n):
    Re C ⟨bH n sp,H,t⟩ ⟨bH n ((d,.t tr)::sp),H',t⟩:=by
  intro G0 w0 G w a h0 hs hst
  have st:=iQ hst.wf hst.heap ks
  refine⟨G.frozen w H ks,(hs.trans st).mono (fun _ _ _=>trivial) (fun k h=>h.elim id False.elim),st.wf,hst.jA.mono st.le, ?_, ?_, ?_⟩
  · have hl:=hst.slots
    refine⟨by have:=hl.1;simpa [fI] using this,fun i c v hc hv=> ?_⟩
    have hi:i<n:=by have:=(List.getElem?_eq_some_iff.1 hc).1;simpa [fI] using this
    rw[lz hi,Option.some.injEq] at hc
    subst hc
    have h0:=hl.2 i (look sp i) v (lz hi) hv
    rw[lN]
    split
    · rename_i e
      subst e
      exact .t _ _ (AP hst.wf hst.heap ks N _ tr ks v hfz (fun _ h=>h) h0)
    · exact h0.mono st.le
  · intro k o hk
    obtain⟨h1,h2⟩:=hH' k o hk
    obtain⟨h3,h4⟩:=hst.heap k o h1
    exact⟨st.le.dom k h3,st.keeps hst.wf h3 (fun h=>h2 h.1) h4⟩
  · exact hst.fresh
end freeze
theorem Re.trans {C:dI}{a b c:St}(h:Re C a b)(k:Re C b c):Re C a c:=fun G0 w0 G w x h0 hs hst=>by
 obtain⟨G1,hs1,kT⟩:=h G0 w0 G w x h0 hs hst
 exact k G0 w0 G1 w x h0 hs1 kT
theorem Tl {H:Heap}{k0:Nm}{o0:aV}{ks:List Nm}(h:H.get k0=some o0)(hn:k0∉ks):∀k o,Heap.get [(k0,o0)] k=some o→H.get k=some o∧k∉ks:=by
 intro k o hk
 simp only[Heap.get] at hk
 by_cases e:k0=k
 · subst e;rw[if_pos rfl] at hk;cases hk;exact⟨h,hn⟩
 · rw[if_neg e] at hk;cases hk
section more
variable {C:dI}{ev:aW}{f:FuncId}{H:Heap}{n t:Nat}{sp:List (Nat×TV)}{d:Option Tmp}
theorem ae0 {ty elem:TypeId}{ti te:TI}{x y z:Operand}{es:List Tree}(hx:bL C n sp x=some (.t (.sl es)))(hy:bL C n sp y=some (.t (.int .i64 es.length)))(hz:bL C n sp z=some (.t (.int .i64 es.length)))
  (ht:C.P.ty ty=some ti)(hd:ti.desc=.slice elem)(hte:C.P.ty elem=some te)(hh:jx te.size es=true):cF C ev f H n sp t d (.slice ty x none (some y) (some z)) (.l7 es) []:=fun _ _ _ _=>by
 have h1:fF (some (.t (.int .i64 (es.length:Int)))) es.length=some es.length:=by simp[fF,fU]
 have h2:fF none 0=some 0:=rfl
 have h3:s7 C (bH n sp) (some y)=some (some (.t (.int .i64 (es.length:Int)))):=by simp[s7,bT hy]
 have h5:s7 C (bH n sp) (some z)=some (some (.t (.int .i64 (es.length:Int)))):=by simp[s7,bT hz]
 have h4:s7 C (bH n sp) none=some none:=rfl
 have hl:yl H (.t (.sl es))=some es.length:=rfl
 simp only[bk,evalOp,bT hx,h3,h4,h5,CK,bn,ht,hd,hte,hl,h1,h2,Option.isNone_some,Option.isSome_some,Bool.false_or,Nat.zero_le,Nat.le_refl,and_self,if_true,hh,PW,Bool.true_and,beq_self_eq_true,List.take_length,List.drop_zero]
 rfl
theorem abF {ty r2:TypeId}{x y:Operand}{j:Nat}(h:bL C n sp x=some (.t (.int .i64 ((j+1:Nat):Int))))(h2:bL C n sp y=some (.t (.int .i64 1)))(hj:j≤4194304):cF C ev f H n sp t d (.binOp .sub ty x y r2) (.t (.int .i64 (j:Int))) []:=by
 have:=XV (ev:=ev) (f:=f) (H:=H) (t:=t) (d:=d) (ty:=ty) (r2:=r2) h h2 (by omega) (by omega)
 rwa [show((j+1:Nat):Int) - 1=(j:Int) by omega] at this
theorem X2 {src dst e:TypeId}{ti td te:TI}{x:Operand}{s:List UInt8}(h:bL C n sp x=some (.t (.str s)))(ha:d.any (C.qb f)=false)(ht:C.P.ty src=some ti)(hd:ti.desc=.string)(ht2:C.P.ty dst=some td)(hd2:td.desc=.slice e)
  (hte:C.P.ty e=some te)(hde:te.desc=.int .u8):cF C ev f H n sp t d (.convert src dst x) (.t (.sl (s.map fun b=>.int .u8 b.toNat))) []:=fun _ _ _ _=>by
 simp only[bk,evalOp,bT h,r9,bn,ht,ht2,hd,hd2,hte,hde,ha,Bool.false_eq_true,if_false]
end more
section ae1
variable {C:dI}{ev:aW}{f:FuncId}{H:Heap}{n t:Nat}{sp:List (Nat×TV)}{d:Option Tmp}
end ae1
end Go.Abs
end
