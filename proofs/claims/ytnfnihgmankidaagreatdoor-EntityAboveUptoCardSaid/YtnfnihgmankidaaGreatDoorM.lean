/- Seat r3: its interpreter, its summaries. -/
import Derived.Test.YtnfnihgmankidaaGreatDoorJ
import Derived.Test.YtnfnihgmankidaaGreatDoorK
import Derived.Test.YtnfnihgmankidaaGreatDoorL
import Derived.Test.YtnfnihgmankidaaGreatDoorShelf
import Derived.Test.YtnfnihgmankidaaGreatDoorChecked
import Derived.Tactics2
import Derived.Defers
import Derived.Recover
import Derived.Laws.Pointers
import Derived.Test.YtnfnihgmankidaaGreatDoorI
set_option linter.unusedVariables false
set_option linter.unusedSimpArgs false
namespace Go.Proofs.YtnfnihgmankidaaGreatDoor.live
open Go Go.Abs Go.RowKit
noncomputable def prg:ij:={prog:=Tryz.prog,ty:=R8 Tryz.prog,fn:=λf=>Tryz.prog.funcs[f]?,acV:=λ_ _ h=>h,Qa:=λ_ _ h=>h}
noncomputable def rep (n:Nat)(x:Int):List Tree:=List.replicate n (.int .u8 x)
noncomputable def u8s (l:List Int):List Tree:=l.map (.int .u8 ·)
noncomputable def rL:List Tree:=rep 128 0xF0++rep 66 0xF1++rep 30 0x02++u8s [0x13]++rep 12 0x03++u8s [0x23]++rep 2 0x03++u8s [0x34]++rep 3 0x04++u8s [0x44]++rep 11 0xF1
noncomputable def rM:List Tree:=u8s [0x80,0xBF,0xA0,0xBF,0x80,0x9F,0x90,0xBF,0x80,0x8F]++rep 22 0
noncomputable def za:List Tree:=rep 9 0++rep 5 1++rep 18 0++rep 1 1++rep 223 0
noncomputable def cfg (m:Int):cE:={P:=prg,iL:=λ|0=>some rL|1=>some rM|2=>some za|3=>some [.int .i64 m]|4=>some [.int .u64 1]|_=>none,jy:=λ_ _=>false}
noncomputable def QS (m:Int):Ext:=λ|160=>some (y2 141)|105=>some (rJ 5)|250=>some vp|183=>some lR|48=>some (Dy (cfg m) 129)|_=>none
noncomputable def ext (m:Int):Ext:=λ|160=>some (y2 141)|105=>some (rJ 5)|250=>some vp|183=>some lR|48=>some (Dy (cfg m) 129)|164=>some (Az vt)|_=>none
theorem en (f:FuncId)(fn:Func)(h:Tryz.prog.funcs[f]?=some fn)(hn:(fn.name== "runtime.NumGoroutine")=false)(c:Code)(hb:fn.body=some c)(args:Array Value)(w:World):
 (callFunc f args).run Tryz.prog w=.ok (.enter f args) w:=by
 have h1:fn.name≠ "runtime.NumGoroutine" :=by simpa using hn
 simp[callFunc,h,h1,hb,mark]
theorem XJ (args:Array Value)(w:World):(callFunc 160 args).run Tryz.prog w=.ok (.enter 160 args) w:=en 160 Tryz.f160 Tryz.func160 (by kernel_rfl) _ rfl args w
theorem aaW (args:Array Value)(w:World):(callFunc 105 args).run Tryz.prog w=.ok (.enter 105 args) w:=en 105 Tryz.f105 Tryz.func105 (by kernel_rfl) _ rfl args w
theorem aaX (args:Array Value)(w:World):(callFunc 250 args).run Tryz.prog w=.ok (.enter 250 args) w:=en 250 Tryz.f250 Tryz.func250 (by kernel_rfl) _ rfl args w
theorem aaY (args:Array Value)(w:World):(callFunc 183 args).run Tryz.prog w=.ok (.enter 183 args) w:=en 183 Tryz.f183 Tryz.func183 (by kernel_rfl) _ rfl args w
theorem aaZ (args:Array Value)(w:World):(callFunc 48 args).run Tryz.prog w=.ok (.enter 48 args) w:=en 48 Tryz.f48 Tryz.func48 (by kernel_rfl) _ rfl args w
set_option maxRecDepth 100000
theorem B0 (p:Addr)(pv:Value)(older:List PanicEntry)(w:World)(hc:w.cell? p=some (.bool false))(hz:w.frozen? p=false):
 CallsD Tryz.prog 91 #[.pointer (some p)] (.panicking ({v:=.iface 129 pv,recovered:=false}::older)) w λe u' w'=>
  e=.returned (.tuple #[])/\u'=.panicking ({v:=.iface 129 pv,recovered:=true}::older)/\w'=w.setCell p (.bool false):=by
 refine callsD_of_wpS Tryz.func91 rfl λc₀ cs hu=> ?_
 apply wpS_seq
 apply wpS_region
 simp[wpOpsS,go_sem,recoverD,hu,Tryz.ntmps91,Exit.thenS]
 show Code.wpS Tryz.prog _ _ {tmps:= #[Value.pointer (some p),Value.iface 129 pv,Value.iface 129 pv,undef,undef,undef,undef],defers:=[]} _ _
 refine wpS_of_wp ?_
 have hta:∀w,(Instr.typeAssert (.iface 129 pv) 20 129 false).run Tryz.prog w=.ok pv w:=by
  intro w;simp[Instr.typeAssert,run_underlying Tryz.underlying129,go_sem,Result.andThen]
 go_wp2
 exact⟨rfl,.panicking ({v:=Value.iface 129 pv,recovered:=true}::older),rfl,.tuple #[],results_none rfl _ _ _,rfl,rfl,rfl⟩
theorem MJ (p:Addr)(w:World):
 CallsD Tryz.prog 91 #[.pointer (some p)] .returning w λe u' w'=>e=.returned (.tuple #[])/\u'=.returning/\w'=w:=by
 refine callsD_of_wpS Tryz.func91 rfl λc₀ cs hu=> ?_
 apply wpS_seq
 apply wpS_region
 simp[wpOpsS,go_sem,recoverD,hu,Tryz.ntmps91,Exit.thenS]
 show Code.wpS Tryz.prog _ _ {tmps:= #[Value.pointer (some p),Value.nilIface,Value.nilIface,undef,undef,undef,undef],defers:=[]} _ _
 refine wpS_of_wp ?_
 go_wp2
 exact⟨rfl,.returning,by cases c₀;simp_all,.tuple #[],results_none rfl _ _ _,rfl,rfl,rfl⟩
theorem QT (rv:Value)(f:FuncId)(fs cs:Array Value)(w:World)(R:Ending->World->Prop)
 (MH:∀args w,(callFunc f args).run Tryz.prog w=.ok (.enter f args) w)
 (xu:Calls Tryz.prog f (fs++cs) (w.alloc (.cells #[.bool false] 4)) R)
 (hR:∀e w',R e w'->w'.cell? ⟨w.heap.size,0,none⟩=some (.bool false)/\w'.frozen? ⟨w.heap.size,0,none⟩=false/\((∃v,e=.returned v)\/∃pv,e=.panicked [{v:=.iface 129 pv,recovered:=false}])):
 Calls Tryz.prog 48 #[rv,.func (.func f) fs cs] w λe w'=>∃e' w2,R e' w2/\
  (((∃v,e'=.returned v)/\e=.returned (.bool true)/\w'=w2.setCell ⟨w.heap.size,0,none⟩ (.bool true))\/
   ((∃pv,e'=.panicked [{v:=.iface 129 pv,recovered:=false}])/\e=.returned (.bool false)/\w'=w2.setCell ⟨w.heap.size,0,none⟩ (.bool false))):=by
 have hmf:∀(fn:Fn) (first cap:Array Value) (w:World),(Instr.makeFunc fn first cap).run Tryz.prog w=.ok (.func fn first cap) w:=λ_ _ _ _=>rfl
 go_enter_defers Tryz.func48,Tryz.ntmps48
 go_wp2
 refine xu.mono ?_
 intro e w2 hr
 obtain⟨hc,hz,he⟩:=hR _ _ hr
 rcases he with ⟨v,rfl⟩|⟨pv,rfl⟩
 ·simp only[];go_at_K;go_wp2;refine leaves_cons (f:=91) (args:= #[.pointer (some ⟨w.heap.size,0,none⟩)]) (by simp) (by simp[go_sem]) ?_;refine(MJ _ _).mono ?_;rintro e u' w'' ⟨rfl,rfl,rfl⟩;refine⟨.bool true, ?_,_,w2,hr,.inl ⟨⟨v,rfl⟩,rfl,rfl⟩⟩;have hc':(w2.setCell ⟨w.heap.size,0,none⟩ (.bool true)).cell? ⟨w.heap.size,0,none⟩=some (.bool true):=World.cell?_setCell_same _ _ _ hc;simp[results,Tryz.f48,Sem.run_bind,go_sem,hc']
 ·simp only[];refine leaves_cons (f:=91) (args:= #[.pointer (some ⟨w.heap.size,0,none⟩)]) (by simp) (by simp[go_sem]) ?_;refine(B0 _ pv [] _ hc hz).mono ?_;rintro e u' w'' ⟨rfl,rfl,rfl⟩;refine⟨.bool false, ?_,_,w2,hr,.inr ⟨⟨pv,rfl⟩,rfl,rfl⟩⟩;have hc':(w2.setCell ⟨w.heap.size,0,none⟩ (.bool false)).cell? ⟨w.heap.size,0,none⟩=some (.bool false):=World.cell?_setCell_same _ _ _ hc;simp[results,Tryz.f48,Sem.run_bind,go_sem,hc']
theorem adt (m:Int):fZ (cfg m) 105 (rJ 5):=
 Ia (C:=cfg m) aaW (λb w h=>Kc Tryz.lays169 Tryz.Builder_Extra_169 b w h)
  (λb a cap cells l w h1 h2 h3 h4 h5 h6 h7=>Ke Tryz.lays169 Tryz.Builder_Extra_169 b a cap cells l w h1 h2 h3 h4 h5 h6 h7)
theorem TF:(Tryz.prog.info? 141).map (·.size)=some 2:=by kernel_rfl
theorem QU (b:Nat)(w:World)(h0:w.cell? ⟨b,0,none⟩=some (.pointer (some ⟨b,0,none⟩))):
 Calls Tryz.prog 160 #[.pointer (some ⟨b,0,none⟩)] w λe w'=>e=.returned (.tuple #[])/\w'=w:=by
 obtain⟨j,hj,_⟩:=Option.map_eq_some_iff.1 TF
 go_enter Tryz.func160,Tryz.ntmps160
 go_wp2
 rw[Lib.run_neq_ptr_same w _ Tryz.underlying138 hj]
 go_wp2
 go_end0
 exact⟨rfl,rfl⟩
theorem MK (b:Nat)(w:World)(h0:w.cell? ⟨b,0,none⟩=some (.pointer none))(hsh:w.shape? b=some (141,2))(hfz:w.frozen? ⟨b,0,none⟩=false):
 Calls Tryz.prog 160 #[.pointer (some ⟨b,0,none⟩)] w λe w'=>e=.returned (.tuple #[])/\w'=w.setCell ⟨b,0,none⟩ (.pointer (some ⟨b,0,none⟩)):=by
 obtain⟨j,hj,hjs⟩:=Option.map_eq_some_iff.1 TF
 go_enter Tryz.func160,Tryz.ntmps160
 go_wp2
 rw[Lib.run_to_unsafe w ⟨b,0,none⟩ Tryz.underlying138 Tryz.underlying236 hj (by rw[hjs];decide) hsh (Nat.zero_lt_succ 1)]
 simp only[Result.andThen]
 rw[Oper.upon_value]
 go_wp2
 rw[run_callFunc_extern Tryz.func203 (by kernel_rfl) (by kernel_rfl) (by kernel_rfl) (e:=Extern.AbiNoEscape.same) (by kernel_rfl)]
 rw[Lib.run_noEscape]
 simp only[Result.andThen]
 rw[Oper.upon_value]
 go_wp2
 rw[Lib.run_from_unsafe w ⟨b,0,none⟩ Tryz.underlying236 Tryz.underlying138 hj hsh (by kernel_rfl)]
 simp only[Result.andThen]
 rw[Oper.upon_value]
 go_wp2
 go_end0
 exact⟨rfl,rfl⟩
theorem TG (m:Int):fZ (cfg m) 160 (y2 141):=
 MI (C:=cfg m) XJ (λb w h1 h2 h3=>MK b w h1 h2 h3)
  (λb w h=>QU b w h)
theorem Kf (m:Int):fZ (cfg m) 250 vp:=
 J9 (C:=cfg m) (gm:=3) (m:=m) rfl aaX (λs sub m w h1 h2=>Tryz.stringslite_Index s sub m w h1 h2)
theorem zb (m:Int):fZ (cfg m) 183 lR:=
 BZ (C:=cfg m) aaY (λs c w=>Tryz.stringslite_IndexByte s c w)
theorem ZK (m:Int):fZ (cfg m) 48 (Dy (cfg m) 129):=
 QO (C:=cfg m) (tb:=4) aaZ (λrv f fs cs w R h1 h2 h3=>QT rv f fs cs w R h1 h2 h3)
theorem XK (m:Int):Dh (cfg m) (QS m):=vu (by
 intro g s h;unfold QS at h;split at h<;>first
  |(obtain rfl:=Option.some.inj h;first|exact TG m|exact adt m|exact Kf m|exact zb m|exact ZK m)
  |cases h)
theorem ah (m:Int):(cfg m).P.prog.follows .mixedOrders=true:=by
 show Tryz.prog.follows .mixedOrders=true;kernel_rfl
end Go.Proofs.YtnfnihgmankidaaGreatDoor.live
noncomputable section
namespace Go.Abs
open Go
variable {C:cE}{R:Type}
abbrev AX (C:cE)(c:Code)(st:St)(Q:R->aI->St->Prop):Prop:=∃r,AW C c st (Q r)
abbrev aG (C:cE)(ops:Array Oper)(l:List Oper)(st:St)(Q:R->aI->St->Prop):Prop:=∃r,dY C ops l st (Q r)
abbrev aJ (C:cE)(ev:aT)(f:FuncId)(ops:Array Oper)(bs:List Nat)(t0 i:Nat)(l:List Oper)(n:Nat)(sp:List (Nat×TV))(H:Heap)(K:R->List Rec->List (Nat×TV)->Heap->Prop):Prop:=
 ∃r,uJ C ev f ops bs t0 i l n sp H (K r)
section code
variable {st:St}{Q:R->aI->St->Prop}
theorem AX.re {c:Code}{st':St}(hr:Re C st st')(h:AX C c st' Q):AX C c st Q:=h.imp λ_ h=>AW.re hr h
theorem AX.skip (hq:∃r,Q r .normal st):AX C .skip st Q:=hq.imp λ_ h=>AW.skip h
theorem AX.label {l}(hq:∃r,Q r .normal st):AX C (.label l) st Q:=hq.imp λ_ h=>AW.label h
theorem AX.exit {id:Nat}(hq:∃r,Q r (.exit id) st):AX C (.exit id) st Q:=hq.imp λ_ h=>AW.exit h
theorem AX.ret (hq:∃r,Q r .ret st):AX C .ret st Q:=hq.imp λ_ h=>AW.ret h
theorem AX.seq {x y:Code}(h:AX C x st λr=>Xy C y (Q r)):AX C (.seq x y) st Q:=h.imp λ_ h=>AW.seq h
theorem AX.block {id:Nat}{c:Code}(h:AX C c st λr=>Out id (Q r)):AX C (.block id c) st Q:=h.imp λ_ h=>AW.block h
theorem AX.cond {c:Operand}{x y:Code}{b:Bool}(hc:bU C st.slots c=some (.t (.bool b)))(h1:b=true->AX C x st Q)(h2:b=false->AX C y st Q):AX C (.cond c x y) st Q:=by
 cases b with
 |true=>exact(h1 rfl).imp λ_ h=>AW.cond hc (λ_=>h) λe=>by cases e
 |false=>exact(h2 rfl).imp λ_ h=>AW.cond hc (λe=>by cases e) λ_=>h
theorem AX.region {id:Nat}{ops:Array Oper}(h:aG C ops ops.toList st Q):AX C (.region id ops false) st Q:=h.imp λ_ h=>AW.region h
def Leave (Q:aI->St->Prop):aI->St->Prop
 |.normal,_=>False
 |e,s=>Q e s
def s9 {α:Type}(C:cE)(st:α->St)(P:α->Prop)(Q:R->aI->St->Prop):{y:α // P y}⊕ R->aI->St->Prop
 |.inl y=>λe s=>e=.normal/\Re C s (st y.1)
 |.inr r=>Leave (Q r)
theorem AX.leave {α:Type}{C:cE}{st:α->St}{P:α->Prop}{s:St}{e:aI}(he:e≠ .normal)(h:∃r,Q r e s):∃o,s9 C st P Q o e s:=by
 obtain⟨r,h⟩:=h;refine⟨.inr r, ?_⟩;cases e with
 |normal=>exact absurd rfl he
 |exit i=>exact h
 |ret=>exact h
 |panic v=>exact h
inductive Kg {α:Type}(C:cE)(st:α->St)(ok:α->Prop)(μ:α->Nat)(body:Code)(Q:R->aI->St->Prop):α->R->Prop
 |more {x y r} (hy:ok y) (hlt:μ y<μ x) (h:AW C body (st x) (λe s=>e=.normal/\Re C s (st y))) (k:Kg C st ok μ body Q y r):Kg C st ok μ body Q x r
 |last {x r} (h:AW C body (st x) (Leave (Q r))):Kg C st ok μ body Q x r
theorem AX.loop {α:Type}(st:α->St)(ok:α->Prop)(μ:α->Nat){body:Code}(x0:α){s0:St}(hr:Re C s0 (st x0))(h0:ok x0)
 (h:∀x,ok x->AX C body (st x) (s9 C st (λy=>ok y/\μ y<μ x) Q)):AX C (.loop body) s0 Q:=by
 have all:∀m x,μ x<m->ok x->∃r,Kg C st ok μ body Q x r:=by
  intro m;induction m with
  |zero=>intro x hx;omega
  | succ m ih=>
   intro x hx hok
   obtain⟨o,ho⟩:=h x hok
   cases o with
   |inl y=>
    obtain⟨r,hr⟩:=ih y.1 (by have:=y.2.2;omega) y.2.1
    exact⟨r,.more y.2.1 y.2.2 ho hr⟩
   |inr r=>exact⟨r,.last ho⟩
 obtain⟨r,hl⟩:=all (μ x0+1) x0 (Nat.lt_succ_self _) h0
 refine⟨r,AW.loop st (λx=>ok x/\Kg C st ok μ body Q x r) μ x0 hr ⟨h0,hl⟩ ?_⟩
 rintro x ⟨hok,hx⟩
 cases hx with
 |more hy hlt hb k=>
  refine AW.mono hb ?_
  rintro e s ⟨rfl,Fq⟩
  exact⟨_,⟨hy,k⟩,hlt,Fq⟩
 |last hb=>
  refine AW.mono hb ?_
  intro e s hq
  cases e with
  |normal=>exact hq.elim
  |exit i=>exact hq
  |ret=>exact hq
  |panic v=>exact hq
end code
section ops
variable {ev:aT}{f:FuncId}{ops:Array Oper}{r:List Oper}{n t:Nat}{sp:List (Nat×TV)}{H:Heap}{Q:R->aI->St->Prop}
theorem aG.nil {st:St}(hq:∃r,Q r .normal st):aG C ops [] st Q:=hq.imp λ_ h=>dY.nil h
theorem aG.go {d:Tmp}{op:Op}{ty pos af}{v:TV}{u:Heap}(aC:aF C ev)(h:dJ C ev f H n sp t (some d) op v u)(k:aG C ops r ⟨dU n ((d,v)::sp),H.dR u,t+1⟩ Q):
 aG C ops (⟨some d,op,ty,pos,af,none⟩::r) ⟨dU n sp,H,t⟩ Q:=k.imp λ_ k=>dY.go aC h k
theorem aG.LY {op:Op}{ty pos af}{v:TV}{u:Heap}(aC:aF C ev)(h:dJ C ev f H n sp t none op v u)(k:aG C ops r ⟨dU n sp,H.dR u,t+1⟩ Q):
 aG C ops (⟨none,op,ty,pos,af,none⟩::r) ⟨dU n sp,H,t⟩ Q:=k.imp λ_ k=>dY.LY aC h k
end ops
section drawn
variable {ev:aT}{f:FuncId}{ops:Array Oper}{bs:List Nat}{t0 i n:Nat}{r:List Oper}{sp:List (Nat×TV)}{H:Heap}{K:R->List Rec->List (Nat×TV)->Heap->Prop}
theorem aJ.nil (h:∃r,K r [] sp H):aJ C ev f ops bs t0 i [] n sp H K:=h.imp λ_ h=>uJ.nil h
theorem aJ.go {d:Tmp}{op:Op}{ty pos af}{fp:List Nm}{v:TV}{u:Heap}(OD:L6 C H (dU n sp) ⟨some d,op,ty,pos,af,none⟩=some fp)(h:dJ C ev f (lu H fp) n sp (t0+i) (some d) op v u)
 (k:aJ C ev f ops bs t0 (i+1) r n ((d,v)::sp) (H.dR u) λq rs sp' H'=>K q (⟨fp,.val v u⟩::rs) sp' H'):aJ C ev f ops bs t0 i (⟨some d,op,ty,pos,af,none⟩::r) n sp H K:=k.imp λ_ k=>uJ.go OD h k
theorem aJ.LY {op:Op}{ty pos af}{fp:List Nm}{v:TV}{u:Heap}(OD:L6 C H (dU n sp) ⟨none,op,ty,pos,af,none⟩=some fp)(h:dJ C ev f (lu H fp) n sp (t0+i) none op v u)
 (k:aJ C ev f ops bs t0 (i+1) r n sp (H.dR u) λq rs sp' H'=>K q (⟨fp,.val v u⟩::rs) sp' H'):aJ C ev f ops bs t0 i (⟨none,op,ty,pos,af,none⟩::r) n sp H K:=k.imp λ_ k=>uJ.LY OD h k
theorem aJ.yes {d:Tmp}{op:Op}{ty pos af}{j gd:Nat}{w b:Bool}{fp:List Nm}{v:TV}{u:Heap}(hj:(ops[j]?).bind (·.dst)=some gd)(hn:Nat.blt gd n=true)(hl:look sp gd=.t (.bool b))(hb:(b==w)=true)
 (OD:L6 C H (dU n sp) ⟨some d,op,ty,pos,af,some (j,w)⟩=some fp)(h:dJ C ev f (lu H fp) n sp (t0+i) (some d) op v u)
 (k:aJ C ev f ops bs t0 (i+1) r n ((d,v)::sp) (H.dR u) λq rs sp' H'=>K q (⟨fp,.val v u⟩::rs) sp' H'):aJ C ev f ops bs t0 i (⟨some d,op,ty,pos,af,some (j,w)⟩::r) n sp H K:=k.imp λ_ k=>uJ.yes hj hn hl hb OD h k
theorem aJ.no {d:Tmp}{op:Op}{ty pos af}{j gd:Nat}{w b:Bool}(hj:(ops[j]?).bind (·.dst)=some gd)(hn:Nat.blt gd n=true)(hl:look sp gd=.t (.bool b))(hb:(b==w)=false)
 (k:aJ C ev f ops bs t0 (i+1) r n ((d,bN)::sp) H λq rs sp' H'=>K q (⟨[],.unwanted⟩::rs) sp' H'):aJ C ev f ops bs t0 i (⟨some d,op,ty,pos,af,some (j,w)⟩::r) n sp H K:=k.imp λ_ k=>uJ.no hj hn hl hb k
theorem aJ.none {d:Tmp}{op:Op}{ty pos af}{j gd:Nat}{w:Bool}(hj:(ops[j]?).bind (·.dst)=some gd)(hn:Nat.blt gd n=true)(hl:look sp gd=bN)
 (k:aJ C ev f ops bs t0 (i+1) r n ((d,bN)::sp) H λq rs sp' H'=>K q (⟨[],.unwanted⟩::rs) sp' H'):aJ C ev f ops bs t0 i (⟨some d,op,ty,pos,af,some (j,w)⟩::r) n sp H K:=k.imp λ_ k=>uJ.none hj hn hl k
end drawn
theorem eF {a b:Prop}{c:R->Prop}(ha:a)(hb:b)(h:∃r,c r):∃r,a/\b/\c r:=h.imp λ_ h=>⟨ha,hb,h⟩
theorem AX.draw {ev:aT}{f:FuncId}{id:Nat}{ops:Array Oper}{n t:Nat}{sp:List (Nat×TV)}{H:Heap}{Q:R->aI->St->Prop}(hm:C.P.prog.follows .mixedOrders=true)(aC:aF C ev)
 (h:aJ C ev f ops (jt ops.toList []) t 0 ops.toList n sp H λr recs sp' H'=>jk ops ops.toList recs (jt ops.toList []) ops.toList recs 0=true/\pM 0 ops.toList=true/\Q r .normal ⟨dU n sp',H',t+ops.size⟩):
 AX C (.region id ops true) ⟨dU n sp,H,t⟩ Q:=h.imp λ_ h=>AW.draw hm aC h
section ends
variable {st:St}{Q:R->aI->St->Prop}
theorem AX.bM {y:Code}(h:∃r,Q r .ret st):∃r,Xy C y (Q r) .ret st:=h
theorem AX.jh {y:Code}{i:Nat}(h:∃r,Q r (.exit i) st):∃r,Xy C y (Q r) (.exit i) st:=h
theorem AX.bH {id:Nat}(h:∃r,Q r .ret st):∃r,Out id (Q r) .ret st:=h
theorem AX.jl {id:Nat}(h:∃r,Q r .normal st):∃r,Out id (Q r) .normal st:=h
theorem AX.kM {id:Nat}(h:∃r,Q r .normal st):∃r,Out id (Q r) (.exit id) st:=h.imp λ_ h=>by simp only[Out,if_true];exact h
end ends
theorem eu {b:Bool}(h:b=true):(b==true)=true:=by subst h;rfl
theorem ck {b:Bool}(h:b=false):(b==false)=true:=by subst h;rfl
theorem ew {b:Bool}(h:b=false):(b==true)=false:=by subst h;rfl
theorem aN {b:Bool}(h:b=true):(b==false)=false:=by subst h;rfl
section split
variable {ev:aT}{f:FuncId}{ops:Array Oper}{bs:List Nat}{t0 i n t:Nat}{r:List Oper}{l:List Oper}{sp:List (Nat×TV)}{H:Heap}
theorem aJ.split {K:R->List Rec->List (Nat×TV)->Heap->Prop}(gd:Nat){b:Bool}(hl:look sp gd=.t (.bool b))(h1:b=true->aJ C ev f ops bs t0 i l n sp H K)(h2:b=false->aJ C ev f ops bs t0 i l n sp H K):aJ C ev f ops bs t0 i l n sp H K:=by
 cases b with
 |true=>exact h1 rfl
 |false=>exact h2 rfl
variable {Q:R->aI->St->Prop}
theorem aG.split (gd:Nat){b:Bool}(hl:look sp gd=.t (.bool b))(h1:b=true->aG C ops l ⟨dU n sp,H,t⟩ Q)(h2:b=false->aG C ops l ⟨dU n sp,H,t⟩ Q):aG C ops l ⟨dU n sp,H,t⟩ Q:=by
 cases b with
 |true=>exact h1 rfl
 |false=>exact h2 rfl
theorem aG.yes {d:Tmp}{op:Op}{ty pos af}{j gd:Nat}{w b:Bool}{v:TV}{u:Heap}(aC:aF C ev)(hj:(ops[j]?).bind (·.dst)=some gd)(hn:Nat.blt gd n=true)(hl:look sp gd=.t (.bool b))(hb:(b==w)=true)
 (h:dJ C ev f H n sp t (some d) op v u)(k:aG C ops r ⟨dU n ((d,v)::sp),H.dR u,t+1⟩ Q):aG C ops (⟨some d,op,ty,pos,af,some (j,w)⟩::r) ⟨dU n sp,H,t⟩ Q:=by
 refine k.imp λ_ k=>dY.step aC (by rw[kZ rfl hj hn,hl];simp only[hb]) (h _ _ _ _) ?_
 rw[eP]
 exact k
theorem aG.no {d:Tmp}{op:Op}{ty pos af}{j gd:Nat}{w b:Bool}(hj:(ops[j]?).bind (·.dst)=some gd)(hn:Nat.blt gd n=true)(hl:look sp gd=.t (.bool b))(hb:(b==w)=false)
 (k:aG C ops r ⟨dU n ((d,bN)::sp),H,t+1⟩ Q):aG C ops (⟨some d,op,ty,pos,af,some (j,w)⟩::r) ⟨dU n sp,H,t⟩ Q:=by
 refine k.imp λ_ k=>dY.unwanted (by rw[kZ rfl hj hn,hl];simp only[hb]) ?_
 rw[eP]
 exact k
theorem aG.none {d:Tmp}{op:Op}{ty pos af}{j gd:Nat}{w:Bool}(hj:(ops[j]?).bind (·.dst)=some gd)(hn:Nat.blt gd n=true)(hl:look sp gd=bN)
 (k:aG C ops r ⟨dU n ((d,bN)::sp),H,t+1⟩ Q):aG C ops (⟨some d,op,ty,pos,af,some (j,w)⟩::r) ⟨dU n sp,H,t⟩ Q:=by
 refine k.imp λ_ k=>dY.unwanted (by rw[kZ rfl hj hn,hl];rfl) ?_
 rw[eP]
 exact k
theorem AX.mG {st:St}{c:Operand}{x y:Code}{b:Bool}(hc:bU C st.slots c=some (.t (.bool b)))(hb:b=true)(h:AX C x st Q):AX C (.cond c x y) st Q:=AX.cond hc (λ_=>h) (λe=>by rw[hb] at e;cases e)
theorem AX.nE {st:St}{c:Operand}{x y:Code}{b:Bool}(hc:bU C st.slots c=some (.t (.bool b)))(hb:b=false)(h:AX C y st Q):AX C (.cond c x y) st Q:=AX.cond hc (λe=>by rw[hb] at e;cases e) (λ_=>h)
variable {d:Option Tmp}
theorem bD {c x y:Operand}{b:Bool}{u v:TV}(hc:dz C n sp c=some (.t (.bool b)))(hb:b=true)(hx:dz C n sp x=some u)(hy:dz C n sp y=some v):dJ C ev f H n sp t d (.pick c x y) u []:=by
 subst hb;exact S7 hc hx hy
theorem er {c x y:Operand}{b:Bool}{u v:TV}(hc:dz C n sp c=some (.t (.bool b)))(hb:b=false)(hx:dz C n sp x=some u)(hy:dz C n sp y=some v):dJ C ev f H n sp t d (.pick c x y) v []:=by
 subst hb;exact S7 hc hx hy
theorem pU {ty:TypeId}{ti:TI}{x lo:Operand}{s:List UInt8}{m:Nat}(h:dz C n sp x=some (.t (.str s)))(hi:dz C n sp lo=some (.t (.int .i64 (m:Int))))(ht:C.P.ty ty=some ti)(hd:ti.desc=.string)(hm:m<=s.length):
 dJ C ev f H n sp t d (.slice ty x (some lo) none none) (.t (.str (s.drop m))) []:=λ_ _ _ _=>by
 have h1:ec (some (.t (.int .i64 (m:Int)))) 0=some m:=by simp[ec,eT]
 have h2:ec none s.length=some s.length:=rfl
 have h3:uM C (dU n sp) (some lo)=some (some (.t (.int .i64 (m:Int)))):=by simp[uM,dK hi]
 have h4:uM C (dU n sp) none=some none:=rfl
 simp only[aP,evalOp,dK h,h3,h4,G6,pJ,aW,ht,hd,h1,h2,hm,Nat.le_refl,and_self,if_true,List.take_length]
 rfl
theorem mM {src dst:TypeId}{x:Operand}{a v:TV}(h:dz C n sp x=some a)(hv:∀jy nm H,q5 C.P jy nm H src dst a=some (v,[])):dJ C ev f H n sp t d (.convert src dst x) v []:=λ_ _ _ _=>by
 simp only[aP,evalOp,dK h,hv]
theorem OS {fo:Operand}{g:FuncId}{args:Array Operand}{ats:Array TypeId}{ts:List Tree}{x:Tree}(hf:dz C n sp fo=some (.t (.fn (.func g))))(h:pT C n sp args.toList=some (ts.map .t))(he:ev g (ts.map .t) []=some (.ret (.t x) [] []))(hk:C.jy f (d.getD 255)=false:=by rfl):
 dJ C ev f H n sp t d (.call ⟨.value fo,args,ats⟩) (.t x) []:=
 Mz (by simp only[lq,dK hf,Dq h]) (Bv he) hk
theorem mN {ty elem len:Nat}{ti te:TI}{x i:Operand}{cs:List Tree}{off m:Nat}{k:IntKind}(h:dz C n sp x=some (.jf cs off))(hi:dz C n sp i=some (.t (.int k (m:Int))))(ht:C.P.ty ty=some ti)(hd:ti.desc=.array len elem)
 (hte:C.P.ty elem=some te)(hm:m<len):dJ C ev f H n sp t d (.indexAddr ty x i) (.jf cs (off+m*te.size)) []:=
 Bt h hi (by
  have h1:eT (.t (.int k (m:Int)))=some m:=by simp[eT]
  simp only[dG,aW,ht,h1,hd,hte,hm,if_true,pH])
theorem TH {cs:List Tree}{off:Nat}{c:Tree}(h:cs[off]?=some c):partT false 1 (cs.map .t) off=some (.t c):=by
 simp[partT,h]
end split
theorem AX.start {f:FuncId}{fn:Func}{body:Code}{args:List TV}{aQ:List aK}{res:R->bB}(n k:Nat)(Aw:C.P.fn f=some fn)(hbody:fn.body=some body)(hname:fn.name≠ "runtime.NumGoroutine")
 (hn:fn.ntmps=n)(ha:args.length=k)(hk:k<=n)(h:AX C body ⟨dU n (x7 0 args),cm 0 aQ,0⟩ (λr=>HN C fn aQ.length (res r))):∃r,aq C f args aQ (res r):=
 h.imp λ_ h=>jT n k Aw hbody hname hn ha hk h
section freeze
variable {C:cE}
theorem Re.freeze {n d N:Nat}{sp:List (Nat×TV)}{H H':Heap}{t:Nat}{tr:Tree}{ks:List Nm}(hfz:oe H N (look sp d)=some (tr,ks))(hH':∀k o,H'.get k=some o->H.get k=some o/\k∉ks)(hdn:d<n):
 Re C ⟨dU n sp,H,t⟩ ⟨dU n ((d,.t tr)::sp),H',t⟩:=by
 intro G0 w0 G w a h0 hs hst
 have st:=iO hst.wf hst.heap ks
 refine⟨G.frozen w H ks,(hs.trans st).mono (λ_ _ _=>trivial) (λk h=>h.elim id False.elim),st.wf,hst.iL.mono st.le, ?_, ?_, ?_⟩
 ·have hl:=hst.slots;refine⟨by have:=hl.1;simpa [fJ] using this,λi c v hc hv=> ?_⟩;have hi:i<n:=by have:=(List.getElem?_eq_some_iff.1 hc).1;simpa [fJ] using this
  rw[nU hi,Option.some.injEq] at hc;subst hc;have h0:=hl.2 i (look sp i) v (nU hi) hv;rw[mL];split
  ·rename_i e;subst e;exact .t _ _ (CP hst.wf hst.heap ks N _ tr ks v hfz (λ_ h=>h) h0)
  ·exact h0.mono st.le
 ·intro k o hk;obtain⟨h1,h2⟩:=hH' k o hk;obtain⟨h3,h4⟩:=hst.heap k o h1;exact⟨st.le.dom k h3,st.keeps hst.wf h3 (λh=>h2 h.1) h4⟩
 ·exact hst.fresh
end freeze
theorem Re.trans {C:cE}{a b c:St}(h:Re C a b)(k:Re C b c):Re C a c:=λG0 w0 G w x h0 hs hst=>by
 obtain⟨G1,hs1,jN⟩:=h G0 w0 G w x h0 hs hst;exact k G0 w0 G1 w x h0 hs1 jN
section more
variable {C:cE}{ev:aT}{f:FuncId}{H:Heap}{n t:Nat}{sp:List (Nat×TV)}{d:Option Tmp}
theorem XL {src dst e:TypeId}{ti td te:TI}{x:Operand}{s:List UInt8}(h:dz C n sp x=some (.t (.str s)))(ha:d.any (C.jy f)=false)(ht:C.P.ty src=some ti)(hd:ti.desc=.string)(ht2:C.P.ty dst=some td)(hd2:td.desc=.slice e)
 (hte:C.P.ty e=some te)(hde:te.desc=.int .u8):dJ C ev f H n sp t d (.convert src dst x) (.t (.sl (s.map λb=>.int .u8 b.toNat))) []:=λ_ _ _ _=>by
 simp only[aP,evalOp,dK h,q5,aW,ht,ht2,hd,hd2,hte,hde,ha,Bool.false_eq_true,if_false]
end more
section adu
variable {C:cE}{ev:aT}{f:FuncId}{H:Heap}{n t:Nat}{sp:List (Nat×TV)}{d:Option Tmp}
end adu
end Go.Abs
end
