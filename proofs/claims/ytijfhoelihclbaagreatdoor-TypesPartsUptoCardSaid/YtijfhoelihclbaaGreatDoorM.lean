/- Seat r3: its interpreter, its summaries. -/
import Derived.Test.YtijfhoelihclbaaGreatDoorJ
import Derived.Test.YtijfhoelihclbaaGreatDoorK
import Derived.Test.YtijfhoelihclbaaGreatDoorL
import Derived.Test.YtijfhoelihclbaaGreatDoorShelf
import Derived.Test.YtijfhoelihclbaaGreatDoorChecked
import Derived.Tactics2
import Derived.Defers
import Derived.Recover
import Derived.Laws.Pointers
import Derived.Test.YtijfhoelihclbaaGreatDoorI
namespace Go.Proofs.YtijfhoelihclbaaGreatDoor.live
open Go Go.Abs Go.RowKit
noncomputable def prg:kK:={prog:=Tryz.prog,ty:=Q0 Tryz.prog,fn:=fun f=>Tryz.prog.funcs[f]?,adp:=fun _ _ h=>h,Q5:=fun _ _ h=>h}
noncomputable def rep (n:Nat)(x:Int):List Tree:=List.replicate n (.int .u8 x)
noncomputable def u8s (l:List Int):List Tree:=l.map (.int .u8 ·)
noncomputable def rA:List Tree:=rep 128 0xF0++rep 66 0xF1++rep 30 0x02++u8s [0x13]++rep 12 0x03++u8s [0x23]++rep 2 0x03++u8s [0x34]++rep 3 0x04++u8s [0x44]++rep 11 0xF1
noncomputable def rB:List Tree:=u8s [0x80,0xBF,0xA0,0xBF,0x80,0x9F,0x90,0xBF,0x80,0x8F]++rep 22 0
noncomputable def yf:List Tree:=rep 9 0++rep 5 1++rep 18 0++rep 1 1++rep 223 0
noncomputable def cfg (m:Int):dh:={P:=prg,iT:=fun|0=>some rA|1=>some rB|2=>some yf|4=>some [.int .i64 m]|_=>none,oy:=fun _ _=>false}
noncomputable def jG (m:Int):Ext:=fun|203=>some (x8 251)|188=>some (ru 5)|199=>some uo|185=>some lC|88=>some (CY (cfg m) 184)|_=>none
noncomputable def ext (m:Int):Ext:=fun|203=>some (x8 251)|188=>some (ru 5)|199=>some uo|185=>some lC|88=>some (CY (cfg m) 184)|70=>some (mE ng)|_=>none
theorem en (f:FuncId)(fn:Func)(h:Tryz.prog.funcs[f]?=some fn)(hn:(fn.name== "runtime.NumGoroutine")=false)(c:Code)(hb:fn.body=some c)(args:Array Value)(w:World):
  (callFunc f args).run Tryz.prog w=.ok (.enter f args) w:=by
 have h1:fn.name≠ "runtime.NumGoroutine" :=by simpa using hn
 simp[callFunc,h,h1,hb,mark]
theorem W5 (args:Array Value)(w:World):(callFunc 203 args).run Tryz.prog w=.ok (.enter 203 args) w:=en 203 Tryz.f203 Tryz.func203 (by kernel_rfl) _ rfl args w
theorem aaw (args:Array Value)(w:World):(callFunc 188 args).run Tryz.prog w=.ok (.enter 188 args) w:=en 188 Tryz.f188 Tryz.func188 (by kernel_rfl) _ rfl args w
theorem aax (args:Array Value)(w:World):(callFunc 199 args).run Tryz.prog w=.ok (.enter 199 args) w:=en 199 Tryz.f199 Tryz.func199 (by kernel_rfl) _ rfl args w
theorem aay (args:Array Value)(w:World):(callFunc 185 args).run Tryz.prog w=.ok (.enter 185 args) w:=en 185 Tryz.f185 Tryz.func185 (by kernel_rfl) _ rfl args w
theorem aaz (args:Array Value)(w:World):(callFunc 88 args).run Tryz.prog w=.ok (.enter 88 args) w:=en 88 Tryz.f88 Tryz.func88 (by kernel_rfl) _ rfl args w
set_option maxRecDepth 100000
theorem Bp (p:Addr)(pv:Value)(older:List PanicEntry)(w:World)(hc:w.cell? p=some (.bool false))(hz:w.frozen? p=false):
  CallsD Tryz.prog 120 #[.pointer (some p)] (.panicking ({v:=.iface 184 pv,recovered:=false}::older)) w fun e u' w'=>
   e=.returned (.tuple #[])∧u'=.panicking ({v:=.iface 184 pv,recovered:=true}::older)∧w'=w.setCell p (.bool false):=by
 refine callsD_of_wpS Tryz.func120 rfl fun c₀ cs hu=> ?_
 apply wpS_seq
 apply wpS_region
 simp[wpOpsS,go_sem,recoverD,hu,Tryz.ntmps120,Exit.thenS]
 show Code.wpS Tryz.prog _ _ {tmps:= #[Value.pointer (some p),Value.iface 184 pv,Value.iface 184 pv,undef,undef,undef,undef],defers:=[]} _ _
 refine wpS_of_wp ?_
 have hta:∀w,(Instr.typeAssert (.iface 184 pv) 20 184 false).run Tryz.prog w=.ok pv w:=by
  intro w
  simp[Instr.typeAssert,run_underlying Tryz.underlying184,go_sem,Result.andThen]
 go_wp2
 exact⟨rfl,.panicking ({v:=Value.iface 184 pv,recovered:=true}::older),rfl,.tuple #[],results_none rfl _ _ _,rfl,rfl,rfl⟩
theorem LO (p:Addr)(w:World):
  CallsD Tryz.prog 120 #[.pointer (some p)] .returning w fun e u' w'=>e=.returned (.tuple #[])∧u'=.returning∧w'=w:=by
 refine callsD_of_wpS Tryz.func120 rfl fun c₀ cs hu=> ?_
 apply wpS_seq
 apply wpS_region
 simp[wpOpsS,go_sem,recoverD,hu,Tryz.ntmps120,Exit.thenS]
 show Code.wpS Tryz.prog _ _ {tmps:= #[Value.pointer (some p),Value.nilIface,Value.nilIface,undef,undef,undef,undef],defers:=[]} _ _
 refine wpS_of_wp ?_
 go_wp2
 exact⟨rfl,.returning,by cases c₀;simp_all,.tuple #[],results_none rfl _ _ _,rfl,rfl,rfl⟩
theorem PV (rv:Value)(f:FuncId)(fs cs:Array Value)(w:World)(R:Ending→World→Prop)
    (Lx:∀args w,(callFunc f args).run Tryz.prog w=.ok (.enter f args) w)
    (A0:Calls Tryz.prog f (fs++cs) (w.alloc (.cells #[.bool false] 4)) R)
    (hR:∀e w',R e w'→w'.cell? ⟨w.heap.size,0,none⟩=some (.bool false)∧w'.frozen? ⟨w.heap.size,0,none⟩=false∧((∃v,e=.returned v)∨∃pv,e=.panicked [{v:=.iface 184 pv,recovered:=false}])):
    Calls Tryz.prog 88 #[rv,.func (.func f) fs cs] w fun e w'=>∃e' w2,R e' w2∧
      (((∃v,e'=.returned v)∧e=.returned (.bool true)∧w'=w2.setCell ⟨w.heap.size,0,none⟩ (.bool true))∨
       ((∃pv,e'=.panicked [{v:=.iface 184 pv,recovered:=false}])∧e=.returned (.bool false)∧w'=w2.setCell ⟨w.heap.size,0,none⟩ (.bool false))):=by
  have hmf:∀(fn:Fn) (first cap:Array Value) (w:World),(Instr.makeFunc fn first cap).run Tryz.prog w=.ok (.func fn first cap) w:=fun _ _ _ _=>rfl
  go_enter_defers Tryz.func88,Tryz.ntmps88
  go_wp2
  refine A0.mono ?_
  intro e w2 hr
  obtain⟨hc,hz,he⟩:=hR _ _ hr
  rcases he with ⟨v,rfl⟩|⟨pv,rfl⟩
  · simp only[]
    go_at_K
    go_wp2
    refine leaves_cons (f:=120) (args:= #[.pointer (some ⟨w.heap.size,0,none⟩)]) (by simp) (by simp[go_sem]) ?_
    refine(LO _ _).mono ?_
    rintro e u' w'' ⟨rfl,rfl,rfl⟩
    refine⟨.bool true, ?_,_,w2,hr,.inl ⟨⟨v,rfl⟩,rfl,rfl⟩⟩
    have hc':(w2.setCell ⟨w.heap.size,0,none⟩ (.bool true)).cell? ⟨w.heap.size,0,none⟩=some (.bool true):=World.cell?_setCell_same _ _ _ hc
    simp[results,Tryz.f88,Sem.run_bind,go_sem,hc']
  · simp only[]
    refine leaves_cons (f:=120) (args:= #[.pointer (some ⟨w.heap.size,0,none⟩)]) (by simp) (by simp[go_sem]) ?_
    refine(Bp _ pv [] _ hc hz).mono ?_
    rintro e u' w'' ⟨rfl,rfl,rfl⟩
    refine⟨.bool false, ?_,_,w2,hr,.inr ⟨⟨pv,rfl⟩,rfl,rfl⟩⟩
    have hc':(w2.setCell ⟨w.heap.size,0,none⟩ (.bool false)).cell? ⟨w.heap.size,0,none⟩=some (.bool false):=World.cell?_setCell_same _ _ _ hc
    simp[results,Tryz.f88,Sem.run_bind,go_sem,hc']
theorem aiS (m:Int):lD (cfg m) 188 (ru 5):=
 GD (C:=cfg m) aaw (fun b w h=>Jd Tryz.lays169 Tryz.Builder_Extra_169 b w h)
  (fun b a cap cells l w h1 h2 h3 h4 h5 h6 h7=>Je Tryz.lays169 Tryz.Builder_Extra_169 b a cap cells l w h1 h2 h3 h4 h5 h6 h7)
theorem Sy:(Tryz.prog.info? 251).map (·.size)=some 2:=by kernel_rfl
theorem PW (b:Nat)(w:World)(h0:w.cell? ⟨b,0,none⟩=some (.pointer (some ⟨b,0,none⟩))):
  Calls Tryz.prog 203 #[.pointer (some ⟨b,0,none⟩)] w fun e w'=>e=.returned (.tuple #[])∧w'=w:=by
 obtain⟨j,hj,_⟩:=Option.map_eq_some_iff.1 Sy
 go_enter Tryz.func203,Tryz.ntmps203
 go_wp2
 rw[Lib.run_neq_ptr_same w _ Tryz.underlying249 hj]
 go_wp2
 go_end0
 exact⟨rfl,rfl⟩
theorem LP (b:Nat)(w:World)(h0:w.cell? ⟨b,0,none⟩=some (.pointer none))(hsh:w.shape? b=some (251,2))(hfz:w.frozen? ⟨b,0,none⟩=false):
  Calls Tryz.prog 203 #[.pointer (some ⟨b,0,none⟩)] w fun e w'=>e=.returned (.tuple #[])∧w'=w.setCell ⟨b,0,none⟩ (.pointer (some ⟨b,0,none⟩)):=by
 obtain⟨j,hj,hjs⟩:=Option.map_eq_some_iff.1 Sy
 go_enter Tryz.func203,Tryz.ntmps203
 go_wp2
 rw[Lib.run_to_unsafe w ⟨b,0,none⟩ Tryz.underlying249 Tryz.underlying280 hj (by rw[hjs];decide) hsh (Nat.zero_lt_succ 1)]
 simp only[Result.andThen]
 rw[Oper.upon_value]
 go_wp2
 rw[run_callFunc_extern Tryz.func225 (by kernel_rfl) (by kernel_rfl) (by kernel_rfl) (e:=Extern.AbiNoEscape.same) (by kernel_rfl)]
 rw[Lib.run_noEscape]
 simp only[Result.andThen]
 rw[Oper.upon_value]
 go_wp2
 rw[Lib.run_from_unsafe w ⟨b,0,none⟩ Tryz.underlying280 Tryz.underlying249 hj hsh (by kernel_rfl)]
 simp only[Result.andThen]
 rw[Oper.upon_value]
 go_wp2
 go_end0
 exact⟨rfl,rfl⟩
theorem aaA (m:Int):lD (cfg m) 203 (x8 251):=
 Lz (C:=cfg m) W5 (fun b w h1 h2 h3=>LP b w h1 h2 h3)
  (fun b w h=>PW b w h)
theorem Sz (m:Int):lD (cfg m) 199 uo:=
 Ja (C:=cfg m) (gm:=4) (m:=m) rfl aax (fun s sub m w h1 h2=>Tryz.stringslite_Index s sub m w h1 h2)
theorem GG (m:Int):lD (cfg m) 185 lC:=
 Bo (C:=cfg m) aay (fun s c w=>Tryz.stringslite_IndexByte s c w)
theorem adR (m:Int):lD (cfg m) 88 (CY (cfg m) 184):=
 PU (C:=cfg m) (tb:=4) aaz (fun rv f fs cs w R h1 h2 h3=>PV rv f fs cs w R h1 h2 h3)
theorem yg (m:Int):E7 (cfg m) (jG m):=x9 (by
 intro g s h
 unfold jG at h
 split at h<;>first
  |(obtain rfl:=Option.some.inj h;first|exact aaA m|exact aiS m|exact Sz m|exact GG m|exact adR m)
  |cases h)
theorem ah (m:Int):(cfg m).P.prog.follows .mixedOrders=true:=by
 show Tryz.prog.follows .mixedOrders=true
 kernel_rfl
end Go.Proofs.YtijfhoelihclbaaGreatDoor.live

noncomputable section
namespace Go.Abs
open Go
set_option linter.unusedVariables false
variable {C:dh}{R:Type}
abbrev AX (C:dh)(c:Code)(st:St)(Q:R→aV→St→Prop):Prop:=∃r,AW C c st (Q r)
abbrev au (C:dh)(ops:Array Oper)(l:List Oper)(st:St)(Q:R→aV→St→Prop):Prop:=∃r,eH C ops l st (Q r)
abbrev aJ (C:dh)(ev:aS)(f:FuncId)(ops:Array Oper)(bs:List Nat)(t0 i:Nat)(l:List Oper)(n:Nat)(sp:List (Nat×TV))(H:Heap)(K:R→List Rec→List (Nat×TV)→Heap→Prop):Prop:=
 ∃r,tI C ev f ops bs t0 i l n sp H (K r)
section code
variable {st:St}{Q:R→aV→St→Prop}
theorem AX.re {c:Code}{st':St}(hr:Re C st st')(h:AX C c st' Q):AX C c st Q:=h.imp fun _ h=>AW.re hr h
theorem AX.skip (hq:∃r,Q r .normal st):AX C .skip st Q:=hq.imp fun _ h=>AW.skip h
theorem AX.label {l}(hq:∃r,Q r .normal st):AX C (.label l) st Q:=hq.imp fun _ h=>AW.label h
theorem AX.exit {id:Nat}(hq:∃r,Q r (.exit id) st):AX C (.exit id) st Q:=hq.imp fun _ h=>AW.exit h
theorem AX.ret (hq:∃r,Q r .ret st):AX C .ret st Q:=hq.imp fun _ h=>AW.ret h
theorem AX.seq {x y:Code}(h:AX C x st fun r=>WM C y (Q r)):AX C (.seq x y) st Q:=h.imp fun _ h=>AW.seq h
theorem AX.block {id:Nat}{c:Code}(h:AX C c st fun r=>Out id (Q r)):AX C (.block id c) st Q:=h.imp fun _ h=>AW.block h
theorem AX.cond {c:Operand}{x y:Code}{b:Bool}(hc:cU C st.slots c=some (.t (.bool b)))(h1:b=true→AX C x st Q)(h2:b=false→AX C y st Q):AX C (.cond c x y) st Q:=by
 cases b with
 |true=>exact(h1 rfl).imp fun _ h=>AW.cond hc (fun _=>h) fun e=>by cases e
 |false=>exact(h2 rfl).imp fun _ h=>AW.cond hc (fun e=>by cases e) fun _=>h
theorem AX.region {id:Nat}{ops:Array Oper}(h:au C ops ops.toList st Q):AX C (.region id ops false) st Q:=h.imp fun _ h=>AW.region h
def Leave (Q:aV→St→Prop):aV→St→Prop
 |.normal,_=>False
 |e,s=>Q e s
def C5 {α:Type}(C:dh)(st:α→St)(P:α→Prop)(Q:R→aV→St→Prop):{y:α // P y}⊕ R→aV→St→Prop
 |.inl y=>fun e s=>e=.normal∧Re C s (st y.1)
 |.inr r=>Leave (Q r)
theorem AX.leave {α:Type}{C:dh}{st:α→St}{P:α→Prop}{s:St}{e:aV}(he:e≠ .normal)(h:∃r,Q r e s):∃o,C5 C st P Q o e s:=by
 obtain⟨r,h⟩:=h
 refine⟨.inr r, ?_⟩
 cases e with
 |normal=>exact absurd rfl he
 |exit i=>exact h
 |ret=>exact h
 |panic v=>exact h
inductive Jf {α:Type}(C:dh)(st:α→St)(ok:α→Prop)(μ:α→Nat)(body:Code)(Q:R→aV→St→Prop):α→R→Prop
 |more {x y r} (hy:ok y) (hlt:μ y<μ x) (h:AW C body (st x) (fun e s=>e=.normal∧Re C s (st y))) (k:Jf C st ok μ body Q y r):Jf C st ok μ body Q x r
 |last {x r} (h:AW C body (st x) (Leave (Q r))):Jf C st ok μ body Q x r
theorem AX.loop {α:Type}(st:α→St)(ok:α→Prop)(μ:α→Nat){body:Code}(x0:α){s0:St}(hr:Re C s0 (st x0))(h0:ok x0)
  (h:∀x,ok x→AX C body (st x) (C5 C st (fun y=>ok y∧μ y<μ x) Q)):AX C (.loop body) s0 Q:=by
 have all:∀m x,μ x<m→ok x→∃r,Jf C st ok μ body Q x r:=by
  intro m
  induction m with
  |zero=>intro x hx;omega
  | succ m ih=>
   intro x hx hok
   obtain⟨o,ho⟩:=h x hok
   cases o with
   |inl y=>
    obtain⟨r,hr⟩:=ih y.1 (by have:=y.2.2;omega) y.2.1
    exact⟨r,.more y.2.1 y.2.2 ho hr⟩
   |inr r=>exact⟨r,.last ho⟩
 obtain⟨r,hl⟩:=all (μ x0+1) x0 (Nat.lt_succ_self _) h0
 refine⟨r,AW.loop st (fun x=>ok x∧Jf C st ok μ body Q x r) μ x0 hr ⟨h0,hl⟩ ?_⟩
 rintro x ⟨hok,hx⟩
 cases hx with
 |more hy hlt hb k=>
  refine AW.mono hb ?_
  rintro e s ⟨rfl,hre⟩
  exact⟨_,⟨hy,k⟩,hlt,hre⟩
 |last hb=>
  refine AW.mono hb ?_
  intro e s hq
  cases e with
  |normal=>exact hq.elim
  |exit i=>exact hq
  |ret=>exact hq
  |panic v=>exact hq
end code
section ops
variable {ev:aS}{f:FuncId}{ops:Array Oper}{r:List Oper}{n t:Nat}{sp:List (Nat×TV)}{H:Heap}{Q:R→aV→St→Prop}
theorem au.nil {st:St}(hq:∃r,Q r .normal st):au C ops [] st Q:=hq.imp fun _ h=>eH.nil h
theorem au.go {d:Tmp}{op:Op}{ty pos af}{v:TV}{u:Heap}(ai:aF C ev)(h:cq C ev f H n sp t (some d) op v u)(k:au C ops r ⟨bX n ((d,v)::sp),H.dJ u,t+1⟩ Q):
  au C ops (⟨some d,op,ty,pos,af,none⟩::r) ⟨bX n sp,H,t⟩ Q:=k.imp fun _ k=>eH.go ai h k
theorem au.qd {op:Op}{ty pos af}{v:TV}{u:Heap}(ai:aF C ev)(h:cq C ev f H n sp t none op v u)(k:au C ops r ⟨bX n sp,H.dJ u,t+1⟩ Q):
  au C ops (⟨none,op,ty,pos,af,none⟩::r) ⟨bX n sp,H,t⟩ Q:=k.imp fun _ k=>eH.qd ai h k
theorem au.gT {d:Tmp}{op:Op}{ty pos af}{j gd:Nat}{b:Bool}{v:TV}(ai:aF C ev)(hj:(ops[j]?).bind (·.dst)=some gd)(hn:Nat.blt gd n=true)(hl:look sp gd=.t (.bool b))
  (h:b=true→cq C ev f H n sp t (some d) op v [])(k:au C ops r ⟨bX n ((d,gv b v)::sp),H,t+1⟩ Q):au C ops (⟨some d,op,ty,pos,af,some (j,true)⟩::r) ⟨bX n sp,H,t⟩ Q:=k.imp fun _ k=>eH.gT ai hj hn hl h k
theorem au.gF {d:Tmp}{op:Op}{ty pos af}{j gd:Nat}{b:Bool}{v:TV}(ai:aF C ev)(hj:(ops[j]?).bind (·.dst)=some gd)(hn:Nat.blt gd n=true)(hl:look sp gd=.t (.bool b))
  (h:(!b)=true→cq C ev f H n sp t (some d) op v [])(k:au C ops r ⟨bX n ((d,gv (!b) v)::sp),H,t+1⟩ Q):au C ops (⟨some d,op,ty,pos,af,some (j,false)⟩::r) ⟨bX n sp,H,t⟩ Q:=k.imp fun _ k=>eH.gF ai hj hn hl h k
theorem au.nF {d:Tmp}{op:Op}{ty pos af}{j gd:Nat}{b g:Bool}{v:TV}(ai:aF C ev)(hj:(ops[j]?).bind (·.dst)=some gd)(hn:Nat.blt gd n=true)(hl:look sp gd=gv g (.t (.bool b)))
  (h:(g&& !b)=true→cq C ev f H n sp t (some d) op v [])(k:au C ops r ⟨bX n ((d,gv (g&& !b) v)::sp),H,t+1⟩ Q):au C ops (⟨some d,op,ty,pos,af,some (j,false)⟩::r) ⟨bX n sp,H,t⟩ Q:=k.imp fun _ k=>eH.nF ai hj hn hl h k
end ops
section drawn
variable {ev:aS}{f:FuncId}{ops:Array Oper}{bs:List Nat}{t0 i n:Nat}{r:List Oper}{sp:List (Nat×TV)}{H:Heap}{K:R→List Rec→List (Nat×TV)→Heap→Prop}
theorem aJ.nil (h:∃r,K r [] sp H):aJ C ev f ops bs t0 i [] n sp H K:=h.imp fun _ h=>tI.nil h
theorem aJ.go {d:Tmp}{op:Op}{ty pos af}{fp:List Nm}{v:TV}{u:Heap}(Nj:O4 C H (bX n sp) ⟨some d,op,ty,pos,af,none⟩=some fp)(h:cq C ev f (l5 H fp) n sp (t0+i) (some d) op v u)
  (k:aJ C ev f ops bs t0 (i+1) r n ((d,v)::sp) (H.dJ u) fun q rs sp' H'=>K q (⟨fp,.val v u⟩::rs) sp' H'):aJ C ev f ops bs t0 i (⟨some d,op,ty,pos,af,none⟩::r) n sp H K:=k.imp fun _ k=>tI.go Nj h k
theorem aJ.qd {op:Op}{ty pos af}{fp:List Nm}{v:TV}{u:Heap}(Nj:O4 C H (bX n sp) ⟨none,op,ty,pos,af,none⟩=some fp)(h:cq C ev f (l5 H fp) n sp (t0+i) none op v u)
  (k:aJ C ev f ops bs t0 (i+1) r n sp (H.dJ u) fun q rs sp' H'=>K q (⟨fp,.val v u⟩::rs) sp' H'):aJ C ev f ops bs t0 i (⟨none,op,ty,pos,af,none⟩::r) n sp H K:=k.imp fun _ k=>tI.qd Nj h k
theorem aJ.yes {d:Tmp}{op:Op}{ty pos af}{j gd:Nat}{w b:Bool}{fp:List Nm}{v:TV}{u:Heap}(hj:(ops[j]?).bind (·.dst)=some gd)(hn:Nat.blt gd n=true)(hl:look sp gd=.t (.bool b))(hb:(b==w)=true)
  (Nj:O4 C H (bX n sp) ⟨some d,op,ty,pos,af,some (j,w)⟩=some fp)(h:cq C ev f (l5 H fp) n sp (t0+i) (some d) op v u)
  (k:aJ C ev f ops bs t0 (i+1) r n ((d,v)::sp) (H.dJ u) fun q rs sp' H'=>K q (⟨fp,.val v u⟩::rs) sp' H'):aJ C ev f ops bs t0 i (⟨some d,op,ty,pos,af,some (j,w)⟩::r) n sp H K:=k.imp fun _ k=>tI.yes hj hn hl hb Nj h k
theorem aJ.no {d:Tmp}{op:Op}{ty pos af}{j gd:Nat}{w b:Bool}(hj:(ops[j]?).bind (·.dst)=some gd)(hn:Nat.blt gd n=true)(hl:look sp gd=.t (.bool b))(hb:(b==w)=false)
  (k:aJ C ev f ops bs t0 (i+1) r n ((d,b8)::sp) H fun q rs sp' H'=>K q (⟨[],.unwanted⟩::rs) sp' H'):aJ C ev f ops bs t0 i (⟨some d,op,ty,pos,af,some (j,w)⟩::r) n sp H K:=k.imp fun _ k=>tI.no hj hn hl hb k
theorem aJ.none {d:Tmp}{op:Op}{ty pos af}{j gd:Nat}{w:Bool}(hj:(ops[j]?).bind (·.dst)=some gd)(hn:Nat.blt gd n=true)(hl:look sp gd=b8)
  (k:aJ C ev f ops bs t0 (i+1) r n ((d,b8)::sp) H fun q rs sp' H'=>K q (⟨[],.unwanted⟩::rs) sp' H'):aJ C ev f ops bs t0 i (⟨some d,op,ty,pos,af,some (j,w)⟩::r) n sp H K:=k.imp fun _ k=>tI.none hj hn hl k
end drawn
theorem dP {a b:Prop}{c:R→Prop}(ha:a)(hb:b)(h:∃r,c r):∃r,a∧b∧c r:=h.imp fun _ h=>⟨ha,hb,h⟩
theorem AX.draw {ev:aS}{f:FuncId}{id:Nat}{ops:Array Oper}{n t:Nat}{sp:List (Nat×TV)}{H:Heap}{Q:R→aV→St→Prop}(hm:C.P.prog.follows .mixedOrders=true)(ai:aF C ev)
  (h:aJ C ev f ops (pY ops.toList []) t 0 ops.toList n sp H fun r recs sp' H'=>kL ops ops.toList recs (pY ops.toList []) ops.toList recs 0=true∧tN 0 ops.toList=true∧Q r .normal ⟨bX n sp',H',t+ops.size⟩):
  AX C (.region id ops true) ⟨bX n sp,H,t⟩ Q:=h.imp fun _ h=>AW.draw hm ai h
section ends
variable {st:St}{Q:R→aV→St→Prop}
theorem AX.bn {y:Code}(h:∃r,Q r .ret st):∃r,WM C y (Q r) .ret st:=h
theorem AX.dU {y:Code}{i:Nat}(h:∃r,Q r (.exit i) st):∃r,WM C y (Q r) (.exit i) st:=h
theorem AX.bp {id:Nat}(h:∃r,Q r .ret st):∃r,Out id (Q r) .ret st:=h
theorem AX.b9 {id:Nat}(h:∃r,Q r .normal st):∃r,Out id (Q r) .normal st:=h
theorem AX.fk {id:Nat}(h:∃r,Q r .normal st):∃r,Out id (Q r) (.exit id) st:=h.imp fun _ h=>by simp only[Out,if_true];exact h
end ends
theorem cE {b:Bool}(h:b=true):(b==true)=true:=by subst h;rfl
theorem cz {b:Bool}(h:b=false):(b==false)=true:=by subst h;rfl
theorem cM {b:Bool}(h:b=false):(b==true)=false:=by subst h;rfl
theorem aM {b:Bool}(h:b=true):(b==false)=false:=by subst h;rfl
section split
variable {ev:aS}{f:FuncId}{ops:Array Oper}{bs:List Nat}{t0 i n t:Nat}{r:List Oper}{l:List Oper}{sp:List (Nat×TV)}{H:Heap}
theorem aJ.split {K:R→List Rec→List (Nat×TV)→Heap→Prop}(gd:Nat){b:Bool}(hl:look sp gd=.t (.bool b))(h1:b=true→aJ C ev f ops bs t0 i l n sp H K)(h2:b=false→aJ C ev f ops bs t0 i l n sp H K):aJ C ev f ops bs t0 i l n sp H K:=by
 cases b with
 |true=>exact h1 rfl
 |false=>exact h2 rfl
variable {Q:R→aV→St→Prop}
theorem au.split (gd:Nat){b:Bool}(hl:look sp gd=.t (.bool b))(h1:b=true→au C ops l ⟨bX n sp,H,t⟩ Q)(h2:b=false→au C ops l ⟨bX n sp,H,t⟩ Q):au C ops l ⟨bX n sp,H,t⟩ Q:=by
 cases b with
 |true=>exact h1 rfl
 |false=>exact h2 rfl
theorem au.yes {d:Tmp}{op:Op}{ty pos af}{j gd:Nat}{w b:Bool}{v:TV}{u:Heap}(ai:aF C ev)(hj:(ops[j]?).bind (·.dst)=some gd)(hn:Nat.blt gd n=true)(hl:look sp gd=.t (.bool b))(hb:(b==w)=true)
  (h:cq C ev f H n sp t (some d) op v u)(k:au C ops r ⟨bX n ((d,v)::sp),H.dJ u,t+1⟩ Q):au C ops (⟨some d,op,ty,pos,af,some (j,w)⟩::r) ⟨bX n sp,H,t⟩ Q:=by
 refine k.imp fun _ k=>eH.step ai (by rw[jO rfl hj hn,hl];simp only[hb]) (h _ _ _ _) ?_
 rw[eC]
 exact k
theorem au.no {d:Tmp}{op:Op}{ty pos af}{j gd:Nat}{w b:Bool}(hj:(ops[j]?).bind (·.dst)=some gd)(hn:Nat.blt gd n=true)(hl:look sp gd=.t (.bool b))(hb:(b==w)=false)
  (k:au C ops r ⟨bX n ((d,b8)::sp),H,t+1⟩ Q):au C ops (⟨some d,op,ty,pos,af,some (j,w)⟩::r) ⟨bX n sp,H,t⟩ Q:=by
 refine k.imp fun _ k=>eH.unwanted (by rw[jO rfl hj hn,hl];simp only[hb]) ?_
 rw[eC]
 exact k
theorem au.none {d:Tmp}{op:Op}{ty pos af}{j gd:Nat}{w:Bool}(hj:(ops[j]?).bind (·.dst)=some gd)(hn:Nat.blt gd n=true)(hl:look sp gd=b8)
  (k:au C ops r ⟨bX n ((d,b8)::sp),H,t+1⟩ Q):au C ops (⟨some d,op,ty,pos,af,some (j,w)⟩::r) ⟨bX n sp,H,t⟩ Q:=by
 refine k.imp fun _ k=>eH.unwanted (by rw[jO rfl hj hn,hl];rfl) ?_
 rw[eC]
 exact k
theorem AX.l9 {st:St}{c:Operand}{x y:Code}{b:Bool}(hc:cU C st.slots c=some (.t (.bool b)))(hb:b=true)(h:AX C x st Q):AX C (.cond c x y) st Q:=AX.cond hc (fun _=>h) (fun e=>by rw[hb] at e;cases e)
theorem AX.l8 {st:St}{c:Operand}{x y:Code}{b:Bool}(hc:cU C st.slots c=some (.t (.bool b)))(hb:b=false)(h:AX C y st Q):AX C (.cond c x y) st Q:=AX.cond hc (fun e=>by rw[hb] at e;cases e) (fun _=>h)
variable {d:Option Tmp}
theorem bq {c x y:Operand}{b:Bool}{u v:TV}(hc:bO C n sp c=some (.t (.bool b)))(hb:b=true)(hx:bO C n sp x=some u)(hy:bO C n sp y=some v):cq C ev f H n sp t d (.pick c x y) u []:=by
 subst hb;exact gO hc hx hy
theorem dI {c x y:Operand}{b:Bool}{u v:TV}(hc:bO C n sp c=some (.t (.bool b)))(hb:b=false)(hx:bO C n sp x=some u)(hy:bO C n sp y=some v):cq C ev f H n sp t d (.pick c x y) v []:=by
 subst hb;exact gO hc hx hy
theorem pG {ty:TypeId}{ti:TI}{x lo:Operand}{s:List UInt8}{m:Nat}(h:bO C n sp x=some (.t (.str s)))(hi:bO C n sp lo=some (.t (.int .i64 (m:Int))))(ht:C.P.ty ty=some ti)(hd:ti.desc=.string)(hm:m≤s.length):
  cq C ev f H n sp t d (.slice ty x (some lo) none none) (.t (.str (s.drop m))) []:=fun _ _ _ _=>by
 have h1:eO (some (.t (.int .i64 (m:Int)))) 0=some m:=by simp[eO,fh]
 have h2:eO none s.length=some s.length:=rfl
 have h3:rX C (bX n sp) (some lo)=some (some (.t (.int .i64 (m:Int)))):=by simp[rX,bL hi]
 have h4:rX C (bX n sp) none=some none:=rfl
 simp only[aX,evalOp,bL h,h3,h4,B1,bf,ht,hd,h1,h2,hm,Nat.le_refl,and_self,if_true,List.take_length]
 rfl
theorem mG {src dst:TypeId}{x:Operand}{a v:TV}(h:bO C n sp x=some a)(hv:∀oy nm H,qN C.P oy nm H src dst a=some (v,[])):cq C ev f H n sp t d (.convert src dst x) v []:=fun _ _ _ _=>by
 simp only[aX,evalOp,bL h,hv]
theorem yh {fo:Operand}{g:FuncId}{args:Array Operand}{ats:Array TypeId}{ts:List Tree}{x:Tree}(hf:bO C n sp fo=some (.t (.fn (.func g))))(h:lB C n sp args.toList=some (ts.map .t))(he:ev g (ts.map .t) []=some (.ret (.t x) [] [])):
  cq C ev f H n sp t d (.call ⟨.value fo,args,ats⟩) (.t x) []:=
 Gx (by simp only[jm,bL hf,um h]) (AY he)
theorem mH {ty elem len:Nat}{ti te:TI}{x i:Operand}{cs:List Tree}{off m:Nat}{k:IntKind}(h:bO C n sp x=some (.jL cs off))(hi:bO C n sp i=some (.t (.int k (m:Int))))(ht:C.P.ty ty=some ti)(hd:ti.desc=.array len elem)
  (hte:C.P.ty elem=some te)(hm:m<len):cq C ev f H n sp t d (.indexAddr ty x i) (.jL cs (off+m*te.size)) []:=
 AV h hi (by
  have h1:fh (.t (.int k (m:Int)))=some m:=by simp[fh]
  simp only[eN,bf,ht,h1,hd,hte,hm,if_true,ov])
theorem SA {cs:List Tree}{off:Nat}{c:Tree}(h:cs[off]?=some c):partT false 1 (cs.map .t) off=some (.t c):=by
 simp[partT,h]
end split
theorem AX.start {f:FuncId}{fn:Func}{body:Code}{args:List TV}{aR:List aQ}{res:R→bG}(n k:Nat)(Cy:C.P.fn f=some fn)(hbody:fn.body=some body)(hname:fn.name≠ "runtime.NumGoroutine")
  (hn:fn.ntmps=n)(ha:args.length=k)(hk:k≤n)(h:AX C body ⟨bX n (wq 0 args),cH 0 aR,0⟩ (fun r=>cv C fn aR.length (res r))):∃r,ay C f args aR (res r):=
 h.imp fun _ h=>mD n k Cy hbody hname hn ha hk h
section freeze
variable {C:dh}
theorem Re.freeze {n d N:Nat}{sp:List (Nat×TV)}{H H':Heap}{t:Nat}{tr:Tree}{ks:List Nm}(hfz:og H N (look sp d)=some (tr,ks))(hH':∀k o,H'.get k=some o→H.get k=some o∧k∉ks)(hdn:d<n):
    Re C ⟨bX n sp,H,t⟩ ⟨bX n ((d,.t tr)::sp),H',t⟩:=by
  intro G0 w0 G w a h0 hs hst
  have st:=gY hst.wf hst.heap ks
  refine⟨G.frozen w H ks,(hs.trans st).mono (fun _ _ _=>trivial) (fun k h=>h.elim id False.elim),st.wf,hst.iT.mono st.le, ?_, ?_, ?_⟩
  · have hl:=hst.slots
    refine⟨by have:=hl.1;simpa [eS] using this,fun i c v hc hv=> ?_⟩
    have hi:i<n:=by have:=(List.getElem?_eq_some_iff.1 hc).1;simpa [eS] using this
    rw[kD hi,Option.some.injEq] at hc
    subst hc
    have h0:=hl.2 i (look sp i) v (kD hi) hv
    rw[kP]
    split
    · rename_i e
      subst e
      exact .t _ _ (zQ hst.wf hst.heap ks N _ tr ks v hfz (fun _ h=>h) h0)
    · exact h0.mono st.le
  · intro k o hk
    obtain⟨h1,h2⟩:=hH' k o hk
    obtain⟨h3,h4⟩:=hst.heap k o h1
    exact⟨st.le.dom k h3,st.keeps hst.wf h3 (fun h=>h2 h.1) h4⟩
  · exact hst.fresh
end freeze
theorem Re.trans {C:dh}{a b c:St}(h:Re C a b)(k:Re C b c):Re C a c:=fun G0 w0 G w x h0 hs hst=>by
 obtain⟨G1,hs1,mB⟩:=h G0 w0 G w x h0 hs hst
 exact k G0 w0 G1 w x h0 hs1 mB
theorem SB {H:Heap}{k0:Nm}{o0:aQ}{ks:List Nm}(h:H.get k0=some o0)(hn:k0∉ks):∀k o,Heap.get [(k0,o0)] k=some o→H.get k=some o∧k∉ks:=by
 intro k o hk
 simp only[Heap.get] at hk
 by_cases e:k0=k
 · subst e;rw[if_pos rfl] at hk;cases hk;exact⟨h,hn⟩
 · rw[if_neg e] at hk;cases hk
section more
variable {C:dh}{ev:aS}{f:FuncId}{H:Heap}{n t:Nat}{sp:List (Nat×TV)}{d:Option Tmp}
theorem adS {ty elem:TypeId}{ti te:TI}{x y z:Operand}{es:List Tree}(hx:bO C n sp x=some (.t (.sl es)))(hy:bO C n sp y=some (.t (.int .i64 es.length)))(hz:bO C n sp z=some (.t (.int .i64 es.length)))
  (ht:C.P.ty ty=some ti)(hd:ti.desc=.slice elem)(hte:C.P.ty elem=some te)(hh:iQ te.size es=true):cq C ev f H n sp t d (.slice ty x none (some y) (some z)) (.k5 es) []:=fun _ _ _ _=>by
 have h1:eO (some (.t (.int .i64 (es.length:Int)))) es.length=some es.length:=by simp[eO,fh]
 have h2:eO none 0=some 0:=rfl
 have h3:rX C (bX n sp) (some y)=some (some (.t (.int .i64 (es.length:Int)))):=by simp[rX,bL hy]
 have h5:rX C (bX n sp) (some z)=some (some (.t (.int .i64 (es.length:Int)))):=by simp[rX,bL hz]
 have h4:rX C (bX n sp) none=some none:=rfl
 have hl:xb H (.t (.sl es))=some es.length:=rfl
 simp only[aX,evalOp,bL hx,h3,h4,h5,B1,bf,ht,hd,hte,hl,h1,h2,Option.isNone_some,Option.isSome_some,Bool.false_or,Nat.zero_le,Nat.le_refl,and_self,if_true,hh,O3,Bool.true_and,beq_self_eq_true,List.take_length,List.drop_zero]
 rfl
theorem aaB {ty r2:TypeId}{x y:Operand}{j:Nat}(h:bO C n sp x=some (.t (.int .i64 ((j+1:Nat):Int))))(h2:bO C n sp y=some (.t (.int .i64 1)))(hj:j≤4194304):cq C ev f H n sp t d (.binOp .sub ty x y r2) (.t (.int .i64 (j:Int))) []:=by
 have:=WV (ev:=ev) (f:=f) (H:=H) (t:=t) (d:=d) (ty:=ty) (r2:=r2) h h2 (by omega) (by omega)
 rwa [show((j+1:Nat):Int) - 1=(j:Int) by omega] at this
theorem W6 {src dst e:TypeId}{ti td te:TI}{x:Operand}{s:List UInt8}(h:bO C n sp x=some (.t (.str s)))(ha:d.any (C.oy f)=false)(ht:C.P.ty src=some ti)(hd:ti.desc=.string)(ht2:C.P.ty dst=some td)(hd2:td.desc=.slice e)
  (hte:C.P.ty e=some te)(hde:te.desc=.int .u8):cq C ev f H n sp t d (.convert src dst x) (.t (.sl (s.map fun b=>.int .u8 b.toNat))) []:=fun _ _ _ _=>by
 simp only[aX,evalOp,bL h,qN,bf,ht,ht2,hd,hd2,hte,hde,ha,Bool.false_eq_true,if_false]
end more
section adT
variable {C:dh}{ev:aS}{f:FuncId}{H:Heap}{n t:Nat}{sp:List (Nat×TV)}{d:Option Tmp}
end adT
end Go.Abs
end
