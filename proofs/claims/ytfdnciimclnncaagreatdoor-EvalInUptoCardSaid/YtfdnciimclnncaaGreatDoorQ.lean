/- More rules: what is learnt of truth values; literals of more than one; calls whose arguments become data; functions of data told by a function. -/
import Derived.Test.YtfdnciimclnncaaGreatDoorM
set_option linter.unusedVariables false
set_option linter.unusedSimpArgs false
noncomputable section
namespace Go.Abs
open Go
theorem wL {b:Bool}(h:(!b)=true):b=false:=by cases b<;>simp_all
theorem kJ {b:Bool}(h:(!b)=false):b=true:=by cases b<;>simp_all
theorem cg {α:Type}[BEq α][LawfulBEq α]{a b:α}(h:(a != b)=false):a=b:=by simpa using h
theorem dI {α:Type}[BEq α][LawfulBEq α]{a b:α}(h:(a != b)=true):a≠b:=by simpa using h
theorem bx {P:Tree->Prop}{x:Tree}{l:List Tree}(h:P x)(k:∀y∈l,P y):∀y∈x::l,P y:=λy hy=>by
 rcases List.mem_cons.1 hy with rfl|hy
 ·exact h
 ·exact k y hy
section
variable {C:ew}{ev:bp}{f:FuncId}{n:Nat}{sp:List (Nat×TV)}{H:Heap}{t:Nat}{d:Option Tmp}
def ZR:TypeDesc->Bool
 |.interface _=>true
 |_=>false
theorem apA {ty:TypeId}{ti:TI}{x:Operand}{v w:TV}(h:fq C n sp x=some v)(ht:C.P.ty ty=some ti)(hd:ZR ti.desc=false)(hw:(match v with|.t x=>.t (.iface ty x)|v=>.iface ty v:TV)=w):fH C ev f H n sp t d (.makeInterface ty x) w []:=λ_ _ _ _=>by
 simp only[bk,evalOp,fL h,bw,ht];generalize ti.desc=q at hd ⊢;subst hw;cases q with
 |interface _=>cases hd
 |_=>cases v<;>rfl
end
section
variable {C:ew}{ev:bp}{f:FuncId}{n:Nat}{sp:List (Nat×TV)}{H:Heap}{t:Nat}{d:Option Tmp}
end
theorem ai.iE {C:ew}{g:FuncId}{args:List TV}{bq:List aP}{r:br}(h:∃_:Unit,ai C g args bq r):ai C g args bq r:=h.elim λ_ h=>h
theorem wM {sz:Nat}{es:List Tree}{i j:Nat}{e e':Tree}{vs:List Tree}(hu:∀e∈es,e.cells.length=sz)(he:es[i]?=some e)(hj:j+vs.length<=sz)(hc:e'.cells=e.cells.take j++vs++e.cells.drop (j+vs.length)):
 dH ((flat es).map .t) (i*sz+j) (vs.map .t)=(flat (es.set i e')).map .t:=by
 have hl:e.cells.length=sz:=hu e (List.mem_of_getElem? he)
 have hi:i<es.length:=(List.getElem?_eq_some_iff.1 he).1
 have hl':e'.cells.length=sz:=by rw[hc];simp;omega
 have nj:∀x∈es.set i e',x.cells.length=sz:=λx hx=>by
  rcases List.mem_or_eq_of_mem_set hx with h|h
  ·exact hu x h
  ·rw[h];exact hl'
 have asY:(flat es).length=es.length*sz:=fF hu
 have hmul:(i+1) *sz<=es.length*sz:=Nat.mul_le_mul_right _ hi
 rw[Nat.succ_mul] at hmul
 rw[← hl] at hj hmul
 have hsr:dH ((flat es).map .t) (i*sz+j) (vs.map .t)=((flat es).take (i*sz+j)++vs++(flat es).drop (i*sz+j+vs.length)).map TV.t:=by
  simp only[dH,List.map_append,List.map_take,List.map_drop,List.length_map]
 rw[hsr]
 congr 1
 have split:flat es=flat (es.take i)++(e.cells++flat (es.drop (i+1))):=by
  conv=>lhs;rw[← List.take_append_drop i es]
  rw[flat,List.flatMap_append];congr 1;rw[List.drop_eq_getElem_cons hi];have:es[i]=e:=by rw[List.getElem?_eq_getElem hi] at he;exact Option.some.inj he
  simp[flat,this]
 have split':flat (es.set i e')=flat (es.take i)++(e'.cells++flat (es.drop (i+1))):=by
  rw[List.set_eq_take_append_cons_drop,if_pos hi,flat,List.flatMap_append];simp[flat]
 have hp:(flat (es.take i)).length=i*sz:=by
  rw[fF (λx hx=>hu x (List.mem_of_mem_take hx)),List.length_take,Nat.min_eq_left (by omega)]
 rw[split',hc,split]
 rw[← hp,List.take_length_add_append,List.append_assoc,List.append_assoc]
 congr 1
 rw[Nat.add_assoc,List.drop_length_add_append,List.take_append_of_le_length (by omega),List.append_assoc,List.drop_append_of_le_length (by omega)]
 simp[List.append_assoc]
theorem eV.set {ag:Bool}{sz:Nat}{es:List Tree}(h:eV ag sz es){e:Tree}(he:EOk ag sz e)(i:Nat):eV ag sz (es.set i e):=λx hx=>by
 rcases List.mem_or_eq_of_mem_set hx with h1|h1
 ·exact h x h1
 ·rw[h1];exact he
section
variable {C:ew}{ev:bp}{f:FuncId}{n:Nat}{sp:List (Nat×TV)}{H:Heap}{t:Nat}{d:Option Tmp}
end
theorem bK {α β:Type}[Inhabited β]{P:α->Prop}{Q:α->β->Prop}(h:∀a,P a->∃b,Q a b):∃f:α->β,∀a,P a->Q a (f a):=
 Classical.axiomOfChoice (r:=λa b=>P a->Q a b) λa=>by
  by_cases hp:P a
  ·obtain⟨b,hb⟩:=h a hp;exact⟨b,λ_=>hb⟩
  ·exact⟨default,λh=>absurd h hp⟩
section
variable {C:ew}{g:FuncId}{β:Type}{ev:bp}
def R0 (C:ew)(g:FuncId)(y:Tree):Prop:=ai C g [] [] (.ret (.t y) [] [])
def R1 (C:ew)(g:FuncId)(x y:Tree):Prop:=ai C g [.t x] [] (.ret (.t y) [] [])
def R2 (C:ew)(g:FuncId)(x x2 y:Tree):Prop:=ai C g [.t x,.t x2] [] (.ret (.t y) [] [])
def R3 (C:ew)(g:FuncId)(x x2 x3 y:Tree):Prop:=ai C g [.t x,.t x2,.t x3] [] (.ret (.t y) [] [])
def pc0 (y:Tree):List TV->List aP->Option br:=λvb os=>match vb,os with
 | [],[]=>some (.ret (.t y) [] [])
 |_,_=>none
open Classical in
def mW (P:Tree->Prop)(F:Tree->Tree):List TV->List aP->Option br:=λvb os=>match vb,os with
 | [.t x],[]=>if P x then some (.ret (.t (F x)) [] []) else none
 |_,_=>none
open Classical in
def rZ (P:Tree->Tree->Prop)(F:Tree->Tree->Tree):List TV->List aP->Option br:=λvb os=>match vb,os with
 | [.t x,.t y],[]=>if P x y then some (.ret (.t (F x y)) [] []) else none
 |_,_=>none
open Classical in
def pc3 (P:Tree->Tree->Tree->Prop)(F:Tree->Tree->Tree->Tree):List TV->List aP->Option br:=λvb os=>match vb,os with
 | [.t x,.t y,.t z],[]=>if P x y z then some (.ret (.t (F x y z)) [] []) else none
 |_,_=>none
theorem aiA {y:Tree}(h:R0 C g y):ko C g (pc0 y):=λargs bq r hr=>by
 unfold pc0 at hr;split at hr
 ·cases hr;exact h
 ·cases hr
theorem bU {P:Tree->Prop}{F:Tree->Tree}(h:∀x,P x->R1 C g x (F x)):ko C g (mW P F):=λargs bq r hr=>by
 unfold mW at hr;split at hr
 ·split at hr
  ·rename_i hp;cases hr;exact h _ hp
  ·cases hr
 ·cases hr
theorem dG {P:Tree->Tree->Prop}{F:Tree->Tree->Tree}(h:∀x y,P x y->R2 C g x y (F x y)):ko C g (rZ P F):=λargs bq r hr=>by
 unfold rZ at hr;split at hr
 ·split at hr
  ·rename_i hp;cases hr;exact h _ _ hp
  ·cases hr
 ·cases hr
theorem NP {P:Tree->Tree->Tree->Prop}{F:Tree->Tree->Tree->Tree}(h:∀x y z,P x y z->R3 C g x y z (F x y z)):ko C g (pc3 P F):=λargs bq r hr=>by
 unfold pc3 at hr;split at hr
 ·split at hr
  ·rename_i hp;cases hr;exact h _ _ _ hp
  ·cases hr
 ·cases hr
def Has (ev:bp)(g:FuncId)(s:List TV->List aP->Option br):Prop:=∀vb os r,s vb os=some r->ev g vb os=some r
theorem au {s:List TV->List aP->Option br}:Has (qz g s ev) g s:=λ_ _ _ h=>by unfold qz;rw[if_pos rfl];exact h
theorem az {g':FuncId}{s s':List TV->List aP->Option br}(hne:Nat.beq g g'=false)(h:Has ev g s):Has (qz g' s' ev) g s:=λ_ _ _ hs=>by
 unfold qz;rw[if_neg (by intro e;have:=Nat.ne_of_beq_eq_false hne;exact this e)];exact h _ _ _ hs
theorem mP {y:Tree}(h:Has ev g (pc0 y)):ev g [] []=some (.ret (.t y) [] []):=h _ _ _ rfl
theorem cE {P:Tree->Prop}{F:Tree->Tree}(h:Has ev g (mW P F)){x:Tree}(hp:P x):ev g [.t x] []=some (.ret (.t (F x)) [] []):=h _ _ _ (if_pos hp)
theorem eO {P:Tree->Tree->Prop}{F:Tree->Tree->Tree}(h:Has ev g (rZ P F)){x y:Tree}(hp:P x y):ev g [.t x,.t y] []=some (.ret (.t (F x y)) [] []):=h _ _ _ (if_pos hp)
theorem aen {P:Tree->Tree->Tree->Prop}{F:Tree->Tree->Tree->Tree}(h:Has ev g (pc3 P F)){x y z:Tree}(hp:P x y z):ev g [.t x,.t y,.t z] []=some (.ret (.t (F x y z)) [] []):=h _ _ _ (if_pos hp)
def RK (C:ew)(g:FuncId)(k:List TV)(AN:List aP)(x y:Tree):Prop:=ai C g (.t x::k) AN (.ret (.t y) AN [])
open Classical in
def pk (k:List TV)(AN:List aP)(P:Tree->Prop)(F:Tree->Tree):List TV->List aP->Option br:=λvb os=>match vb with
 |.t x::r=>if r=k/\os=AN/\P x then some (.ret (.t (F x)) AN []) else none
 |_=>none
theorem ZS {k:List TV}{AN:List aP}{P:Tree->Prop}{F:Tree->Tree}(h:∀x,P x->RK C g k AN x (F x)):ko C g (pk k AN P F):=λargs bq r hr=>by
 unfold pk at hr;split at hr
 ·split at hr
  ·rename_i hp;obtain⟨rfl,rfl,hp⟩:=hp;cases hr;exact h _ hp
  ·cases hr
 ·cases hr
theorem aiB {k:List TV}{AN:List aP}{P:Tree->Prop}{F:Tree->Tree}(h:Has ev g (pk k AN P F)){x:Tree}(hp:P x):ev g (.t x::k) AN=some (.ret (.t (F x)) AN []):=h _ _ _ (if_pos ⟨rfl,rfl,hp⟩)
theorem BV [Inhabited β]{P:Tree->Prop}{mk:β->Tree}{Post:Tree->β->Prop}(h:∀x,P x->∃r:{r:β // Post x r},R1 C g x (mk r.1)):∃F:Tree->β,∀x,P x->R1 C g x (mk (F x))/\Post x (F x):=
 bK (Q:=λx r=>R1 C g x (mk r)/\Post x r) λx hx=>by obtain⟨r,hr⟩:=h x hx;exact⟨r.1,hr,r.2⟩
theorem tK [Inhabited β]{P:Tree->Tree->Prop}{mk:β->Tree}{Post:Tree->Tree->β->Prop}(h:∀x y,P x y->∃r:{r:β // Post x y r},R2 C g x y (mk r.1)):∃F:Tree->Tree->β,∀x y,P x y->R2 C g x y (mk (F x y))/\Post x y (F x y):=by
 obtain⟨F,hF⟩:=bK (α:=Tree×Tree) (P:=λp=>P p.1 p.2) (Q:=λp r=>R2 C g p.1 p.2 (mk r)/\Post p.1 p.2 r) λp hp=>by obtain⟨r,hr⟩:=h p.1 p.2 hp;exact⟨r.1,hr,r.2⟩
 exact⟨λx y=>F (x,y),λx y hp=>hF (x,y) hp⟩
theorem al4 [Inhabited β]{P:Tree->Tree->Tree->Prop}{mk:β->Tree}{Post:Tree->Tree->Tree->β->Prop}(h:∀x y z,P x y z->∃r:{r:β // Post x y z r},R3 C g x y z (mk r.1)):∃F:Tree->Tree->Tree->β,∀x y z,P x y z->R3 C g x y z (mk (F x y z))/\Post x y z (F x y z):=by
 obtain⟨F,hF⟩:=bK (α:=Tree×Tree×Tree) (P:=λp=>P p.1 p.2.1 p.2.2) (Q:=λp r=>R3 C g p.1 p.2.1 p.2.2 (mk r)/\Post p.1 p.2.1 p.2.2 r) λp hp=>by obtain⟨r,hr⟩:=h p.1 p.2.1 p.2.2 hp;exact⟨r.1,hr,r.2⟩
 exact⟨λx y z=>F (x,y,z),λx y z hp=>hF (x,y,z) hp⟩
end
end Go.Abs
end
noncomputable section
namespace Go.Abs
open Go
theorem ZT {C:ew}{ev:bp}(aI:aC C ev){H:Heap}{g:FuncId}{args vc:List TV}{S:List Nm}{os os':List aP}{v v':TV}{news h h':Heap}{t:Nat}{G:Gh}{w:World}{vs:List Value}
 (hn:S.Nodup)(h1:TV.yZ (LL S) args=some vc)(h2:jM H S S=some os)(he:ev g vc os=some (.ret v os' news))(h3:v.rn (nN S t)=some v')(h4:kB S t S os'=some h)(h5:kC S t news=some h')
 (hw:WF G w)(hg:jK C G)(hH:HR G w H)(hfresh:∀p,¬G.dom (.loc (t::p)))(hv:dU G args vs):qD C.P g vs.toArray w (nu t G w (.val v' (h++h'))):=by
 have Ia:∀k∈S,G.dom k:=by
  intro k hk;obtain⟨j,hj⟩:=List.mem_iff_getElem?.1 hk;obtain⟨o,o',e1,_,_⟩:=(jT h2).2 j k hj;exact(hH k o e1).1
 have hc:=aI g vc os _ he (G.within S) w vs (AA hw hn Ia) (λx cs hx=>hg x cs hx)
  ⟨λi hi=>by have:=(jT h2).1;exact(by omega:i<S.length),λp d=>d⟩ (AB hH h2) (hv.rn mq h1)
 refine hc.mono λe w' he=> ?_
 obtain⟨x,G2,rfl,hs2,hl,Y4,Y5,hx⟩:=he
 have Nl:=wB hw hn Ia hfresh hs2
 have yI:=AE hn Ia hfresh hs2
 obtain⟨ek,_,hO⟩:=xL h4
 refine⟨x,G.back S t G2,rfl,Nl.mono (λk _ hk=> ?_) (λk hk=>hk),λk ob hm=> ?_,hx.rn yI h3⟩
 ·rw[List.map_append];exact List.mem_append_left _ (by rw[ek];exact hk)
 ·rcases List.mem_append.1 hm with hm|hm
  ·obtain⟨i,o',e1,e2,e3⟩:=hO k ob hm;obtain⟨d,ho⟩:=Y4 i o' e2;exact⟨.inl (Ia _ (List.mem_of_getElem? e1)),OR.rn yI (λ_ _ _=>rfl) (uT hn e1) ho e3⟩
  ·obtain⟨k',o',e1,e2,e3⟩:=C1 h5 k ob hm;obtain⟨el,d,ho⟩:=Y5 k' o' e1;cases k' with
   |arg i=>simp[Nm.jf] at el
   | loc p=>
     simp[nN] at e2
     subst e2
     exact⟨.inr ⟨p,rfl,d⟩,OR.rn yI (λ_ _ _=>rfl) (C0 (hfresh p) Ia) ho e3⟩
section
variable {C:ew}{ev:bp}{ops:Array Oper}{r:List Oper}{n:Nat}{sp:List (Nat×TV)}{H:Heap}{t:Nat}
theorem iP.ZU {Q:aR->St->Prop}{d:Tmp}{fo:Operand}{args:Array Operand}{ats:Array TypeId}{ty pos af gd}{g:FuncId}{va vc:List TV}{S:List Nm}{os os':List aP}{v v':TV}{news h h':Heap}(aI:aC C ev)
 (hwt:eX ops (eA n sp) ⟨some d,.call ⟨.value fo,args,ats⟩,ty,pos,af,gd⟩=some true)(hc:lX C (eA n sp) ⟨.value fo,args,ats⟩=some (g,va))(hn:S.Nodup)(h1:TV.yZ (LL S) va=some vc)(h2:jM H S S=some os)
 (he:ev g vc os=some (.ret v os' news))(h3:v.rn (nN S t)=some v')(h4:kB S t S os'=some h)(h5:kC S t news=some h')(k:iP C ops r ⟨eA n ((d,v')::sp),H.fk (h++h'),t+1⟩ Q):
 iP C ops (⟨some d,.call ⟨.value fo,args,ats⟩,ty,pos,af,gd⟩::r) ⟨eA n sp,H,t⟩ Q:=by
 intro G0 w0 G w a h0 hs hst R hR
 refine wpList_step λK hK=> ?_
 rw[jA hwt hst.slots]
 simp only[if_true]
 have hex:mz C.P ⟨some d,.call ⟨.value fo,args,ats⟩,ty,pos,af,gd⟩ a w (nu t G w (.val v' (h++h'))):=by
  obtain⟨first,captured,e,hv⟩:=Jh hst.slots hst.ku hc;have:=ZT aI hn h1 h2 he h3 h4 h5 hst.wf hst.ku hst.heap hst.fresh.not hv;rw[Array.toArray_toList] at this;exact PW rfl e this
 refine hex.wp nu.no (λx w' hr=> ?_) (λch w' hr=> ?_)
 ·obtain⟨x',G',e1,hs',hu,hv⟩:=hr;simp at e1;subst e1;refine hK _ _ (k G0 w0 G' w' _ h0 (dW.comp hs hs'.any) ?_ R λe st' _ _ _ h1 h2=>hR _ _ _ _ _ h1 (Good.Jr (put_defers _ _ _) h2));have:=hst.op (some d) hs' hu hv;rw[gp] at this;exact this
 ·obtain⟨x',G',e1,_⟩:=hr;simp at e1
variable {R:Type}{Q:R->aR->St->Prop}
theorem aO.ZU {d:Tmp}{fo:Operand}{args:Array Operand}{ats:Array TypeId}{ty pos af}{g:FuncId}{va vc:List TV}{S:List Nm}{os os':List aP}{v v':TV}{news h h':Heap}(aI:aC C ev)
 (hc:lX C (eA n sp) ⟨.value fo,args,ats⟩=some (g,va))(hn:S.Nodup)(h1:TV.yZ (LL S) va=some vc)(h2:jM H S S=some os)
 (he:ev g vc os=some (.ret v os' news))(h3:v.rn (nN S t)=some v')(h4:kB S t S os'=some h)(h5:kC S t news=some h')(k:aO C ops r ⟨eA n ((d,v')::sp),H.fk (h++h'),t+1⟩ Q):
 aO C ops (⟨some d,.call ⟨.value fo,args,ats⟩,ty,pos,af,Option.none⟩::r) ⟨eA n sp,H,t⟩ Q:=k.imp λ_ k=>iP.ZU aI rfl hc hn h1 h2 he h3 h4 h5 k
theorem aO.aiC {d:Tmp}{fo:Operand}{args:Array Operand}{ats:Array TypeId}{ty pos af}{j gd:Nat}{w b:Bool}{g:FuncId}{va vc:List TV}{S:List Nm}{os os':List aP}{v v':TV}{news h h':Heap}(aI:aC C ev)
 (hj:(ops[j]?).bind (·.dst)=some gd)(hb1:Nat.blt gd n=true)(hl:look sp gd=.t (.bool b))(hb:(b==w)=true)
 (hc:lX C (eA n sp) ⟨.value fo,args,ats⟩=some (g,va))(hn:S.Nodup)(h1:TV.yZ (LL S) va=some vc)(h2:jM H S S=some os)
 (he:ev g vc os=some (.ret v os' news))(h3:v.rn (nN S t)=some v')(h4:kB S t S os'=some h)(h5:kC S t news=some h')(k:aO C ops r ⟨eA n ((d,v')::sp),H.fk (h++h'),t+1⟩ Q):
 aO C ops (⟨some d,.call ⟨.value fo,args,ats⟩,ty,pos,af,some (j,w)⟩::r) ⟨eA n sp,H,t⟩ Q:=k.imp λ_ k=>iP.ZU aI (by rw[mN rfl hj hb1,hl];simp only[hb]) hc hn h1 h2 he h3 h4 h5 k
end
theorem ZV {H:Heap}{k:Nm}{S:List Nm}{g:TypeId×Bool}{cc:Nat}{fz:Bool}{ts:List Tree}(h:H.get k=some (.arr g cc fz (ts.map .t))):jM H S [k]=some [.arr g cc fz (ts.map .t)]:=by
 simp only[jM,h,aP.rn,s8,Option.map_some]
end Go.Abs
end
noncomputable section
namespace Go.Abs
open Go
def SM (es:List (TV×TV×Nat)):Prop:=∀e∈es,∃(s:List UInt8) (n:Int) (b:Nat),e=(.t (.str s),.t (.int .i64 n),b)
theorem SM.nil:SM []:=λ_ h=>by cases h
theorem SM.set {es:List (TV×TV×Nat)}(h:SM es)(i:Nat)(s:List UInt8)(n:Int)(b:Nat):SM (es.set i (.t (.str s),.t (.int .i64 n),b)):=λe he=>by
 rcases List.mem_or_eq_of_mem_set he with he|he
 ·exact h e he
 ·exact⟨s,n,b,he⟩
theorem NQ (a b:ByteArray):(a==b)=(a.data==b.data):=by cases a;cases b;rfl
section
variable {C:ew}{ty kt et:TypeId}{ti tk te:TI}{s:List UInt8}{es:List (TV×TV×Nat)}
variable {ev:bp}{f:FuncId}{H:Heap}{n:Nat}{sp:List (Nat×TV)}{t:Nat}{d:Option Tmp}
end
end Go.Abs
end
noncomputable section
namespace Go.Abs
open Go
theorem Re.sG {C:ew}{n:Nat}{sp:List (Nat×TV)}{H:Heap}{t:Nat}(i:Nat){v:TV}{m:Nat}{x:Tree}{ks:List Nm}(hi:look sp i=v)(hf:Go.Abs.sG H m v=some (x,ks)):Re C ⟨eA n sp,H,t⟩ ⟨eA n ((i,.t x)::sp),H.fk (eU H ks),t⟩:=λ_ _ G w a _ hs hst=>by
 have Xo:=kV hst.wf hst.heap ks;refine⟨G.frozen w H ks,dW.comp hs (Xo.mono (λ_ _ _=>trivial) (λ_ h=>h.elim)),⟨Xo.wf,hst.ku.mono Xo.le, ?_,HR.fk Xo hst.wf hst.heap (λk o hm=>wq hst.wf hst.heap hm) (λk _ hk=>pJ hk.1 hk.2),λp d=>hst.fresh p (by
  rcases Xo.news _ d with d|d
  ·exact d
  ·exact d.elim)⟩⟩
 have h:=hst.slots;refine⟨by have:=h.1;simpa [jc] using this,λj c u hc hu=> ?_⟩;have hj:j<n:=by
  have:=(List.getElem?_eq_some_iff.1 hc).1;rwa [jc] at this
 rw[rY hj,qI] at hc;by_cases e:j=i
 ·subst e;rw[if_pos rfl] at hc;cases hc;exact .t _ _ (IY hst.wf hst.heap ks m v x ks u hf (λ_ h=>h) (by rw[← hi];exact h.2 j _ u (rY hj) hu))
 ·rw[if_neg e] at hc;cases hc;exact(h.2 j _ u (rY hj) hu).mono Xo.le
end Go.Abs
end
noncomputable section
namespace Go.Abs
open Go
section
variable {C:ew}{ev:bp}{f:FuncId}{n:Nat}{sp:List (Nat×TV)}{H:Heap}{t:Nat}{d:Option Tmp}
end
theorem iP.re {C:ew}{ops:Array Oper}{l:List Oper}{st st':St}{Q:aR->St->Prop}(hr:Re C st st')(h:iP C ops l st' Q):iP C ops l st Q:=λG0 w0 G w a h0 hs hst=>by
 obtain⟨G',hs',qF⟩:=hr G0 w0 G w a h0 hs hst;exact h G0 w0 G' w a h0 hs' qF
theorem aO.re {R:Type}{C:ew}{ops:Array Oper}{l:List Oper}{st st':St}{Q:R->aR->St->Prop}(hr:Re C st st')(h:aO C ops l st' Q):aO C ops l st Q:=h.imp λ_ h=>iP.re hr h
theorem Qp:∀{a b:List Tree},a.map TV.t=b.map TV.t->a=b
 | [],[],_=>rfl
 |x::a,y::b,h=>by
  simp only[List.map_cons,List.cons.injEq,TV.t.injEq] at h
  rw[h.1,Qp h.2]
 | [],_::_,h=>by simp at h
 |_::_,[],h=>by simp at h
open Classical in
def pm (AN:List aP)(P:List Tree->Prop)(F:List Tree->Tree):List TV->List aP->Option br:=λvb os=>
 if h:∃xs,vb=.ptr (.arg 0) 0::xs.map .t/\os=AN/\P xs then some (.ret (.t (F h.choose)) AN []) else none
theorem aiD {ev:bp}{g:FuncId}{AN:List aP}{P:List Tree->Prop}{F:List Tree->Tree}(h:Has ev g (pm AN P F))(xs:List Tree)(hp:P xs):ev g (.ptr (.arg 0) 0::xs.map .t) AN=some (.ret (.t (F xs)) AN []):=h _ _ _ (by
 have hx:∃ys:List Tree,TV.ptr (.arg 0) 0::xs.map TV.t=.ptr (.arg 0) 0::ys.map .t/\AN=AN/\P ys:=⟨xs,rfl,rfl,hp⟩;unfold pm;rw[dif_pos hx];obtain⟨e1,_,_⟩:=hx.choose_spec;rw[← Qp (List.cons.inj e1).2])
end Go.Abs
end
