/- More rules: what is learnt of truth values; literals of more than one; calls whose arguments become data; functions of data told by a function. -/
import Derived.Test.YtacmmaaabfhhoaaGreatDoorM
set_option linter.unusedVariables false
set_option linter.unusedSimpArgs false
noncomputable section
namespace Go.Abs
open Go
theorem k6 {b:Bool}(h:(!b)=true):b=false:=by cases b<;>simp_all
theorem fJ {b:Bool}(h:(!b)=false):b=true:=by cases b<;>simp_all
theorem bx {α:Type}[BEq α][LawfulBEq α]{a b:α}(h:(a != b)=false):a=b:=by simpa using h
theorem dX {α:Type}[BEq α][LawfulBEq α]{a b:α}(h:(a != b)=true):a≠b:=by simpa using h
theorem bq {P:Tree->Prop}{x:Tree}{l:List Tree}(h:P x)(k:∀y∈l,P y):∀y∈x::l,P y:=λy hy=>by
 rcases List.mem_cons.1 hy with rfl|hy
 ·exact h
 ·exact k y hy
section
variable {C:cE}{ev:aX}{f:FuncId}{n:Nat}{sp:List (Nat×TV)}{H:Heap}{t:Nat}{d:Option Tmp}
def Rk:TypeDesc->Bool
 |.interface _=>true
 |_=>false
theorem aev {ty:TypeId}{ti:TI}{x:Operand}{v w:TV}(h:dM C n sp x=some v)(ht:C.P.ty ty=some ti)(hd:Rk ti.desc=false)(hw:(match v with|.t x=>.t (.iface ty x)|v=>.iface ty v:TV)=w):dS C ev f H n sp t d (.makeInterface ty x) w []:=λ_ _ _ _=>by
 simp only[aR,evalOp,ey h,bh,ht];generalize ti.desc=q at hd ⊢;subst hw;cases q with
 |interface _=>cases hd
 |_=>cases v<;>rfl
end
section
variable {C:cE}{ev:aX}{f:FuncId}{n:Nat}{sp:List (Nat×TV)}{H:Heap}{t:Nat}{d:Option Tmp}
theorem F7 {fo:Operand}{args:Array Operand}{ats:Array TypeId}{g:FuncId}{va vb vc:List TV}{ks S:List Nm}{os os':List aO}{v v':TV}{news h h':Heap}(hc:jv C (dU n sp) ⟨.value fo,args,ats⟩=some (g,va))(hf:lq H va=(vb,ks))
 (hr:reach (H.dH (cH H ks)) eE [] (TV.iR vb)=some S)(hn:S.Nodup)(h1:TV.tU (Dy S) vb=some vc)(h2:hM (H.dH (cH H ks)) S S=some os)(he:ev g vc os=some (.ret v os' news))
 (h3:v.rn (kW S t)=some v')(h4:iH S t S os'=some h)(h5:iI S t news=some h')(hk:C.jD f (d.getD 255)=false:=by rfl):dS C ev f H n sp t d (.call ⟨.value fo,args,ats⟩) v' ((cH H ks).filter (λp=> !(S.contains p.1))++h++h'):=by
 refine FU hc ?_ hk
 unfold pZ DZ
 rw[hf]
 simp only[hr,if_pos hn,h1,h2,he,h3,h4,h5]
end
theorem ai.k7 {C:cE}{g:FuncId}{args:List TV}{aP:List aO}{r:bz}(h:∃_:Unit,ai C g args aP r):ai C g args aP r:=h.elim λ_ h=>h
theorem IA {sz:Nat}{es:List Tree}{i j:Nat}{e e':Tree}{vs:List Tree}(hu:∀e∈es,e.cells.length=sz)(he:es[i]?=some e)(hj:j+vs.length<=sz)(hc:e'.cells=e.cells.take j++vs++e.cells.drop (j+vs.length)):
 cJ ((flat es).map .t) (i*sz+j) (vs.map .t)=(flat (es.set i e')).map .t:=by
 have hl:e.cells.length=sz:=hu e (List.mem_of_getElem? he)
 have hi:i<es.length:=(List.getElem?_eq_some_iff.1 he).1
 have hl':e'.cells.length=sz:=by rw[hc];simp;omega
 have j3:∀x∈es.set i e',x.cells.length=sz:=λx hx=>by
  rcases List.mem_or_eq_of_mem_set hx with h|h
  ·exact hu x h
  ·rw[h];exact hl'
 have ajy:(flat es).length=es.length*sz:=iK hu
 have hmul:(i+1) *sz<=es.length*sz:=Nat.mul_le_mul_right _ hi
 rw[Nat.succ_mul] at hmul
 rw[← hl] at hj hmul
 have hsr:cJ ((flat es).map .t) (i*sz+j) (vs.map .t)=((flat es).take (i*sz+j)++vs++(flat es).drop (i*sz+j+vs.length)).map TV.t:=by
  simp only[cJ,List.map_append,List.map_take,List.map_drop,List.length_map]
 rw[hsr]
 congr 1
 have split:flat es=flat (es.take i)++(e.cells++flat (es.drop (i+1))):=by
  conv=>lhs;rw[← List.take_append_drop i es]
  rw[flat,List.flatMap_append];congr 1;rw[List.drop_eq_getElem_cons hi];have:es[i]=e:=by rw[List.getElem?_eq_getElem hi] at he;exact Option.some.inj he
  simp[flat,this]
 have split':flat (es.set i e')=flat (es.take i)++(e'.cells++flat (es.drop (i+1))):=by
  rw[List.set_eq_take_append_cons_drop,if_pos hi,flat,List.flatMap_append];simp[flat]
 have hp:(flat (es.take i)).length=i*sz:=by
  rw[iK (λx hx=>hu x (List.mem_of_mem_take hx)),List.length_take,Nat.min_eq_left (by omega)]
 rw[split',hc,split]
 rw[← hp,List.take_length_add_append,List.append_assoc,List.append_assoc]
 congr 1
 rw[Nat.add_assoc,List.drop_length_add_append,List.take_append_of_le_length (by omega),List.append_assoc,List.drop_append_of_le_length (by omega)]
 simp[List.append_assoc]
theorem gP.set {ag:Bool}{sz:Nat}{es:List Tree}(h:gP ag sz es){e:Tree}(he:EOk ag sz e)(i:Nat):gP ag sz (es.set i e):=λx hx=>by
 rcases List.mem_or_eq_of_mem_set hx with h1|h1
 ·exact h x h1
 ·rw[h1];exact he
section
variable {C:cE}{ev:aX}{f:FuncId}{n:Nat}{sp:List (Nat×TV)}{H:Heap}{t:Nat}{d:Option Tmp}
end
theorem jN {α β:Type}[Inhabited β]{P:α->Prop}{Q:α->β->Prop}(h:∀a,P a->∃b,Q a b):∃f:α->β,∀a,P a->Q a (f a):=
 Classical.axiomOfChoice (r:=λa b=>P a->Q a b) λa=>by
  by_cases hp:P a
  ·obtain⟨b,hb⟩:=h a hp;exact⟨b,λ_=>hb⟩
  ·exact⟨default,λh=>absurd h hp⟩
section
variable {C:cE}{g:FuncId}{β:Type}{ev:aX}
def R0 (C:cE)(g:FuncId)(y:Tree):Prop:=ai C g [] [] (.ret (.t y) [] [])
def R1 (C:cE)(g:FuncId)(x y:Tree):Prop:=ai C g [.t x] [] (.ret (.t y) [] [])
def R2 (C:cE)(g:FuncId)(x x2 y:Tree):Prop:=ai C g [.t x,.t x2] [] (.ret (.t y) [] [])
def R3 (C:cE)(g:FuncId)(x x2 x3 y:Tree):Prop:=ai C g [.t x,.t x2,.t x3] [] (.ret (.t y) [] [])
def pc0 (y:Tree):List TV->List aO->Option bz:=λvb os=>match vb,os with
 | [],[]=>some (.ret (.t y) [] [])
 |_,_=>none
open Classical in
def pz (P:Tree->Prop)(F:Tree->Tree):List TV->List aO->Option bz:=λvb os=>match vb,os with
 | [.t x],[]=>if P x then some (.ret (.t (F x)) [] []) else none
 |_,_=>none
open Classical in
def ug (P:Tree->Tree->Prop)(F:Tree->Tree->Tree):List TV->List aO->Option bz:=λvb os=>match vb,os with
 | [.t x,.t y],[]=>if P x y then some (.ret (.t (F x y)) [] []) else none
 |_,_=>none
open Classical in
def pc3 (P:Tree->Tree->Tree->Prop)(F:Tree->Tree->Tree->Tree):List TV->List aO->Option bz:=λvb os=>match vb,os with
 | [.t x,.t y,.t z],[]=>if P x y z then some (.ret (.t (F x y z)) [] []) else none
 |_,_=>none
theorem Zh {y:Tree}(h:R0 C g y):mX C g (pc0 y):=λargs aP r hr=>by
 unfold pc0 at hr;split at hr
 ·cases hr;exact h
 ·cases hr
theorem cc {P:Tree->Prop}{F:Tree->Tree}(h:∀x,P x->R1 C g x (F x)):mX C g (pz P F):=λargs aP r hr=>by
 unfold pz at hr;split at hr
 ·split at hr
  ·rename_i hp;cases hr;exact h _ hp
  ·cases hr
 ·cases hr
theorem eC {P:Tree->Tree->Prop}{F:Tree->Tree->Tree}(h:∀x y,P x y->R2 C g x y (F x y)):mX C g (ug P F):=λargs aP r hr=>by
 unfold ug at hr;split at hr
 ·split at hr
  ·rename_i hp;cases hr;exact h _ _ hp
  ·cases hr
 ·cases hr
theorem Zi {P:Tree->Tree->Tree->Prop}{F:Tree->Tree->Tree->Tree}(h:∀x y z,P x y z->R3 C g x y z (F x y z)):mX C g (pc3 P F):=λargs aP r hr=>by
 unfold pc3 at hr;split at hr
 ·split at hr
  ·rename_i hp;cases hr;exact h _ _ _ hp
  ·cases hr
 ·cases hr
def Has (ev:aX)(g:FuncId)(s:List TV->List aO->Option bz):Prop:=∀vb os r,s vb os=some r->ev g vb os=some r
theorem aD {s:List TV->List aO->Option bz}:Has (mY g s ev) g s:=λ_ _ _ h=>by unfold mY;rw[if_pos rfl];exact h
theorem aq {g':FuncId}{s s':List TV->List aO->Option bz}(hne:Nat.beq g g'=false)(h:Has ev g s):Has (mY g' s' ev) g s:=λ_ _ _ hs=>by
 unfold mY;rw[if_neg (by intro e;have:=Nat.ne_of_beq_eq_false hne;exact this e)];exact h _ _ _ hs
theorem VM {y:Tree}(h:Has ev g (pc0 y)):ev g [] []=some (.ret (.t y) [] []):=h _ _ _ rfl
theorem cg {P:Tree->Prop}{F:Tree->Tree}(h:Has ev g (pz P F)){x:Tree}(hp:P x):ev g [.t x] []=some (.ret (.t (F x)) [] []):=h _ _ _ (if_pos hp)
theorem bY {P:Tree->Tree->Prop}{F:Tree->Tree->Tree}(h:Has ev g (ug P F)){x y:Tree}(hp:P x y):ev g [.t x,.t y] []=some (.ret (.t (F x y)) [] []):=h _ _ _ (if_pos hp)
theorem afA {P:Tree->Tree->Tree->Prop}{F:Tree->Tree->Tree->Tree}(h:Has ev g (pc3 P F)){x y z:Tree}(hp:P x y z):ev g [.t x,.t y,.t z] []=some (.ret (.t (F x y z)) [] []):=h _ _ _ (if_pos hp)
theorem yB [Inhabited β]{P:Tree->Prop}{mk:β->Tree}{Post:Tree->β->Prop}(h:∀x,P x->∃r:{r:β // Post x r},R1 C g x (mk r.1)):∃F:Tree->β,∀x,P x->R1 C g x (mk (F x))/\Post x (F x):=
 jN (Q:=λx r=>R1 C g x (mk r)/\Post x r) λx hx=>by obtain⟨r,hr⟩:=h x hx;exact⟨r.1,hr,r.2⟩
theorem qZ [Inhabited β]{P:Tree->Tree->Prop}{mk:β->Tree}{Post:Tree->Tree->β->Prop}(h:∀x y,P x y->∃r:{r:β // Post x y r},R2 C g x y (mk r.1)):∃F:Tree->Tree->β,∀x y,P x y->R2 C g x y (mk (F x y))/\Post x y (F x y):=by
 obtain⟨F,hF⟩:=jN (α:=Tree×Tree) (P:=λp=>P p.1 p.2) (Q:=λp r=>R2 C g p.1 p.2 (mk r)/\Post p.1 p.2 r) λp hp=>by obtain⟨r,hr⟩:=h p.1 p.2 hp;exact⟨r.1,hr,r.2⟩
 exact⟨λx y=>F (x,y),λx y hp=>hF (x,y) hp⟩
theorem afB [Inhabited β]{P:Tree->Tree->Tree->Prop}{mk:β->Tree}{Post:Tree->Tree->Tree->β->Prop}(h:∀x y z,P x y z->∃r:{r:β // Post x y z r},R3 C g x y z (mk r.1)):∃F:Tree->Tree->Tree->β,∀x y z,P x y z->R3 C g x y z (mk (F x y z))/\Post x y z (F x y z):=by
 obtain⟨F,hF⟩:=jN (α:=Tree×Tree×Tree) (P:=λp=>P p.1 p.2.1 p.2.2) (Q:=λp r=>R3 C g p.1 p.2.1 p.2.2 (mk r)/\Post p.1 p.2.1 p.2.2 r) λp hp=>by obtain⟨r,hr⟩:=h p.1 p.2.1 p.2.2 hp;exact⟨r.1,hr,r.2⟩
 exact⟨λx y z=>F (x,y,z),λx y z hp=>hF (x,y,z) hp⟩
end
end Go.Abs
end
noncomputable section
namespace Go.Abs
open Go
theorem Rl {C:cE}{ev:aX}(az:aF C ev){H:Heap}{g:FuncId}{args vc:List TV}{S:List Nm}{os os':List aO}{v v':TV}{news h h':Heap}{t:Nat}{G:Gh}{w:World}{vs:List Value}
 (hn:S.Nodup)(h1:TV.tU (Dy S) args=some vc)(h2:hM H S S=some os)(he:ev g vc os=some (.ret v os' news))(h3:v.rn (kW S t)=some v')(h4:iH S t S os'=some h)(h5:iI S t news=some h')
 (hw:WF G w)(hg:iA C G)(hH:HR G w H)(hfresh:∀p,¬G.dom (.loc (t::p)))(hv:cr G args vs):mG C.P g vs.toArray w (kY t G w (.val v' (h++h'))):=by
 have Bd:∀k∈S,G.dom k:=by
  intro k hk;obtain⟨j,hj⟩:=List.mem_iff_getElem?.1 hk;obtain⟨o,o',e1,_,_⟩:=(iL h2).2 j k hj;exact(hH k o e1).1
 have hc:=az g vc os _ he (G.within S) w vs (vB hw hn Bd) (λx cs hx=>hg x cs hx)
  ⟨λi hi=>by have:=(iL h2).1;exact(by omega:i<S.length),λp d=>d⟩ (vC hH h2) (hv.rn kj h1)
 refine hc.mono λe w' he=> ?_
 obtain⟨x,G2,rfl,wY,hl,Qk,J3,hx⟩:=he
 have FH:=rE hw hn Bd hfresh wY
 have tL:=vD hn Bd hfresh wY
 obtain⟨ek,_,hO⟩:=sL h4
 refine⟨x,G.back S t G2,rfl,FH.mono (λk _ hk=> ?_) (λk hk=>hk),λk ob hm=> ?_,hx.rn tL h3⟩
 ·rw[List.map_append];exact List.mem_append_left _ (by rw[ek];exact hk)
 ·rcases List.mem_append.1 hm with hm|hm
  ·obtain⟨i,o',e1,e2,e3⟩:=hO k ob hm;obtain⟨d,ho⟩:=Qk i o' e2;exact⟨.inl (Bd _ (List.mem_of_getElem? e1)),OR.rn tL (λ_ _ _=>rfl) (qD hn e1) ho e3⟩
  ·obtain⟨k',o',e1,e2,e3⟩:=yc h5 k ob hm;obtain⟨el,d,ho⟩:=J3 k' o' e1;cases k' with
   |arg i=>simp[Nm.eR] at el
   | loc p=>
     simp[kW] at e2
     subst e2
     exact⟨.inr ⟨p,rfl,d⟩,OR.rn tL (λ_ _ _=>rfl) (yb (hfresh p) Bd) ho e3⟩
section
variable {C:cE}{ev:aX}{ops:Array Oper}{r:List Oper}{n:Nat}{sp:List (Nat×TV)}{H:Heap}{t:Nat}
theorem cD.Rm {Q:aJ->St->Prop}{d:Tmp}{fo:Operand}{args:Array Operand}{ats:Array TypeId}{ty pos af gd}{g:FuncId}{va vc:List TV}{S:List Nm}{os os':List aO}{v v':TV}{news h h':Heap}(az:aF C ev)
 (hwt:dL ops (dU n sp) ⟨some d,.call ⟨.value fo,args,ats⟩,ty,pos,af,gd⟩=some true)(hc:jv C (dU n sp) ⟨.value fo,args,ats⟩=some (g,va))(hn:S.Nodup)(h1:TV.tU (Dy S) va=some vc)(h2:hM H S S=some os)
 (he:ev g vc os=some (.ret v os' news))(h3:v.rn (kW S t)=some v')(h4:iH S t S os'=some h)(h5:iI S t news=some h')(k:cD C ops r ⟨dU n ((d,v')::sp),H.dH (h++h'),t+1⟩ Q):
 cD C ops (⟨some d,.call ⟨.value fo,args,ats⟩,ty,pos,af,gd⟩::r) ⟨dU n sp,H,t⟩ Q:=by
 intro G0 w0 G w a h0 hs hst R hR
 refine wpList_step λK hK=> ?_
 rw[ie hwt hst.slots]
 simp only[if_true]
 have hex:ko C.P ⟨some d,.call ⟨.value fo,args,ats⟩,ty,pos,af,gd⟩ a w (kY t G w (.val v' (h++h'))):=by
  obtain⟨first,captured,e,hv⟩:=B1 hst.slots hst.iC hc;have:=Rl az hn h1 h2 he h3 h4 h5 hst.wf hst.iC hst.heap hst.fresh.not hv;rw[Array.toArray_toList] at this;exact HY rfl e this
 refine hex.wp kY.no (λx w' hr=> ?_) (λch w' hr=> ?_)
 ·obtain⟨x',G',e1,hs',hu,hv⟩:=hr;simp at e1;subst e1;refine hK _ _ (k G0 w0 G' w' _ h0 (cx.comp hs hs'.any) ?_ R λe st' _ _ _ h1 h2=>hR _ _ _ _ _ h1 (Good.Ca (put_defers _ _ _) h2));have:=hst.op (some d) hs' hu hv;rw[eU] at this;exact this
 ·obtain⟨x',G',e1,_⟩:=hr;simp at e1
variable {R:Type}{Q:R->aJ->St->Prop}
theorem aC.Rm {d:Tmp}{fo:Operand}{args:Array Operand}{ats:Array TypeId}{ty pos af}{g:FuncId}{va vc:List TV}{S:List Nm}{os os':List aO}{v v':TV}{news h h':Heap}(az:aF C ev)
 (hc:jv C (dU n sp) ⟨.value fo,args,ats⟩=some (g,va))(hn:S.Nodup)(h1:TV.tU (Dy S) va=some vc)(h2:hM H S S=some os)
 (he:ev g vc os=some (.ret v os' news))(h3:v.rn (kW S t)=some v')(h4:iH S t S os'=some h)(h5:iI S t news=some h')(k:aC C ops r ⟨dU n ((d,v')::sp),H.dH (h++h'),t+1⟩ Q):
 aC C ops (⟨some d,.call ⟨.value fo,args,ats⟩,ty,pos,af,Option.none⟩::r) ⟨dU n sp,H,t⟩ Q:=k.imp λ_ k=>cD.Rm az rfl hc hn h1 h2 he h3 h4 h5 k
theorem aC.Zj {d:Tmp}{fo:Operand}{args:Array Operand}{ats:Array TypeId}{ty pos af}{j gd:Nat}{w b:Bool}{g:FuncId}{va vc:List TV}{S:List Nm}{os os':List aO}{v v':TV}{news h h':Heap}(az:aF C ev)
 (hj:(ops[j]?).bind (·.dst)=some gd)(hb1:Nat.blt gd n=true)(hl:look sp gd=.t (.bool b))(hb:(b==w)=true)
 (hc:jv C (dU n sp) ⟨.value fo,args,ats⟩=some (g,va))(hn:S.Nodup)(h1:TV.tU (Dy S) va=some vc)(h2:hM H S S=some os)
 (he:ev g vc os=some (.ret v os' news))(h3:v.rn (kW S t)=some v')(h4:iH S t S os'=some h)(h5:iI S t news=some h')(k:aC C ops r ⟨dU n ((d,v')::sp),H.dH (h++h'),t+1⟩ Q):
 aC C ops (⟨some d,.call ⟨.value fo,args,ats⟩,ty,pos,af,some (j,w)⟩::r) ⟨dU n sp,H,t⟩ Q:=k.imp λ_ k=>cD.Rm az (by rw[kK rfl hj hb1,hl];simp only[hb]) hc hn h1 h2 he h3 h4 h5 k
end
theorem Rn {H:Heap}{k:Nm}{S:List Nm}{g:TypeId×Bool}{bE:Nat}{fz:Bool}{ts:List Tree}(h:H.get k=some (.arr g bE fz (ts.map .t))):hM H S [k]=some [.arr g bE fz (ts.map .t)]:=by
 simp only[hM,h,aO.rn,pR,Option.map_some]
end Go.Abs
end
noncomputable section
namespace Go.Abs
open Go
def SM (es:List (TV×TV×Nat)):Prop:=∀e∈es,∃(s:List UInt8) (n:Int) (b:Nat),e=(.t (.str s),.t (.int .i64 n),b)
theorem SM.nil:SM []:=λ_ h=>by cases h
theorem SM.set {es:List (TV×TV×Nat)}(h:SM es)(i:Nat)(s:List UInt8)(n:Int)(b:Nat):SM (es.set i (.t (.str s),.t (.int .i64 n),b)):=λe he=>by
 rcases List.mem_or_eq_of_mem_set he with he|he
 ·exact h e he
 ·exact⟨s,n,b,he⟩
theorem Kz (a b:ByteArray):(a==b)=(a.data==b.data):=by cases a;cases b;rfl
theorem Ex (P:iP)(kt:TypeId)(s k:List UInt8):DY P kt .string (.t (.str s)) (.t (.str k))=some ((⟨s.toArray⟩:ByteArray)==⟨k.toArray⟩):=rfl
section
variable {C:cE}{ty kt et:TypeId}{ti tk te:TI}{s:List UInt8}{es:List (TV×TV×Nat)}
variable {ev:aX}{f:FuncId}{H:Heap}{n:Nat}{sp:List (Nat×TV)}{t:Nat}{d:Option Tmp}
end
end Go.Abs
end
noncomputable section
namespace Go.Abs
open Go
theorem Re.pq {C:cE}{n:Nat}{sp:List (Nat×TV)}{H:Heap}{t:Nat}(i:Nat){v:TV}{m:Nat}{x:Tree}{ks:List Nm}(hi:look sp i=v)(hf:Go.Abs.pq H m v=some (x,ks)):Re C ⟨dU n sp,H,t⟩ ⟨dU n ((i,.t x)::sp),H.dH (cH H ks),t⟩:=λ_ _ G w a _ hs hst=>by
 have N6:=iJ hst.wf hst.heap ks;refine⟨G.frozen w H ks,cx.comp hs (N6.mono (λ_ _ _=>trivial) (λ_ h=>h.elim)),⟨N6.wf,hst.iC.mono N6.le, ?_,HR.dH N6 hst.wf hst.heap (λk o hm=>rB hst.wf hst.heap hm) (λk _ hk=>mC hk.1 hk.2),λp d=>hst.fresh p (by
  rcases N6.news _ d with d|d
  ·exact d
  ·exact d.elim)⟩⟩
 have h:=hst.slots;refine⟨by have:=h.1;simpa [fI] using this,λj c u hc hu=> ?_⟩;have hj:j<n:=by
  have:=(List.getElem?_eq_some_iff.1 hc).1;rwa [fI] at this
 rw[mJ hj,nu] at hc;by_cases e:j=i
 ·subst e;rw[if_pos rfl] at hc;cases hc;exact .t _ _ (zx hst.wf hst.heap ks m v x ks u hf (λ_ h=>h) (by rw[← hi];exact h.2 j _ u (mJ hj) hu))
 ·rw[if_neg e] at hc;cases hc;exact(h.2 j _ u (mJ hj) hu).mono N6.le
end Go.Abs
end
noncomputable section
namespace Go.Abs
open Go
section
variable {C:cE}{ev:aX}{f:FuncId}{n:Nat}{sp:List (Nat×TV)}{H:Heap}{t:Nat}{d:Option Tmp}
end
theorem cD.re {C:cE}{ops:Array Oper}{l:List Oper}{st st':St}{Q:aJ->St->Prop}(hr:Re C st st')(h:cD C ops l st' Q):cD C ops l st Q:=λG0 w0 G w a h0 hs hst=>by
 obtain⟨G',hs',lK⟩:=hr G0 w0 G w a h0 hs hst;exact h G0 w0 G' w a h0 hs' lK
theorem aC.re {R:Type}{C:cE}{ops:Array Oper}{l:List Oper}{st st':St}{Q:R->aJ->St->Prop}(hr:Re C st st')(h:aC C ops l st' Q):aC C ops l st Q:=h.imp λ_ h=>cD.re hr h
open Classical in
def pm (bxs:List aO)(P:List Tree->Prop)(F:List Tree->Tree):List TV->List aO->Option bz:=λvb os=>
 if h:∃xs,vb=.ptr (.arg 0) 0::xs.map .t/\os=bxs/\P xs then some (.ret (.t (F h.choose)) bxs []) else none
end Go.Abs
end
