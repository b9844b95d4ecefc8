/- More rules: what is learnt of truth values; literals of more than one; calls whose arguments become data; functions of data told by a function. -/
import Derived.Test.YtfdnciimclnncaaGreatDoorM
set_option linter.unusedVariables false
set_option linter.unusedSimpArgs false
noncomputable section
namespace Go.Abs
open Go
theorem wq {b:Bool}(h:(!b)=true):b=false:=by cases b<;>simp_all
theorem pH {b:Bool}(h:(!b)=false):b=true:=by cases b<;>simp_all
theorem bE {α:Type}[BEq α][LawfulBEq α]{a b:α}(h:(a != b)=false):a=b:=by simpa using h
theorem cG {α:Type}[BEq α][LawfulBEq α]{a b:α}(h:(a != b)=true):a≠b:=by simpa using h
theorem bI {P:Tree->Prop}{x:Tree}{l:List Tree}(h:P x)(k:∀y∈l,P y):∀y∈x::l,P y:=λy hy=>by
 rcases List.mem_cons.1 hy with rfl|hy
 ·exact h
 ·exact k y hy
section
variable {C:ey}{ev:bt}{f:FuncId}{n:Nat}{sp:List (Nat×TV)}{H:Heap}{t:Nat}{d:Option Tmp}
def ZH:TypeDesc->Bool
 |.interface _=>true
 |_=>false
theorem apu {ty:TypeId}{ti:TI}{x:Operand}{v w:TV}(h:eZ C n sp x=some v)(ht:C.P.ty ty=some ti)(hd:ZH ti.desc=false)(hw:(match v with|.t x=>.t (.iface ty x)|v=>.iface ty v:TV)=w):fE C ev f H n sp t d (.makeInterface ty x) w []:=λ_ _ _ _=>by
 simp only[bl,evalOp,fJ h,bx,ht];generalize ti.desc=q at hd ⊢;subst hw;cases q with
 |interface _=>cases hd
 |_=>cases v<;>rfl
end
section
variable {C:ey}{ev:bt}{f:FuncId}{n:Nat}{sp:List (Nat×TV)}{H:Heap}{t:Nat}{d:Option Tmp}
end
theorem ai.gO {C:ey}{g:FuncId}{args:List TV}{bu:List aO}{r:br}(h:∃_:Unit,ai C g args bu r):ai C g args bu r:=h.elim λ_ h=>h
theorem wu {sz:Nat}{es:List Tree}{i j:Nat}{e e':Tree}{vs:List Tree}(hu:∀e∈es,e.cells.length=sz)(he:es[i]?=some e)(hj:j+vs.length<=sz)(hc:e'.cells=e.cells.take j++vs++e.cells.drop (j+vs.length)):
 dN ((flat es).map .t) (i*sz+j) (vs.map .t)=(flat (es.set i e')).map .t:=by
 have hl:e.cells.length=sz:=hu e (List.mem_of_getElem? he)
 have hi:i<es.length:=(List.getElem?_eq_some_iff.1 he).1
 have hl':e'.cells.length=sz:=by rw[hc];simp;omega
 have mT:∀x∈es.set i e',x.cells.length=sz:=λx hx=>by
  rcases List.mem_or_eq_of_mem_set hx with h|h
  ·exact hu x h
  ·rw[h];exact hl'
 have asF:(flat es).length=es.length*sz:=fA hu
 have hmul:(i+1) *sz<=es.length*sz:=Nat.mul_le_mul_right _ hi
 rw[Nat.succ_mul] at hmul
 rw[← hl] at hj hmul
 have hsr:dN ((flat es).map .t) (i*sz+j) (vs.map .t)=((flat es).take (i*sz+j)++vs++(flat es).drop (i*sz+j+vs.length)).map TV.t:=by
  simp only[dN,List.map_append,List.map_take,List.map_drop,List.length_map]
 rw[hsr]
 congr 1
 have split:flat es=flat (es.take i)++(e.cells++flat (es.drop (i+1))):=by
  conv=>lhs;rw[← List.take_append_drop i es]
  rw[flat,List.flatMap_append];congr 1;rw[List.drop_eq_getElem_cons hi];have:es[i]=e:=by rw[List.getElem?_eq_getElem hi] at he;exact Option.some.inj he
  simp[flat,this]
 have split':flat (es.set i e')=flat (es.take i)++(e'.cells++flat (es.drop (i+1))):=by
  rw[List.set_eq_take_append_cons_drop,if_pos hi,flat,List.flatMap_append];simp[flat]
 have hp:(flat (es.take i)).length=i*sz:=by
  rw[fA (λx hx=>hu x (List.mem_of_mem_take hx)),List.length_take,Nat.min_eq_left (by omega)]
 rw[split',hc,split]
 rw[← hp,List.take_length_add_append,List.append_assoc,List.append_assoc]
 congr 1
 rw[Nat.add_assoc,List.drop_length_add_append,List.take_append_of_le_length (by omega),List.append_assoc,List.drop_append_of_le_length (by omega)]
 simp[List.append_assoc]
theorem eP.set {ag:Bool}{sz:Nat}{es:List Tree}(h:eP ag sz es){e:Tree}(he:EOk ag sz e)(i:Nat):eP ag sz (es.set i e):=λx hx=>by
 rcases List.mem_or_eq_of_mem_set hx with h1|h1
 ·exact h x h1
 ·rw[h1];exact he
section
variable {C:ey}{ev:bt}{f:FuncId}{n:Nat}{sp:List (Nat×TV)}{H:Heap}{t:Nat}{d:Option Tmp}
end
theorem bK {α β:Type}[Inhabited β]{P:α->Prop}{Q:α->β->Prop}(h:∀a,P a->∃b,Q a b):∃f:α->β,∀a,P a->Q a (f a):=
 Classical.axiomOfChoice (r:=λa b=>P a->Q a b) λa=>by
  by_cases hp:P a
  ·obtain⟨b,hb⟩:=h a hp;exact⟨b,λ_=>hb⟩
  ·exact⟨default,λh=>absurd h hp⟩
section
variable {C:ey}{g:FuncId}{β:Type}{ev:bt}
def R0 (C:ey)(g:FuncId)(y:Tree):Prop:=ai C g [] [] (.ret (.t y) [] [])
def R1 (C:ey)(g:FuncId)(x y:Tree):Prop:=ai C g [.t x] [] (.ret (.t y) [] [])
def R2 (C:ey)(g:FuncId)(x x2 y:Tree):Prop:=ai C g [.t x,.t x2] [] (.ret (.t y) [] [])
def R3 (C:ey)(g:FuncId)(x x2 x3 y:Tree):Prop:=ai C g [.t x,.t x2,.t x3] [] (.ret (.t y) [] [])
def pc0 (y:Tree):List TV->List aO->Option br:=λvb os=>match vb,os with
 | [],[]=>some (.ret (.t y) [] [])
 |_,_=>none
open Classical in
def mL (P:Tree->Prop)(F:Tree->Tree):List TV->List aO->Option br:=λvb os=>match vb,os with
 | [.t x],[]=>if P x then some (.ret (.t (F x)) [] []) else none
 |_,_=>none
open Classical in
def rN (P:Tree->Tree->Prop)(F:Tree->Tree->Tree):List TV->List aO->Option br:=λvb os=>match vb,os with
 | [.t x,.t y],[]=>if P x y then some (.ret (.t (F x y)) [] []) else none
 |_,_=>none
open Classical in
def pc3 (P:Tree->Tree->Tree->Prop)(F:Tree->Tree->Tree->Tree):List TV->List aO->Option br:=λvb os=>match vb,os with
 | [.t x,.t y,.t z],[]=>if P x y z then some (.ret (.t (F x y z)) [] []) else none
 |_,_=>none
theorem aik {y:Tree}(h:R0 C g y):kN C g (pc0 y):=λargs bu r hr=>by
 unfold pc0 at hr;split at hr
 ·cases hr;exact h
 ·cases hr
theorem bR {P:Tree->Prop}{F:Tree->Tree}(h:∀x,P x->R1 C g x (F x)):kN C g (mL P F):=λargs bu r hr=>by
 unfold mL at hr;split at hr
 ·split at hr
  ·rename_i hp;cases hr;exact h _ hp
  ·cases hr
 ·cases hr
theorem dL {P:Tree->Tree->Prop}{F:Tree->Tree->Tree}(h:∀x y,P x y->R2 C g x y (F x y)):kN C g (rN P F):=λargs bu r hr=>by
 unfold rN at hr;split at hr
 ·split at hr
  ·rename_i hp;cases hr;exact h _ _ hp
  ·cases hr
 ·cases hr
theorem Jk {P:Tree->Tree->Tree->Prop}{F:Tree->Tree->Tree->Tree}(h:∀x y z,P x y z->R3 C g x y z (F x y z)):kN C g (pc3 P F):=λargs bu r hr=>by
 unfold pc3 at hr;split at hr
 ·split at hr
  ·rename_i hp;cases hr;exact h _ _ _ hp
  ·cases hr
 ·cases hr
def Has (ev:bt)(g:FuncId)(s:List TV->List aO->Option br):Prop:=∀vb os r,s vb os=some r->ev g vb os=some r
theorem au {s:List TV->List aO->Option br}:Has (qf g s ev) g s:=λ_ _ _ h=>by unfold qf;rw[if_pos rfl];exact h
theorem av {g':FuncId}{s s':List TV->List aO->Option br}(hne:Nat.beq g g'=false)(h:Has ev g s):Has (qf g' s' ev) g s:=λ_ _ _ hs=>by
 unfold qf;rw[if_neg (by intro e;have:=Nat.ne_of_beq_eq_false hne;exact this e)];exact h _ _ _ hs
theorem Tk {y:Tree}(h:Has ev g (pc0 y)):ev g [] []=some (.ret (.t y) [] []):=h _ _ _ rfl
theorem bS {P:Tree->Prop}{F:Tree->Tree}(h:Has ev g (mL P F)){x:Tree}(hp:P x):ev g [.t x] []=some (.ret (.t (F x)) [] []):=h _ _ _ (if_pos hp)
theorem eH {P:Tree->Tree->Prop}{F:Tree->Tree->Tree}(h:Has ev g (rN P F)){x y:Tree}(hp:P x y):ev g [.t x,.t y] []=some (.ret (.t (F x y)) [] []):=h _ _ _ (if_pos hp)
theorem mZ {P:Tree->Tree->Tree->Prop}{F:Tree->Tree->Tree->Tree}(h:Has ev g (pc3 P F)){x y z:Tree}(hp:P x y z):ev g [.t x,.t y,.t z] []=some (.ret (.t (F x y z)) [] []):=h _ _ _ (if_pos hp)
def RK (C:ey)(g:FuncId)(k:List TV)(Av:List aO)(x y:Tree):Prop:=ai C g (.t x::k) Av (.ret (.t y) Av [])
open Classical in
def pk (k:List TV)(Av:List aO)(P:Tree->Prop)(F:Tree->Tree):List TV->List aO->Option br:=λvb os=>match vb with
 |.t x::r=>if r=k/\os=Av/\P x then some (.ret (.t (F x)) Av []) else none
 |_=>none
theorem ZI {k:List TV}{Av:List aO}{P:Tree->Prop}{F:Tree->Tree}(h:∀x,P x->RK C g k Av x (F x)):kN C g (pk k Av P F):=λargs bu r hr=>by
 unfold pk at hr;split at hr
 ·split at hr
  ·rename_i hp;obtain⟨rfl,rfl,hp⟩:=hp;cases hr;exact h _ hp
  ·cases hr
 ·cases hr
theorem ail {k:List TV}{Av:List aO}{P:Tree->Prop}{F:Tree->Tree}(h:Has ev g (pk k Av P F)){x:Tree}(hp:P x):ev g (.t x::k) Av=some (.ret (.t (F x)) Av []):=h _ _ _ (if_pos ⟨rfl,rfl,hp⟩)
theorem BF [Inhabited β]{P:Tree->Prop}{mk:β->Tree}{Post:Tree->β->Prop}(h:∀x,P x->∃r:{r:β // Post x r},R1 C g x (mk r.1)):∃F:Tree->β,∀x,P x->R1 C g x (mk (F x))/\Post x (F x):=
 bK (Q:=λx r=>R1 C g x (mk r)/\Post x r) λx hx=>by obtain⟨r,hr⟩:=h x hx;exact⟨r.1,hr,r.2⟩
theorem tD [Inhabited β]{P:Tree->Tree->Prop}{mk:β->Tree}{Post:Tree->Tree->β->Prop}(h:∀x y,P x y->∃r:{r:β // Post x y r},R2 C g x y (mk r.1)):∃F:Tree->Tree->β,∀x y,P x y->R2 C g x y (mk (F x y))/\Post x y (F x y):=by
 obtain⟨F,hF⟩:=bK (α:=Tree×Tree) (P:=λp=>P p.1 p.2) (Q:=λp r=>R2 C g p.1 p.2 (mk r)/\Post p.1 p.2 r) λp hp=>by obtain⟨r,hr⟩:=h p.1 p.2 hp;exact⟨r.1,hr,r.2⟩
 exact⟨λx y=>F (x,y),λx y hp=>hF (x,y) hp⟩
theorem alM [Inhabited β]{P:Tree->Tree->Tree->Prop}{mk:β->Tree}{Post:Tree->Tree->Tree->β->Prop}(h:∀x y z,P x y z->∃r:{r:β // Post x y z r},R3 C g x y z (mk r.1)):∃F:Tree->Tree->Tree->β,∀x y z,P x y z->R3 C g x y z (mk (F x y z))/\Post x y z (F x y z):=by
 obtain⟨F,hF⟩:=bK (α:=Tree×Tree×Tree) (P:=λp=>P p.1 p.2.1 p.2.2) (Q:=λp r=>R3 C g p.1 p.2.1 p.2.2 (mk r)/\Post p.1 p.2.1 p.2.2 r) λp hp=>by obtain⟨r,hr⟩:=h p.1 p.2.1 p.2.2 hp;exact⟨r.1,hr,r.2⟩
 exact⟨λx y z=>F (x,y,z),λx y z hp=>hF (x,y,z) hp⟩
end
end Go.Abs
end
noncomputable section
namespace Go.Abs
open Go
theorem ZJ {C:ey}{ev:bt}(aJ:aC C ev){H:Heap}{g:FuncId}{args vc:List TV}{S:List Nm}{os os':List aO}{v v':TV}{news h h':Heap}{t:Nat}{G:Gh}{w:World}{vs:List Value}
 (hn:S.Nodup)(h1:TV.yF (LA S) args=some vc)(h2:jK H S S=some os)(he:ev g vc os=some (.ret v os' news))(h3:v.rn (nB S t)=some v')(h4:ki S t S os'=some h)(h5:kj S t news=some h')
 (hw:WF G w)(hg:jI C G)(hH:HR G w H)(hfresh:∀p,¬G.dom (.loc (t::p)))(hv:ec G args vs):qm C.P g vs.toArray w (mW t G w (.val v' (h++h'))):=by
 have HD:∀k∈S,G.dom k:=by
  intro k hk;obtain⟨j,hj⟩:=List.mem_iff_getElem?.1 hk;obtain⟨o,o',e1,_,_⟩:=(jR h2).2 j k hj;exact(hH k o e1).1
 have hc:=aJ g vc os _ he (G.within S) w vs (Ai hw hn HD) (λx cs hx=>hg x cs hx)
  ⟨λi hi=>by have:=(jR h2).1;exact(by omega:i<S.length),λp d=>d⟩ (Aj hH h2) (hv.rn l9 h1)
 refine hc.mono λe w' he=> ?_
 obtain⟨x,G2,rfl,hs2,hl,YV,YW,hx⟩:=he
 have Nf:=vY hw hn HD hfresh hs2
 have ye:=Ak hn HD hfresh hs2
 obtain⟨ek,_,hO⟩:=xe h4
 refine⟨x,G.back S t G2,rfl,Nf.mono (λk _ hk=> ?_) (λk hk=>hk),λk ob hm=> ?_,hx.rn ye h3⟩
 ·rw[List.map_append];exact List.mem_append_left _ (by rw[ek];exact hk)
 ·rcases List.mem_append.1 hm with hm|hm
  ·obtain⟨i,o',e1,e2,e3⟩:=hO k ob hm;obtain⟨d,ho⟩:=YV i o' e2;exact⟨.inl (HD _ (List.mem_of_getElem? e1)),OR.rn ye (λ_ _ _=>rfl) (uQ hn e1) ho e3⟩
  ·obtain⟨k',o',e1,e2,e3⟩:=CC h5 k ob hm;obtain⟨el,d,ho⟩:=YW k' o' e1;cases k' with
   |arg i=>simp[Nm.jf] at el
   | loc p=>
     simp[nB] at e2
     subst e2
     exact⟨.inr ⟨p,rfl,d⟩,OR.rn ye (λ_ _ _=>rfl) (CB (hfresh p) HD) ho e3⟩
section
variable {C:ey}{ev:bt}{ops:Array Oper}{r:List Oper}{n:Nat}{sp:List (Nat×TV)}{H:Heap}{t:Nat}
theorem iM.ZK {Q:aQ->St->Prop}{d:Tmp}{fo:Operand}{args:Array Operand}{ats:Array TypeId}{ty pos af gd}{g:FuncId}{va vc:List TV}{S:List Nm}{os os':List aO}{v v':TV}{news h h':Heap}(aJ:aC C ev)
 (hwt:eT ops (eC n sp) ⟨some d,.call ⟨.value fo,args,ats⟩,ty,pos,af,gd⟩=some true)(hc:lT C (eC n sp) ⟨.value fo,args,ats⟩=some (g,va))(hn:S.Nodup)(h1:TV.yF (LA S) va=some vc)(h2:jK H S S=some os)
 (he:ev g vc os=some (.ret v os' news))(h3:v.rn (nB S t)=some v')(h4:ki S t S os'=some h)(h5:kj S t news=some h')(k:iM C ops r ⟨eC n ((d,v')::sp),H.eY (h++h'),t+1⟩ Q):
 iM C ops (⟨some d,.call ⟨.value fo,args,ats⟩,ty,pos,af,gd⟩::r) ⟨eC n sp,H,t⟩ Q:=by
 intro G0 w0 G w a h0 hs hst R hR
 refine wpList_step λK hK=> ?_
 rw[jy hwt hst.slots]
 simp only[if_true]
 have hex:mg C.P ⟨some d,.call ⟨.value fo,args,ats⟩,ty,pos,af,gd⟩ a w (mW t G w (.val v' (h++h'))):=by
  obtain⟨first,captured,e,hv⟩:=IM hst.slots hst.j8 hc;have:=ZJ aJ hn h1 h2 he h3 h4 h5 hst.wf hst.j8 hst.heap hst.fresh.not hv;rw[Array.toArray_toList] at this;exact PA rfl e this
 refine hex.wp mW.no (λx w' hr=> ?_) (λch w' hr=> ?_)
 ·obtain⟨x',G',e1,hs',hu,hv⟩:=hr;simp at e1;subst e1;refine hK _ _ (k G0 w0 G' w' _ h0 (ei.comp hs hs'.any) ?_ R λe st' _ _ _ h1 h2=>hR _ _ _ _ _ h1 (Good.I2 (put_defers _ _ _) h2));have:=hst.op (some d) hs' hu hv;rw[gl] at this;exact this
 ·obtain⟨x',G',e1,_⟩:=hr;simp at e1
variable {R:Type}{Q:R->aQ->St->Prop}
theorem aN.ZK {d:Tmp}{fo:Operand}{args:Array Operand}{ats:Array TypeId}{ty pos af}{g:FuncId}{va vc:List TV}{S:List Nm}{os os':List aO}{v v':TV}{news h h':Heap}(aJ:aC C ev)
 (hc:lT C (eC n sp) ⟨.value fo,args,ats⟩=some (g,va))(hn:S.Nodup)(h1:TV.yF (LA S) va=some vc)(h2:jK H S S=some os)
 (he:ev g vc os=some (.ret v os' news))(h3:v.rn (nB S t)=some v')(h4:ki S t S os'=some h)(h5:kj S t news=some h')(k:aN C ops r ⟨eC n ((d,v')::sp),H.eY (h++h'),t+1⟩ Q):
 aN C ops (⟨some d,.call ⟨.value fo,args,ats⟩,ty,pos,af,Option.none⟩::r) ⟨eC n sp,H,t⟩ Q:=k.imp λ_ k=>iM.ZK aJ rfl hc hn h1 h2 he h3 h4 h5 k
theorem aN.aim {d:Tmp}{fo:Operand}{args:Array Operand}{ats:Array TypeId}{ty pos af}{j gd:Nat}{w b:Bool}{g:FuncId}{va vc:List TV}{S:List Nm}{os os':List aO}{v v':TV}{news h h':Heap}(aJ:aC C ev)
 (hj:(ops[j]?).bind (·.dst)=some gd)(hb1:Nat.blt gd n=true)(hl:look sp gd=.t (.bool b))(hb:(b==w)=true)
 (hc:lT C (eC n sp) ⟨.value fo,args,ats⟩=some (g,va))(hn:S.Nodup)(h1:TV.yF (LA S) va=some vc)(h2:jK H S S=some os)
 (he:ev g vc os=some (.ret v os' news))(h3:v.rn (nB S t)=some v')(h4:ki S t S os'=some h)(h5:kj S t news=some h')(k:aN C ops r ⟨eC n ((d,v')::sp),H.eY (h++h'),t+1⟩ Q):
 aN C ops (⟨some d,.call ⟨.value fo,args,ats⟩,ty,pos,af,some (j,w)⟩::r) ⟨eC n sp,H,t⟩ Q:=k.imp λ_ k=>iM.ZK aJ (by rw[mH rfl hj hb1,hl];simp only[hb]) hc hn h1 h2 he h3 h4 h5 k
end
theorem ZL {H:Heap}{k:Nm}{S:List Nm}{g:TypeId×Bool}{cc:Nat}{fz:Bool}{ts:List Tree}(h:H.get k=some (.arr g cc fz (ts.map .t))):jK H S [k]=some [.arr g cc fz (ts.map .t)]:=by
 simp only[jK,h,aO.rn,sY,Option.map_some]
end Go.Abs
end
noncomputable section
namespace Go.Abs
open Go
def SM (es:List (TV×TV×Nat)):Prop:=∀e∈es,∃(s:List UInt8) (n:Int) (b:Nat),e=(.t (.str s),.t (.int .i64 n),b)
theorem SM.nil:SM []:=λ_ h=>by cases h
theorem SM.set {es:List (TV×TV×Nat)}(h:SM es)(i:Nat)(s:List UInt8)(n:Int)(b:Nat):SM (es.set i (.t (.str s),.t (.int .i64 n),b)):=λe he=>by
 rcases List.mem_or_eq_of_mem_set he with he|he
 ·exact h e he
 ·exact⟨s,n,b,he⟩
theorem NI (a b:ByteArray):(a==b)=(a.data==b.data):=by cases a;cases b;rfl
section
variable {C:ey}{ty kt et:TypeId}{ti tk te:TI}{s:List UInt8}{es:List (TV×TV×Nat)}
variable {ev:bt}{f:FuncId}{H:Heap}{n:Nat}{sp:List (Nat×TV)}{t:Nat}{d:Option Tmp}
end
end Go.Abs
end
noncomputable section
namespace Go.Abs
open Go
theorem Re.su {C:ey}{n:Nat}{sp:List (Nat×TV)}{H:Heap}{t:Nat}(i:Nat){v:TV}{m:Nat}{x:Tree}{ks:List Nm}(hi:look sp i=v)(hf:Go.Abs.su H m v=some (x,ks)):Re C ⟨eC n sp,H,t⟩ ⟨eC n ((i,.t x)::sp),H.eY (eO H ks),t⟩:=λ_ _ G w a _ hs hst=>by
 have Xd:=kL hst.wf hst.heap ks;refine⟨G.frozen w H ks,ei.comp hs (Xd.mono (λ_ _ _=>trivial) (λ_ h=>h.elim)),⟨Xd.wf,hst.j8.mono Xd.le, ?_,HR.eY Xd hst.wf hst.heap (λk o hm=>vV hst.wf hst.heap hm) (λk _ hk=>o6 hk.1 hk.2),λp d=>hst.fresh p (by
  rcases Xd.news _ d with d|d
  ·exact d
  ·exact d.elim)⟩⟩
 have h:=hst.slots;refine⟨by have:=h.1;simpa [jb] using this,λj c u hc hu=> ?_⟩;have hj:j<n:=by
  have:=(List.getElem?_eq_some_iff.1 hc).1;rwa [jb] at this
 rw[rM hj,qv] at hc;by_cases e:j=i
 ·subst e;rw[if_pos rfl] at hc;cases hc;exact .t _ _ (Is hst.wf hst.heap ks m v x ks u hf (λ_ h=>h) (by rw[← hi];exact h.2 j _ u (rM hj) hu))
 ·rw[if_neg e] at hc;cases hc;exact(h.2 j _ u (rM hj) hu).mono Xd.le
end Go.Abs
end
noncomputable section
namespace Go.Abs
open Go
section
variable {C:ey}{ev:bt}{f:FuncId}{n:Nat}{sp:List (Nat×TV)}{H:Heap}{t:Nat}{d:Option Tmp}
end
theorem iM.re {C:ey}{ops:Array Oper}{l:List Oper}{st st':St}{Q:aQ->St->Prop}(hr:Re C st st')(h:iM C ops l st' Q):iM C ops l st Q:=λG0 w0 G w a h0 hs hst=>by
 obtain⟨G',hs',qp⟩:=hr G0 w0 G w a h0 hs hst;exact h G0 w0 G' w a h0 hs' qp
theorem aN.re {R:Type}{C:ey}{ops:Array Oper}{l:List Oper}{st st':St}{Q:R->aQ->St->Prop}(hr:Re C st st')(h:aN C ops l st' Q):aN C ops l st Q:=h.imp λ_ h=>iM.re hr h
theorem Qd:∀{a b:List Tree},a.map TV.t=b.map TV.t->a=b
 | [],[],_=>rfl
 |x::a,y::b,h=>by
  simp only[List.map_cons,List.cons.injEq,TV.t.injEq] at h
  rw[h.1,Qd h.2]
 | [],_::_,h=>by simp at h
 |_::_,[],h=>by simp at h
open Classical in
def pm (Av:List aO)(P:List Tree->Prop)(F:List Tree->Tree):List TV->List aO->Option br:=λvb os=>
 if h:∃xs,vb=.ptr (.arg 0) 0::xs.map .t/\os=Av/\P xs then some (.ret (.t (F h.choose)) Av []) else none
theorem ain {ev:bt}{g:FuncId}{Av:List aO}{P:List Tree->Prop}{F:List Tree->Tree}(h:Has ev g (pm Av P F))(xs:List Tree)(hp:P xs):ev g (.ptr (.arg 0) 0::xs.map .t) Av=some (.ret (.t (F xs)) Av []):=h _ _ _ (by
 have hx:∃ys:List Tree,TV.ptr (.arg 0) 0::xs.map TV.t=.ptr (.arg 0) 0::ys.map .t/\Av=Av/\P ys:=⟨xs,rfl,rfl,hp⟩;unfold pm;rw[dif_pos hx];obtain⟨e1,_,_⟩:=hx.choose_spec;rw[← Qd (List.cons.inj e1).2])
end Go.Abs
end
