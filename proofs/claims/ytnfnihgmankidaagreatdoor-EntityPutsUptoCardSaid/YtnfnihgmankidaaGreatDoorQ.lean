/- More rules: what is learnt of truth values; literals of more than one; calls whose arguments become data; functions of data told by a function. -/
import Derived.Test.YtnfnihgmankidaaGreatDoorM
set_option linter.unusedVariables false
set_option linter.unusedSimpArgs false
noncomputable section
namespace Go.Abs
open Go
theorem ow {b:Bool}(h:(!b)=true):b=false:=by cases b<;>simp_all
theorem mH {b:Bool}(h:(!b)=false):b=true:=by cases b<;>simp_all
theorem aM {α:Type}[BEq α][LawfulBEq α]{a b:α}(h:(a != b)=false):a=b:=by simpa using h
theorem bQ {α:Type}[BEq α][LawfulBEq α]{a b:α}(h:(a != b)=true):a≠b:=by simpa using h
theorem eC {P:Tree->Prop}{x:Tree}{l:List Tree}(h:P x)(k:∀y∈l,P y):∀y∈x::l,P y:=λy hy=>by
 rcases List.mem_cons.1 hy with rfl|hy
 ·exact h
 ·exact k y hy
section
variable {C:cE}{ev:aW}{f:FuncId}{n:Nat}{sp:List (Nat×TV)}{H:Heap}{t:Nat}{d:Option Tmp}
def TS:TypeDesc->Bool
 |.interface _=>true
 |_=>false
theorem agt {ty:TypeId}{ti:TI}{x:Operand}{v w:TV}(h:dn C n sp x=some v)(ht:C.P.ty ty=some ti)(hd:TS ti.desc=false)(hw:(match v with|.t x=>.t (.iface ty x)|v=>.iface ty v:TV)=w):dJ C ev f H n sp t d (.makeInterface ty x) w []:=λ_ _ _ _=>by
 simp only[aT,evalOp,dO h,bf,ht];generalize ti.desc=q at hd ⊢;subst hw;cases q with
 |interface _=>cases hd
 |_=>cases v<;>rfl
end
section
variable {C:cE}{ev:aW}{f:FuncId}{n:Nat}{sp:List (Nat×TV)}{H:Heap}{t:Nat}{d:Option Tmp}
end
theorem aq.pR {C:cE}{g:FuncId}{args:List TV}{aU:List aO}{r:bk}(h:∃_:Unit,aq C g args aU r):aq C g args aU r:=h.elim λ_ h=>h
theorem KJ {sz:Nat}{es:List Tree}{i j:Nat}{e e':Tree}{vs:List Tree}(hu:∀e∈es,e.cells.length=sz)(he:es[i]?=some e)(hj:j+vs.length<=sz)(hc:e'.cells=e.cells.take j++vs++e.cells.drop (j+vs.length)):
 cD ((flat es).map .t) (i*sz+j) (vs.map .t)=(flat (es.set i e')).map .t:=by
 have hl:e.cells.length=sz:=hu e (List.mem_of_getElem? he)
 have hi:i<es.length:=(List.getElem?_eq_some_iff.1 he).1
 have hl':e'.cells.length=sz:=by rw[hc];simp;omega
 have kj:∀x∈es.set i e',x.cells.length=sz:=λx hx=>by
  rcases List.mem_or_eq_of_mem_set hx with h|h
  ·exact hu x h
  ·rw[h];exact hl'
 have ai8:(flat es).length=es.length*sz:=ff hu
 have hmul:(i+1) *sz<=es.length*sz:=Nat.mul_le_mul_right _ hi
 rw[Nat.succ_mul] at hmul
 rw[← hl] at hj hmul
 have hsr:cD ((flat es).map .t) (i*sz+j) (vs.map .t)=((flat es).take (i*sz+j)++vs++(flat es).drop (i*sz+j+vs.length)).map TV.t:=by
  simp only[cD,List.map_append,List.map_take,List.map_drop,List.length_map]
 rw[hsr]
 congr 1
 have split:flat es=flat (es.take i)++(e.cells++flat (es.drop (i+1))):=by
  conv=>lhs;rw[← List.take_append_drop i es]
  rw[flat,List.flatMap_append];congr 1;rw[List.drop_eq_getElem_cons hi];have:es[i]=e:=by rw[List.getElem?_eq_getElem hi] at he;exact Option.some.inj he
  simp[flat,this]
 have split':flat (es.set i e')=flat (es.take i)++(e'.cells++flat (es.drop (i+1))):=by
  rw[List.set_eq_take_append_cons_drop,if_pos hi,flat,List.flatMap_append];simp[flat]
 have hp:(flat (es.take i)).length=i*sz:=by
  rw[ff (λx hx=>hu x (List.mem_of_mem_take hx)),List.length_take,Nat.min_eq_left (by omega)]
 rw[split',hc,split]
 rw[← hp,List.take_length_add_append,List.append_assoc,List.append_assoc]
 congr 1
 rw[Nat.add_assoc,List.drop_length_add_append,List.take_append_of_le_length (by omega),List.append_assoc,List.drop_append_of_le_length (by omega)]
 simp[List.append_assoc]
theorem dU.set {ag:Bool}{sz:Nat}{es:List Tree}(h:dU ag sz es){e:Tree}(he:EOk ag sz e)(i:Nat):dU ag sz (es.set i e):=λx hx=>by
 rcases List.mem_or_eq_of_mem_set hx with h1|h1
 ·exact h x h1
 ·rw[h1];exact he
section
variable {C:cE}{ev:aW}{f:FuncId}{n:Nat}{sp:List (Nat×TV)}{H:Heap}{t:Nat}{d:Option Tmp}
end
theorem cI {α β:Type}[Inhabited β]{P:α->Prop}{Q:α->β->Prop}(h:∀a,P a->∃b,Q a b):∃f:α->β,∀a,P a->Q a (f a):=
 Classical.axiomOfChoice (r:=λa b=>P a->Q a b) λa=>by
  by_cases hp:P a
  ·obtain⟨b,hb⟩:=h a hp;exact⟨b,λ_=>hb⟩
  ·exact⟨default,λh=>absurd h hp⟩
section
variable {C:cE}{g:FuncId}{β:Type}{ev:aW}
def R0 (C:cE)(g:FuncId)(y:Tree):Prop:=aq C g [] [] (.ret (.t y) [] [])
def R1 (C:cE)(g:FuncId)(x y:Tree):Prop:=aq C g [.t x] [] (.ret (.t y) [] [])
def R2 (C:cE)(g:FuncId)(x x2 y:Tree):Prop:=aq C g [.t x,.t x2] [] (.ret (.t y) [] [])
def R3 (C:cE)(g:FuncId)(x x2 x3 y:Tree):Prop:=aq C g [.t x,.t x2,.t x3] [] (.ret (.t y) [] [])
def pc0 (y:Tree):List TV->List aO->Option bk:=λvb os=>match vb,os with
 | [],[]=>some (.ret (.t y) [] [])
 |_,_=>none
open Classical in
def xU (P:Tree->Prop)(F:Tree->Tree):List TV->List aO->Option bk:=λvb os=>match vb,os with
 | [.t x],[]=>if P x then some (.ret (.t (F x)) [] []) else none
 |_,_=>none
open Classical in
def wB (P:Tree->Tree->Prop)(F:Tree->Tree->Tree):List TV->List aO->Option bk:=λvb os=>match vb,os with
 | [.t x,.t y],[]=>if P x y then some (.ret (.t (F x y)) [] []) else none
 |_,_=>none
open Classical in
def pc3 (P:Tree->Tree->Tree->Prop)(F:Tree->Tree->Tree->Tree):List TV->List aO->Option bk:=λvb os=>match vb,os with
 | [.t x,.t y,.t z],[]=>if P x y z then some (.ret (.t (F x y z)) [] []) else none
 |_,_=>none
theorem abp {y:Tree}(h:R0 C g y):kJ C g (pc0 y):=λargs aU r hr=>by
 unfold pc0 at hr;split at hr
 ·cases hr;exact h
 ·cases hr
theorem eD {P:Tree->Prop}{F:Tree->Tree}(h:∀x,P x->R1 C g x (F x)):kJ C g (xU P F):=λargs aU r hr=>by
 unfold xU at hr;split at hr
 ·split at hr
  ·rename_i hp;cases hr;exact h _ hp
  ·cases hr
 ·cases hr
theorem ec {P:Tree->Tree->Prop}{F:Tree->Tree->Tree}(h:∀x y,P x y->R2 C g x y (F x y)):kJ C g (wB P F):=λargs aU r hr=>by
 unfold wB at hr;split at hr
 ·split at hr
  ·rename_i hp;cases hr;exact h _ _ hp
  ·cases hr
 ·cases hr
theorem abq {P:Tree->Tree->Tree->Prop}{F:Tree->Tree->Tree->Tree}(h:∀x y z,P x y z->R3 C g x y z (F x y z)):kJ C g (pc3 P F):=λargs aU r hr=>by
 unfold pc3 at hr;split at hr
 ·split at hr
  ·rename_i hp;cases hr;exact h _ _ _ hp
  ·cases hr
 ·cases hr
def Has (ev:aW)(g:FuncId)(s:List TV->List aO->Option bk):Prop:=∀vb os r,s vb os=some r->ev g vb os=some r
theorem aF {s:List TV->List aO->Option bk}:Has (mZ g s ev) g s:=λ_ _ _ h=>by unfold mZ;rw[if_pos rfl];exact h
theorem au {g':FuncId}{s s':List TV->List aO->Option bk}(hne:Nat.beq g g'=false)(h:Has ev g s):Has (mZ g' s' ev) g s:=λ_ _ _ hs=>by
 unfold mZ;rw[if_neg (by intro e;have:=Nat.ne_of_beq_eq_false hne;exact this e)];exact h _ _ _ hs
theorem X6 {y:Tree}(h:Has ev g (pc0 y)):ev g [] []=some (.ret (.t y) [] []):=h _ _ _ rfl
theorem dM {P:Tree->Prop}{F:Tree->Tree}(h:Has ev g (xU P F)){x:Tree}(hp:P x):ev g [.t x] []=some (.ret (.t (F x)) [] []):=h _ _ _ (if_pos hp)
theorem ey {P:Tree->Tree->Prop}{F:Tree->Tree->Tree}(h:Has ev g (wB P F)){x y:Tree}(hp:P x y):ev g [.t x,.t y] []=some (.ret (.t (F x y)) [] []):=h _ _ _ (if_pos hp)
theorem ahg {P:Tree->Tree->Tree->Prop}{F:Tree->Tree->Tree->Tree}(h:Has ev g (pc3 P F)){x y z:Tree}(hp:P x y z):ev g [.t x,.t y,.t z] []=some (.ret (.t (F x y z)) [] []):=h _ _ _ (if_pos hp)
theorem Iv [Inhabited β]{P:Tree->Prop}{mk:β->Tree}{Post:Tree->β->Prop}(h:∀x,P x->∃r:{r:β // Post x r},R1 C g x (mk r.1)):∃F:Tree->β,∀x,P x->R1 C g x (mk (F x))/\Post x (F x):=
 cI (Q:=λx r=>R1 C g x (mk r)/\Post x r) λx hx=>by obtain⟨r,hr⟩:=h x hx;exact⟨r.1,hr,r.2⟩
theorem xV [Inhabited β]{P:Tree->Tree->Prop}{mk:β->Tree}{Post:Tree->Tree->β->Prop}(h:∀x y,P x y->∃r:{r:β // Post x y r},R2 C g x y (mk r.1)):∃F:Tree->Tree->β,∀x y,P x y->R2 C g x y (mk (F x y))/\Post x y (F x y):=by
 obtain⟨F,hF⟩:=cI (α:=Tree×Tree) (P:=λp=>P p.1 p.2) (Q:=λp r=>R2 C g p.1 p.2 (mk r)/\Post p.1 p.2 r) λp hp=>by obtain⟨r,hr⟩:=h p.1 p.2 hp;exact⟨r.1,hr,r.2⟩
 exact⟨λx y=>F (x,y),λx y hp=>hF (x,y) hp⟩
theorem ahh [Inhabited β]{P:Tree->Tree->Tree->Prop}{mk:β->Tree}{Post:Tree->Tree->Tree->β->Prop}(h:∀x y z,P x y z->∃r:{r:β // Post x y z r},R3 C g x y z (mk r.1)):∃F:Tree->Tree->Tree->β,∀x y z,P x y z->R3 C g x y z (mk (F x y z))/\Post x y z (F x y z):=by
 obtain⟨F,hF⟩:=cI (α:=Tree×Tree×Tree) (P:=λp=>P p.1 p.2.1 p.2.2) (Q:=λp r=>R3 C g p.1 p.2.1 p.2.2 (mk r)/\Post p.1 p.2.1 p.2.2 r) λp hp=>by obtain⟨r,hr⟩:=h p.1 p.2.1 p.2.2 hp;exact⟨r.1,hr,r.2⟩
 exact⟨λx y z=>F (x,y,z),λx y z hp=>hF (x,y,z) hp⟩
end
end Go.Abs
end
noncomputable section
namespace Go.Abs
open Go
section
variable {C:cE}{ev:aW}{ops:Array Oper}{r:List Oper}{n:Nat}{sp:List (Nat×TV)}{H:Heap}{t:Nat}
variable {R:Type}{Q:R->aK->St->Prop}
end
end Go.Abs
end
noncomputable section
namespace Go.Abs
open Go
def SM (es:List (TV×TV×Nat)):Prop:=∀e∈es,∃(s:List UInt8) (n:Int) (b:Nat),e=(.t (.str s),.t (.int .i64 n),b)
theorem SM.nil:SM []:=λ_ h=>by cases h
theorem SM.set {es:List (TV×TV×Nat)}(h:SM es)(i:Nat)(s:List UInt8)(n:Int)(b:Nat):SM (es.set i (.t (.str s),.t (.int .i64 n),b)):=λe he=>by
 rcases List.mem_or_eq_of_mem_set he with he|he
 ·exact h e he
 ·exact⟨s,n,b,he⟩
theorem Iw (a b:ByteArray):(a==b)=(a.data==b.data):=by cases a;cases b;rfl
section
variable {C:cE}{ty kt et:TypeId}{ti tk te:TI}{s:List UInt8}{es:List (TV×TV×Nat)}
variable {ev:aW}{f:FuncId}{H:Heap}{n:Nat}{sp:List (Nat×TV)}{t:Nat}{d:Option Tmp}
end
end Go.Abs
end
noncomputable section
namespace Go.Abs
open Go
theorem Re.pQ {C:cE}{n:Nat}{sp:List (Nat×TV)}{H:Heap}{t:Nat}(i:Nat){v:TV}{m:Nat}{x:Tree}{ks:List Nm}(hi:look sp i=v)(hf:Go.Abs.pQ H m v=some (x,ks)):Re C ⟨ei n sp,H,t⟩ ⟨ei n ((i,.t x)::sp),H.dX (cT H ks),t⟩:=λ_ _ G w a _ hs hst=>by
 have QX:=iu hst.wf hst.heap ks;refine⟨G.frozen w H ks,dz.comp hs (QX.mono (λ_ _ _=>trivial) (λ_ h=>h.elim)),⟨QX.wf,hst.iT.mono QX.le, ?_,HR.dX QX hst.wf hst.heap (λk o hm=>sI hst.wf hst.heap hm) (λk _ hk=>mg hk.1 hk.2),λp d=>hst.fresh p (by
  rcases QX.news _ d with d|d
  ·exact d
  ·exact d.elim)⟩⟩
 have h:=hst.slots;refine⟨by have:=h.1;simpa [eS] using this,λj c u hc hu=> ?_⟩;have hj:j<n:=by
  have:=(List.getElem?_eq_some_iff.1 hc).1;rwa [eS] at this
 rw[mB hj,nu] at hc;by_cases e:j=i
 ·subst e;rw[if_pos rfl] at hc;cases hc;exact .t _ _ (AY hst.wf hst.heap ks m v x ks u hf (λ_ h=>h) (by rw[← hi];exact h.2 j _ u (mB hj) hu))
 ·rw[if_neg e] at hc;cases hc;exact(h.2 j _ u (mB hj) hu).mono QX.le
end Go.Abs
end
noncomputable section
namespace Go.Abs
open Go
section
variable {C:cE}{ev:aW}{f:FuncId}{n:Nat}{sp:List (Nat×TV)}{H:Heap}{t:Nat}{d:Option Tmp}
end
theorem dP.re {C:cE}{ops:Array Oper}{l:List Oper}{st st':St}{Q:aK->St->Prop}(hr:Re C st st')(h:dP C ops l st' Q):dP C ops l st Q:=λG0 w0 G w a h0 hs hst=>by
 obtain⟨G',hs',jk⟩:=hr G0 w0 G w a h0 hs hst;exact h G0 w0 G' w a h0 hs' jk
theorem aG.re {R:Type}{C:cE}{ops:Array Oper}{l:List Oper}{st st':St}{Q:R->aK->St->Prop}(hr:Re C st st')(h:aG C ops l st' Q):aG C ops l st Q:=h.imp λ_ h=>dP.re hr h
open Classical in
def pm (M8:List aO)(P:List Tree->Prop)(F:List Tree->Tree):List TV->List aO->Option bk:=λvb os=>
 if h:∃xs,vb=.ptr (.arg 0) 0::xs.map .t/\os=M8/\P xs then some (.ret (.t (F h.choose)) M8 []) else none
end Go.Abs
end
