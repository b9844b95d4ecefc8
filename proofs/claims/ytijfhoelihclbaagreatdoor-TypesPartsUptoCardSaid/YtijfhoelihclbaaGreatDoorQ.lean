/- More rules: what is learnt of truth values; literals of more than one; calls whose arguments become data; functions of data told by a function. -/
import Derived.Test.YtijfhoelihclbaaGreatDoorM
noncomputable section
namespace Go.Abs
open Go
set_option linter.unusedVariables false
theorem eT {b:Bool}(h:(!b)=true):b=false:=by cases b<;>simp_all
theorem dm {b:Bool}(h:(!b)=false):b=true:=by cases b<;>simp_all
theorem av {α:Type}[BEq α][LawfulBEq α]{a b:α}(h:(a != b)=false):a=b:=by simpa using h
theorem aA {α:Type}[BEq α][LawfulBEq α]{a b:α}(h:(a != b)=true):a≠b:=by simpa using h
theorem eX {P:Tree→Prop}{x:Tree}{l:List Tree}(h:P x)(k:∀y∈l,P y):∀y∈x::l,P y:=fun y hy=>by
 rcases List.mem_cons.1 hy with rfl|hy
 · exact h
 · exact k y hy
section
variable {C:dh}{ev:aS}{f:FuncId}{n:Nat}{sp:List (Nat×TV)}{H:Heap}{t:Nat}{d:Option Tmp}
def SH:TypeDesc→Bool
 |.interface _=>true
 |_=>false
theorem agE {ty:TypeId}{ti:TI}{x:Operand}{v w:TV}(h:bO C n sp x=some v)(ht:C.P.ty ty=some ti)(hd:SH ti.desc=false)(hw:(match v with|.t x=>.t (.iface ty x)|v=>.iface ty v:TV)=w):cq C ev f H n sp t d (.makeInterface ty x) w []:=fun _ _ _ _=>by
 simp only[aX,evalOp,bL h,bf,ht]
 generalize ti.desc=q at hd ⊢
 subst hw
 cases q with
 |interface _=>cases hd
 |_=>cases v<;>rfl
theorem wC {fn:Fn}{a b:Array Operand}{fs cs:List TV}{w:TV}(h:lB C n sp a.toList=some fs)(h2:lB C n sp b.toList=some cs)(hw:Wv fn fs cs=w):cq C ev f H n sp t d (.makeFunc fn a b) w []:=fun _ _ _ _=>by
 simp only[aX,evalOp,um h,um h2,hw]
end
section
variable {C:dh}{ev:aS}{f:FuncId}{n:Nat}{sp:List (Nat×TV)}{H:Heap}{t:Nat}{d:Option Tmp}
theorem sK {fo:Operand}{args:Array Operand}{ats:Array TypeId}{g:FuncId}{va vb vc:List TV}{ks S:List Nm}{os os':List aQ}{v v':TV}{news h h':Heap}(hc:jm C (bX n sp) ⟨.value fo,args,ats⟩=some (g,va))(hf:iV H va=(vb,ks))
  (hr:reach (H.dJ (cZ H ks)) fD [] (TV.jZ vb)=some S)(hn:S.Nodup)(h1:TV.vR (QO S) vb=some vc)(h2:jf (H.dJ (cZ H ks)) S S=some os)(he:ev g vc os=some (.ret v os' news))
  (h3:v.rn (kX S t)=some v')(h4:iC S t S os'=some h)(h5:gJ S t news=some h'):cq C ev f H n sp t d (.call ⟨.value fo,args,ats⟩) v' ((cZ H ks).filter (fun p=> !(S.contains p.1))++h++h'):=by
 refine Gx hc ?_
 unfold oD
 rw[hf]
 simp only[hr,if_pos hn,h1,h2,he,h3,h4,h5]
end
theorem ay.gL {C:dh}{g:FuncId}{args:List TV}{aR:List aQ}{r:bG}(h:∃_:Unit,ay C g args aR r):ay C g args aR r:=h.elim fun _ h=>h
theorem fA.set {ag:Bool}{sz:Nat}{es:List Tree}(h:fA ag sz es){e:Tree}(he:EOk ag sz e)(i:Nat):fA ag sz (es.set i e):=fun x hx=>by
 rcases List.mem_or_eq_of_mem_set hx with h1|h1
 · exact h x h1
 · rw[h1];exact he
section
variable {C:dh}{ev:aS}{f:FuncId}{n:Nat}{sp:List (Nat×TV)}{H:Heap}{t:Nat}{d:Option Tmp}
end
theorem Ji {H:Heap}{n:Nat}:og H (n+1) .bl=some (.sl [],[]):=rfl
theorem dQ {α β:Type}[Inhabited β]{P:α→Prop}{Q:α→β→Prop}(h:∀a,P a→∃b,Q a b):∃f:α→β,∀a,P a→Q a (f a):=
  Classical.axiomOfChoice (r:=fun a b=>P a→Q a b) fun a=>by
    by_cases hp:P a
    · obtain⟨b,hb⟩:=h a hp
      exact⟨b,fun _=>hb⟩
    · exact⟨default,fun h=>absurd h hp⟩
section
variable {C:dh}{g:FuncId}{β:Type}{ev:aS}
def R0 (C:dh)(g:FuncId)(y:Tree):Prop:=ay C g [] [] (.ret (.t y) [] [])
def R1 (C:dh)(g:FuncId)(x y:Tree):Prop:=ay C g [.t x] [] (.ret (.t y) [] [])
def R2 (C:dh)(g:FuncId)(x x2 y:Tree):Prop:=ay C g [.t x,.t x2] [] (.ret (.t y) [] [])
def R3 (C:dh)(g:FuncId)(x x2 x3 y:Tree):Prop:=ay C g [.t x,.t x2,.t x3] [] (.ret (.t y) [] [])
def pc0 (y:Tree):List TV→List aQ→Option bG:=fun vb os=>match vb,os with
 | [],[]=>some (.ret (.t y) [] [])
 |_,_=>none
open Classical in
def kY (P:Tree→Prop)(F:Tree→Tree):List TV→List aQ→Option bG:=fun vb os=>match vb,os with
 | [.t x],[]=>if P x then some (.ret (.t (F x)) [] []) else none
 |_,_=>none
open Classical in
def rD (P:Tree→Tree→Prop)(F:Tree→Tree→Tree):List TV→List aQ→Option bG:=fun vb os=>match vb,os with
 | [.t x,.t y],[]=>if P x y then some (.ret (.t (F x y)) [] []) else none
 |_,_=>none
open Classical in
def pc3 (P:Tree→Tree→Tree→Prop)(F:Tree→Tree→Tree→Tree):List TV→List aQ→Option bG:=fun vb os=>match vb,os with
 | [.t x,.t y,.t z],[]=>if P x y z then some (.ret (.t (F x y z)) [] []) else none
 |_,_=>none
theorem aaD {y:Tree}(h:R0 C g y):j7 C g (pc0 y):=fun args aR r hr=>by
 unfold pc0 at hr
 split at hr
 · cases hr;exact h
 · cases hr
theorem bD {P:Tree→Prop}{F:Tree→Tree}(h:∀x,P x→R1 C g x (F x)):j7 C g (kY P F):=fun args aR r hr=>by
  unfold kY at hr
  split at hr
  · split at hr
    · rename_i hp;cases hr;exact h _ hp
    · cases hr
  · cases hr
theorem dn {P:Tree→Tree→Prop}{F:Tree→Tree→Tree}(h:∀x y,P x y→R2 C g x y (F x y)):j7 C g (rD P F):=fun args aR r hr=>by
  unfold rD at hr
  split at hr
  · split at hr
    · rename_i hp;cases hr;exact h _ _ hp
    · cases hr
  · cases hr
theorem aaE {P:Tree→Tree→Tree→Prop}{F:Tree→Tree→Tree→Tree}(h:∀x y z,P x y z→R3 C g x y z (F x y z)):j7 C g (pc3 P F):=fun args aR r hr=>by
  unfold pc3 at hr
  split at hr
  · split at hr
    · rename_i hp;cases hr;exact h _ _ _ hp
    · cases hr
  · cases hr
def Has (ev:aS)(g:FuncId)(s:List TV→List aQ→Option bG):Prop:=∀vb os r,s vb os=some r→ev g vb os=some r
theorem az {s:List TV→List aQ→Option bG}:Has (l6 g s ev) g s:=fun _ _ _ h=>by unfold l6;rw[if_pos rfl];exact h
theorem aq {g':FuncId}{s s':List TV→List aQ→Option bG}(hne:Nat.beq g g'=false)(h:Has ev g s):Has (l6 g' s' ev) g s:=fun _ _ _ hs=>by
 unfold l6
 rw[if_neg (by intro e;have:=Nat.ne_of_beq_eq_false hne;exact this e)]
 exact h _ _ _ hs
theorem adZ {y:Tree}(h:Has ev g (pc0 y)):ev g [] []=some (.ret (.t y) [] []):=h _ _ _ rfl
theorem bk {P:Tree→Prop}{F:Tree→Tree}(h:Has ev g (kY P F)){x:Tree}(hp:P x):ev g [.t x] []=some (.ret (.t (F x)) [] []):=h _ _ _ (if_pos hp)
theorem dr {P:Tree→Tree→Prop}{F:Tree→Tree→Tree}(h:Has ev g (rD P F)){x y:Tree}(hp:P x y):ev g [.t x,.t y] []=some (.ret (.t (F x y)) [] []):=h _ _ _ (if_pos hp)
theorem W9 {P:Tree→Tree→Tree→Prop}{F:Tree→Tree→Tree→Tree}(h:Has ev g (pc3 P F)){x y z:Tree}(hp:P x y z):ev g [.t x,.t y,.t z] []=some (.ret (.t (F x y z)) [] []):=h _ _ _ (if_pos hp)
def RK (C:dh)(g:FuncId)(k:List TV)(Ae:List aQ)(x y:Tree):Prop:=ay C g (.t x::k) Ae (.ret (.t y) Ae [])
open Classical in
def pk (k:List TV)(Ae:List aQ)(P:Tree→Prop)(F:Tree→Tree):List TV→List aQ→Option bG:=fun vb os=>match vb with
 |.t x::r=>if r=k∧os=Ae∧P x then some (.ret (.t (F x)) Ae []) else none
 |_=>none
theorem Ft {k:List TV}{Ae:List aQ}{P:Tree→Prop}{F:Tree→Tree}(h:∀x,P x→RK C g k Ae x (F x)):j7 C g (pk k Ae P F):=fun args aR r hr=>by
  unfold pk at hr
  split at hr
  · split at hr
    · rename_i hp;obtain⟨rfl,rfl,hp⟩:=hp;cases hr;exact h _ hp
    · cases hr
  · cases hr
theorem Af {k:List TV}{Ae:List aQ}{P:Tree→Prop}{F:Tree→Tree}(h:Has ev g (pk k Ae P F)){x:Tree}(hp:P x):ev g (.t x::k) Ae=some (.ret (.t (F x)) Ae []):=h _ _ _ (if_pos ⟨rfl,rfl,hp⟩)
def PY (q:Tree→Bool)(l:List Tree):Int:=match l.findIdx? q with
 |some i=>(i:Int)
 |none=>-1
theorem aaF {q:Tree→Bool}{l:List Tree}{i:Nat}{e:Tree}(h:∀j,j<i→∀x,l[j]?=some x→q x=false)(he:l[i]?=some e)(hq:q e=true):PY q l=(i:Int):=by
 have:l.findIdx? q=some i:=by
  rw[List.findIdx?_eq_some_iff_getElem]
  obtain⟨h1,rfl⟩:=List.getElem?_eq_some_iff.1 he
  refine⟨h1,hq,fun j hj=> ?_⟩
  rw[h j hj _ (List.getElem?_eq_getElem (by omega))]
  simp
 unfold PY
 rw[this]
theorem SI {q:Tree→Bool}{l:List Tree}(h:∀j,j<l.length→∀x,l[j]?=some x→q x=false):PY q l=-1:=by
 have:l.findIdx? q=none:=by
  rw[List.findIdx?_eq_none_iff]
  intro x hx
  obtain⟨j,hj,e⟩:=List.getElem_of_mem hx
  exact h j hj x (by rw[List.getElem?_eq_getElem hj,e])
 unfold PY
 rw[this]
theorem SJ {q:Tree→Bool}{l:List Tree}{i:Nat}{e:Tree}(h:∀j,j<i→∀x,l[j]?=some x→q x=false)(he:l[i]?=some e)(hq:q e=false):∀j,j<i+1→∀x,l[j]?=some x→q x=false:=fun j hj x hx=>by
  by_cases h1:j<i
  · exact h j h1 x hx
  · obtain rfl:j=i:=by omega
    rw[he] at hx;cases hx;exact hq
theorem vz [Inhabited β]{P:Tree→Prop}{mk:β→Tree}{Post:Tree→β→Prop}(h:∀x,P x→∃r:{r:β // Post x r},R1 C g x (mk r.1)):∃F:Tree→β,∀x,P x→R1 C g x (mk (F x))∧Post x (F x):=
 dQ (Q:=fun x r=>R1 C g x (mk r)∧Post x r) fun x hx=>by obtain⟨r,hr⟩:=h x hx;exact⟨r.1,hr,r.2⟩
theorem sL [Inhabited β]{P:Tree→Tree→Prop}{mk:β→Tree}{Post:Tree→Tree→β→Prop}(h:∀x y,P x y→∃r:{r:β // Post x y r},R2 C g x y (mk r.1)):∃F:Tree→Tree→β,∀x y,P x y→R2 C g x y (mk (F x y))∧Post x y (F x y):=by
 obtain⟨F,hF⟩:=dQ (α:=Tree×Tree) (P:=fun p=>P p.1 p.2) (Q:=fun p r=>R2 C g p.1 p.2 (mk r)∧Post p.1 p.2 r) fun p hp=>by obtain⟨r,hr⟩:=h p.1 p.2 hp;exact⟨r.1,hr,r.2⟩
 exact⟨fun x y=>F (x,y),fun x y hp=>hF (x,y) hp⟩
end
end Go.Abs
end
