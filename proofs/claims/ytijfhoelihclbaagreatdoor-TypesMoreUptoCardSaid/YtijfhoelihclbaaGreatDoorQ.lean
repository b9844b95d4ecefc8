/- More rules: what is learnt of truth values; literals of more than one; calls whose arguments become data; functions of data told by a function. -/
import Derived.Test.YtijfhoelihclbaaGreatDoorM
noncomputable section
namespace Go.Abs
open Go
set_option linter.unusedVariables false
theorem fJ {b:Bool}(h:(!b)=true):b=false:=by cases b<;>simp_all
theorem dJ {b:Bool}(h:(!b)=false):b=true:=by cases b<;>simp_all
theorem aq {α:Type}[BEq α][LawfulBEq α]{a b:α}(h:(a != b)=false):a=b:=by simpa using h
theorem aA {α:Type}[BEq α][LawfulBEq α]{a b:α}(h:(a != b)=true):a≠b:=by simpa using h
theorem fN {P:Tree→Prop}{x:Tree}{l:List Tree}(h:P x)(k:∀y∈l,P y):∀y∈x::l,P y:=fun y hy=>by
 rcases List.mem_cons.1 hy with rfl|hy
 · exact h
 · exact k y hy
section
variable {C:dI}{ev:aW}{f:FuncId}{n:Nat}{sp:List (Nat×TV)}{H:Heap}{t:Nat}{d:Option Tmp}
theorem rh3 {x y z:Operand}{v u q:Tree}(h:bL C n sp x=some (.t v))(h2:bL C n sp y=some (.t u))(h3:bL C n sp z=some (.t q)):kn C n sp [x,y,z]=some ([v,u,q].map .t):=by
 simp only[kn,h,h2,h3];rfl
def Tr:TypeDesc→Bool
 |.interface _=>true
 |_=>false
theorem ahL {ty:TypeId}{ti:TI}{x:Operand}{v w:TV}(h:bL C n sp x=some v)(ht:C.P.ty ty=some ti)(hd:Tr ti.desc=false)(hw:(match v with|.t x=>.t (.iface ty x)|v=>.iface ty v:TV)=w):cF C ev f H n sp t d (.makeInterface ty x) w []:=fun _ _ _ _=>by
 simp only[bk,evalOp,bT h,bn,ht]
 generalize ti.desc=q at hd ⊢
 subst hw
 cases q with
 |interface _=>cases hd
 |_=>cases v<;>rfl
theorem xN {fn:Fn}{a b:Array Operand}{fs cs:List TV}{w:TV}(h:kn C n sp a.toList=some fs)(h2:kn C n sp b.toList=some cs)(hw:XA fn fs cs=w):cF C ev f H n sp t d (.makeFunc fn a b) w []:=fun _ _ _ _=>by
 simp only[bk,evalOp,vv h,vv h2,hw]
end
section
variable {C:dI}{ev:aW}{f:FuncId}{n:Nat}{sp:List (Nat×TV)}{H:Heap}{t:Nat}{d:Option Tmp}
theorem rH {fo:Operand}{args:Array Operand}{ats:Array TypeId}{g:FuncId}{va vb vc:List TV}{ks S:List Nm}{os os':List aV}{v v':TV}{news h h':Heap}(hc:jT C (bH n sp) ⟨.value fo,args,ats⟩=some (g,va))(hf:jC H va=(vb,ks))
  (hr:reach (H.ei (dF H ks)) fL [] (TV.kS vb)=some S)(hn:S.Nodup)(h1:TV.xu (RF S) vb=some vc)(h2:jN (H.ei (dF H ks)) S S=some os)(he:ev g vc os=some (.ret v os' news))
  (h3:v.rn (lY S t)=some v')(h4:jf S t S os'=some h)(h5:iG S t news=some h'):cF C ev f H n sp t d (.call ⟨.value fo,args,ats⟩) v' ((dF H ks).filter (fun p=> !(S.contains p.1))++h++h'):=by
 refine Hl hc ?_
 unfold qc
 rw[hf]
 simp only[hr,if_pos hn,h1,h2,he,h3,h4,h5]
end
theorem ay.fu {C:dI}{g:FuncId}{args:List TV}{aX:List aV}{r:bG}(h:∃_:Unit,ay C g args aX r):ay C g args aX r:=h.elim fun _ h=>h
theorem cu.set {ag:Bool}{sz:Nat}{es:List Tree}(h:cu ag sz es){e:Tree}(he:EOk ag sz e)(i:Nat):cu ag sz (es.set i e):=fun x hx=>by
 rcases List.mem_or_eq_of_mem_set hx with h1|h1
 · exact h x h1
 · rw[h1];exact he
section
variable {C:dI}{ev:aW}{f:FuncId}{n:Nat}{sp:List (Nat×TV)}{H:Heap}{t:Nat}{d:Option Tmp}
theorem X5 {x y:Operand}{st elem:TypeId}{te:TI}{v:TV}{k:Nm}{fz:Bool}{len:Nat}{es fs:List Tree}(h:uA C.P st elem te)(hx:bL C n sp x=some (.ref k 0 len))(hy:bL C n sp y=some v)(hv:BM v es)
  (hk:H.get k=some (.arr (elem,te.agg) te.size fz ((flat fs).map .t)))(hl:len=fs.length)(hf:cu te.agg te.size fs)(hu:cu te.agg te.size es)(hne:es≠ [])(hb:(len+es.length) *te.bytes≤dQ):
  cF C ev f H n sp t d (.call ⟨.builtin .append, #[x,y], #[st,st]⟩) (.ref k 0 (fs++es).length) [(k,.arr (elem,te.agg) te.size fz ((flat (fs++es)).map .t))]:=by
 rw[List.length_append,← hl]
 exact abt h hx hy hv hk hl hf hu hne hb
end
theorem sK {H:Heap}{n:Nat}:pV H (n+1) .aL=some (.sl [],[]):=rfl
theorem eF {α β:Type}[Inhabited β]{P:α→Prop}{Q:α→β→Prop}(h:∀a,P a→∃b,Q a b):∃f:α→β,∀a,P a→Q a (f a):=
  Classical.axiomOfChoice (r:=fun a b=>P a→Q a b) fun a=>by
    by_cases hp:P a
    · obtain⟨b,hb⟩:=h a hp
      exact⟨b,fun _=>hb⟩
    · exact⟨default,fun h=>absurd h hp⟩
section
variable {C:dI}{g:FuncId}{β:Type}{ev:aW}
def R0 (C:dI)(g:FuncId)(y:Tree):Prop:=ay C g [] [] (.ret (.t y) [] [])
def R1 (C:dI)(g:FuncId)(x y:Tree):Prop:=ay C g [.t x] [] (.ret (.t y) [] [])
def R2 (C:dI)(g:FuncId)(x x2 y:Tree):Prop:=ay C g [.t x,.t x2] [] (.ret (.t y) [] [])
def R3 (C:dI)(g:FuncId)(x x2 x3 y:Tree):Prop:=ay C g [.t x,.t x2,.t x3] [] (.ret (.t y) [] [])
def pc0 (y:Tree):List TV→List aV→Option bG:=fun vb os=>match vb,os with
 | [],[]=>some (.ret (.t y) [] [])
 |_,_=>none
open Classical in
def jP (P:Tree→Prop)(F:Tree→Tree):List TV→List aV→Option bG:=fun vb os=>match vb,os with
 | [.t x],[]=>if P x then some (.ret (.t (F x)) [] []) else none
 |_,_=>none
open Classical in
def r7 (P:Tree→Tree→Prop)(F:Tree→Tree→Tree):List TV→List aV→Option bG:=fun vb os=>match vb,os with
 | [.t x,.t y],[]=>if P x y then some (.ret (.t (F x y)) [] []) else none
 |_,_=>none
theorem Tt {y:Tree}(h:R0 C g y):kY C g (pc0 y):=fun args aX r hr=>by
 unfold pc0 at hr
 split at hr
 · cases hr;exact h
 · cases hr
theorem bp {P:Tree→Prop}{F:Tree→Tree}(h:∀x,P x→R1 C g x (F x)):kY C g (jP P F):=fun args aX r hr=>by
  unfold jP at hr
  split at hr
  · split at hr
    · rename_i hp;cases hr;exact h _ hp
    · cases hr
  · cases hr
theorem dH {P:Tree→Tree→Prop}{F:Tree→Tree→Tree}(h:∀x y,P x y→R2 C g x y (F x y)):kY C g (r7 P F):=fun args aX r hr=>by
  unfold r7 at hr
  split at hr
  · split at hr
    · rename_i hp;cases hr;exact h _ _ hp
    · cases hr
  · cases hr
def Has (ev:aW)(g:FuncId)(s:List TV→List aV→Option bG):Prop:=∀vb os r,s vb os=some r→ev g vb os=some r
theorem az {s:List TV→List aV→Option bG}:Has (nj g s ev) g s:=fun _ _ _ h=>by unfold nj;rw[if_pos rfl];exact h
theorem aj {g':FuncId}{s s':List TV→List aV→Option bG}(hne:Nat.beq g g'=false)(h:Has ev g s):Has (nj g' s' ev) g s:=fun _ _ _ hs=>by
 unfold nj
 rw[if_neg (by intro e;have:=Nat.ne_of_beq_eq_false hne;exact this e)]
 exact h _ _ _ hs
theorem ae7 {y:Tree}(h:Has ev g (pc0 y)):ev g [] []=some (.ret (.t y) [] []):=h _ _ _ rfl
theorem bf {P:Tree→Prop}{F:Tree→Tree}(h:Has ev g (jP P F)){x:Tree}(hp:P x):ev g [.t x] []=some (.ret (.t (F x)) [] []):=h _ _ _ (if_pos hp)
theorem dm {P:Tree→Tree→Prop}{F:Tree→Tree→Tree}(h:Has ev g (r7 P F)){x y:Tree}(hp:P x y):ev g [.t x,.t y] []=some (.ret (.t (F x y)) [] []):=h _ _ _ (if_pos hp)
def RK (C:dI)(g:FuncId)(k:List TV)(A8:List aV)(x y:Tree):Prop:=ay C g (.t x::k) A8 (.ret (.t y) A8 [])
open Classical in
def pk (k:List TV)(A8:List aV)(P:Tree→Prop)(F:Tree→Tree):List TV→List aV→Option bG:=fun vb os=>match vb with
 |.t x::r=>if r=k∧os=A8∧P x then some (.ret (.t (F x)) A8 []) else none
 |_=>none
theorem F7 {k:List TV}{A8:List aV}{P:Tree→Prop}{F:Tree→Tree}(h:∀x,P x→RK C g k A8 x (F x)):kY C g (pk k A8 P F):=fun args aX r hr=>by
  unfold pk at hr
  split at hr
  · split at hr
    · rename_i hp;obtain⟨rfl,rfl,hp⟩:=hp;cases hr;exact h _ hp
    · cases hr
  · cases hr
theorem A9 {k:List TV}{A8:List aV}{P:Tree→Prop}{F:Tree→Tree}(h:Has ev g (pk k A8 P F)){x:Tree}(hp:P x):ev g (.t x::k) A8=some (.ret (.t (F x)) A8 []):=h _ _ _ (if_pos ⟨rfl,rfl,hp⟩)
def QF (q:Tree→Bool)(l:List Tree):Int:=match l.findIdx? q with
 |some i=>(i:Int)
 |none=>-1
theorem abH {q:Tree→Bool}{l:List Tree}{i:Nat}{e:Tree}(h:∀j,j<i→∀x,l[j]?=some x→q x=false)(he:l[i]?=some e)(hq:q e=true):QF q l=(i:Int):=by
 have:l.findIdx? q=some i:=by
  rw[List.findIdx?_eq_some_iff_getElem]
  obtain⟨h1,rfl⟩:=List.getElem?_eq_some_iff.1 he
  refine⟨h1,hq,fun j hj=> ?_⟩
  rw[h j hj _ (List.getElem?_eq_getElem (by omega))]
  simp
 unfold QF
 rw[this]
theorem Tv {q:Tree→Bool}{l:List Tree}(h:∀j,j<l.length→∀x,l[j]?=some x→q x=false):QF q l=-1:=by
 have:l.findIdx? q=none:=by
  rw[List.findIdx?_eq_none_iff]
  intro x hx
  obtain⟨j,hj,e⟩:=List.getElem_of_mem hx
  exact h j hj x (by rw[List.getElem?_eq_getElem hj,e])
 unfold QF
 rw[this]
theorem Tw {q:Tree→Bool}{l:List Tree}{i:Nat}{e:Tree}(h:∀j,j<i→∀x,l[j]?=some x→q x=false)(he:l[i]?=some e)(hq:q e=false):∀j,j<i+1→∀x,l[j]?=some x→q x=false:=fun j hj x hx=>by
  by_cases h1:j<i
  · exact h j h1 x hx
  · obtain rfl:j=i:=by omega
    rw[he] at hx;cases hx;exact hq
theorem wT [Inhabited β]{P:Tree→Prop}{mk:β→Tree}{Post:Tree→β→Prop}(h:∀x,P x→∃r:{r:β // Post x r},R1 C g x (mk r.1)):∃F:Tree→β,∀x,P x→R1 C g x (mk (F x))∧Post x (F x):=
 eF (Q:=fun x r=>R1 C g x (mk r)∧Post x r) fun x hx=>by obtain⟨r,hr⟩:=h x hx;exact⟨r.1,hr,r.2⟩
theorem tO [Inhabited β]{P:Tree→Tree→Prop}{mk:β→Tree}{Post:Tree→Tree→β→Prop}(h:∀x y,P x y→∃r:{r:β // Post x y r},R2 C g x y (mk r.1)):∃F:Tree→Tree→β,∀x y,P x y→R2 C g x y (mk (F x y))∧Post x y (F x y):=by
 obtain⟨F,hF⟩:=eF (α:=Tree×Tree) (P:=fun p=>P p.1 p.2) (Q:=fun p r=>R2 C g p.1 p.2 (mk r)∧Post p.1 p.2 r) fun p hp=>by obtain⟨r,hr⟩:=h p.1 p.2 hp;exact⟨r.1,hr,r.2⟩
 exact⟨fun x y=>F (x,y),fun x y hp=>hF (x,y) hp⟩
end
end Go.Abs
end
