/- Whole paths by the kernel: the interpreter asks for what it cannot tell (truths, answers of calls, elements of lists), and what it was told is proved beside. -/
import Derived.Test.YtfdnciimclnncaaGreatDoorQ
set_option linter.unusedVariables false
set_option linter.unusedSimpArgs false
noncomputable section
namespace Go.Abs
open Go
inductive Cl where
 |b (x c:Bool)
 |r (g:FuncId) (aua:List TV) (os:List aP) (x:br)
 |e (l:List Tree) (i:Nat) (x:Tree)
 |y (s:List UInt8) (i:Nat) (x:UInt8)
 |v (x y:TV)
 |n (o:aP)
 |z
 |u (ag:Bool) (sz:Nat) (es:List Tree)
 |w (ag:Bool) (sz:Nat) (fs:List Tree) (len:Nat) (cs:List TV)
 |l (a b:Nat)
 |pp (p:Prop)
 |po (x:Option TV) (v:TV)
 |pc (x y:List TV)
 |pm (x:Option (List (TV×TV×Nat)×Nat)) (y:List (TV×TV×Nat)) (c:Nat)
 |pe (x:Option (TV×List (TV×TV×Nat)×Nat)) (v:TV) (y:List (TV×TV×Nat)) (c:Nat)
def Cl.holds (ev:bp):Cl->Prop
 |.b p q=>p=q
 |.r g aua os q=>ev g aua os=some q
 |.e k i q=>k[i]?=some q
 |.y k i q=>k[i]?=some q
 |.v p q=>p=q
 |.n o=>∀σ,o.rn σ=some o
 |.z=>True
 |.u ag sz es=>eV ag sz es/\es≠ []
 |.w ag sz fs len cs=>cs=(flat fs).map TV.t/\len=fs.length/\eV ag sz fs
 |.l p q=>p<=q
 |.pp p=>p
 |.po p q=>p=some q
 |.pc p q=>p=q
 |.pm p q d=>p=some (q,d)
 |.pe p k q d=>p=some (k,q,d)
abbrev M (α:Type):=List Cl->Option (α×List Cl×List Cl)
section monad
variable {α β:Type}{ev:bp}
def dK (a:α):M α:=λcl=>some (a,cl,[])
def jb:M α:=λ_=>none
def qM (x:Option α):M α:=λcl=>match x with
 |some a=>some (a,cl,[])
 |none=>none
def bn (m:M α)(k:α->M β):M β:=λcl=>match m cl with
 |some (a,cl1,e1)=>(match k a cl1 with
  |some (b,cl2,e2)=>some (b,cl2,e1++e2)
  |none=>none)
 |none=>none
def ZW (x:Bool):M Bool:=λcl=>match cl with
 |.b _ c::r=>some (c,r,[.b x c])
 |_=>none
def aeo (l:List Tree)(i:Nat):M Tree:=λcl=>match cl with
 |.e _ _ x::r=>some (x,r,[.e l i x])
 |_=>none
def aiE (s:List UInt8)(i:Nat):M UInt8:=λcl=>match cl with
 |.y _ _ x::r=>some (x,r,[.y s i x])
 |_=>none
def aiF (g:FuncId)(aua:List TV)(os:List aP):M br:=λcl=>match cl with
 |.r _ _ _ x::r=>some (x,r,[.r g aua os x])
 |_=>none
def Lt (v:TV):M TV:=λcl=>match cl with
 |.v _ y::r=>some (y,r,[.v v y])
 |.z::r=>some (v,r,[.z])
 |_=>none
def ZX (ag:Bool)(sz:Nat)(es:List Tree):M Bool:=λcl=>match cl with
 |.u _ _ _::r=>some (true,r,[.u ag sz es])
 |.pp _::r=>some (false,r,[.pp (es=[])])
 |_=>none
def Xp (ag:Bool)(sz:Nat)(len:Nat)(cs:List TV):M (List Tree):=λcl=>match cl with
 |.w _ _ fs _ _::r=>some (fs,r,[.w ag sz fs len cs])
 |_=>none
def BW (a b:Nat):M Unit:=λcl=>match cl with
 |.l _ _::r=>some ((),r,[.l a b])
 |_=>none
def JJ (p:Prop):M Unit:=λcl=>match cl with
 |.pp _::r=>some ((),r,[.pp p])
 |_=>none
def Tz (x:Option TV):M TV:=λcl=>match cl with
 |.po _ v::r=>some (v,r,[.po x v])
 |_=>none
def ZY (x:List TV):M (List TV):=λcl=>match cl with
 |.pc _ y::r=>some (y,r,[.pc x y])
 |_=>none
def aep (x:Option (List (TV×TV×Nat)×Nat)):M (List (TV×TV×Nat)×Nat):=λcl=>match cl with
 |.pm _ y c::r=>some ((y,c),r,[.pm x y c])
 |_=>none
def aiG (x:Option (TV×List (TV×TV×Nat)×Nat)):M (TV×List (TV×TV×Nat)×Nat):=λcl=>match cl with
 |.pe _ v y c::r=>some ((v,y,c),r,[.pe x v y c])
 |_=>none
def dL (ev:bp)(m:M α)(x:Option α):Prop:=∀cl a FZ em,m cl=some (a,FZ,em)->(∀c∈em,c.holds ev)->x=some a
theorem dL.ret (a:α):dL ev (dK a) (some a):=λcl b FZ em h _=>by cases h;rfl
theorem dL.no {x:Option α}:dL ev jb x:=λcl b FZ em h _=>by cases h
theorem dL.opt (x:Option α):dL ev (qM x) x:=λcl b FZ em h _=>by
 cases x with
 |none=>cases h
 |some a=>cases h;rfl
theorem dL.bind {m:M α}{x:Option α}{k:α->M β}{y:α->Option β}(hm:dL ev m x)(hk:∀a,x=some a->dL ev (k a) (y a)):dL ev (bn m k) (x.bind y):=λcl b FZ em h he=>by
 unfold bn at h;split at h
 ·rename_i a cl1 e1 h1;split at h
  ·rename_i b' cl2 e2 h2;cases h;have hx:=hm _ _ _ _ h1 λc hc=>he c (List.mem_append_left _ hc)
   rw[hx];exact hk a hx _ _ _ _ h2 λc hc=>he c (List.mem_append_right _ hc)
  ·cases h
 ·cases h
theorem dL.of_eq {m:M α}{x y:Option α}(h:dL ev m x)(e:x=y):dL ev m y:=e▸h
theorem JK (x:Bool):dL ev (ZW x) (some x):=λcl a FZ em h he=>by
 unfold ZW at h;split at h
 ·cases h;have:=he _ (List.mem_singleton_self _);exact congrArg some this
 ·cases h
theorem Qq (l:List Tree)(i:Nat):dL ev (aeo l i) l[i]?:=λcl a FZ em h he=>by
 unfold aeo at h;split at h
 ·cases h;exact he _ (List.mem_singleton_self _)
 ·cases h
theorem ZZ (s:List UInt8)(i:Nat):dL ev (aiE s i) s[i]?:=λcl a FZ em h he=>by
 unfold aiE at h;split at h
 ·cases h;exact he _ (List.mem_singleton_self _)
 ·cases h
theorem Z0 (g:FuncId)(aua:List TV)(os:List aP):dL ev (aiF g aua os) (ev g aua os):=λcl a FZ em h he=>by
 unfold aiF at h;split at h
 ·cases h;exact he _ (List.mem_singleton_self _)
 ·cases h
theorem rG (v:TV):dL ev (Lt v) (some v):=λcl a FZ em h he=>by
 unfold Lt at h;split at h
 ·cases h;have:=he _ (List.mem_singleton_self _);exact congrArg some this
 ·cases h;rfl
 ·cases h
def MP (ev:bp)(m:M α)(P:α->Prop):Prop:=∀cl a FZ em,m cl=some (a,FZ,em)->(∀c∈em,c.holds ev)->P a
theorem MP.ret {a:α}{P:α->Prop}(h:P a):MP ev (dK a) P:=λcl b FZ em hm _=>by cases hm;exact h
theorem MP.no {P:α->Prop}:MP ev jb P:=λcl b FZ em h _=>by cases h
theorem MP.Vn {m:M α}{x:Option α}(h:dL ev m x):MP ev m λa=>x=some a:=h
theorem MP.mono {m:M α}{P Q:α->Prop}(h:MP ev m P)(k:∀a,P a->Q a):MP ev m Q:=λcl a FZ em hm he=>k a (h cl a FZ em hm he)
theorem MP.bind {m:M α}{P:α->Prop}{k:α->M β}{Q:β->Prop}(hm:MP ev m P)(hk:∀a,P a->MP ev (k a) Q):MP ev (bn m k) Q:=λcl b FZ em h he=>by
 unfold bn at h;split at h
 ·rename_i a cl1 e1 h1;split at h
  ·rename_i b' cl2 e2 h2;cases h;exact hk a (hm _ _ _ _ h1 λc hc=>he c (List.mem_append_left _ hc)) _ _ _ _ h2 λc hc=>he c (List.mem_append_right _ hc)
  ·cases h
 ·cases h
theorem Z1 {ag:Bool}{sz:Nat}{es:List Tree}:MP ev (ZX ag sz es) λb=>cond b (eV ag sz es/\es≠ []) (es=[]):=λcl a FZ em h he=>by
 unfold ZX at h;split at h
 ·cases h;exact he _ (List.mem_singleton_self _)
 ·cases h;exact he _ (List.mem_singleton_self _)
 ·cases h
theorem Ih {ag:Bool}{sz len:Nat}{cs:List TV}:MP ev (Xp ag sz len cs) λfs=>cs=(flat fs).map TV.t/\len=fs.length/\eV ag sz fs:=λcl a FZ em h he=>by
 unfold Xp at h;split at h
 ·cases h;exact he _ (List.mem_singleton_self _)
 ·cases h
theorem mQ {x y:Nat}:MP ev (BW x y) λ_=>x<=y:=λcl a FZ em h he=>by
 unfold BW at h;split at h
 ·cases h;exact he _ (List.mem_singleton_self _)
 ·cases h
theorem sP {p:Prop}:MP ev (JJ p) λ_=>p:=λcl a FZ em h he=>by
 unfold JJ at h;split at h
 ·cases h;exact he _ (List.mem_singleton_self _)
 ·cases h
theorem Di {x:Option TV}:MP ev (Tz x) λv=>x=some v:=λcl a FZ em h he=>by
 unfold Tz at h;split at h
 ·cases h;exact he _ (List.mem_singleton_self _)
 ·cases h
theorem NR {x:List TV}:MP ev (ZY x) λy=>x=y:=λcl a FZ em h he=>by
 unfold ZY at h;split at h
 ·cases h;exact he _ (List.mem_singleton_self _)
 ·cases h
theorem Vo {x:Option (List (TV×TV×Nat)×Nat)}:MP ev (aep x) λy=>x=some y:=λcl a FZ em h he=>by
 unfold aep at h;split at h
 ·cases h;exact he _ (List.mem_singleton_self _)
 ·cases h
theorem aeq {x:Option (TV×List (TV×TV×Nat)×Nat)}:MP ev (aiG x) λy=>x=some y:=λcl a FZ em h he=>by
 unfold aiG at h;split at h
 ·cases h;exact he _ (List.mem_singleton_self _)
 ·cases h
end monad
section ops
variable {ev:bp}{C:ew}{f:FuncId}
def Ii (ops:Array Oper)(slots:List TV)(o:Oper):M Bool:=
 match o.guard with
 |none=>dK true
 | some (j,want)=>match(ops[j]?).bind (·.dst) with
  |none=>dK false
  |some d=>match slots[d]? with
   |some (.t (.bool b))=>bn (ZW b) λc=>dK (c==want)
   |some (.t (.cG []))=>dK false
   |none=>dK false
   |_=>jb
theorem JL (ops:Array Oper)(slots:List TV)(o:Oper):dL ev (Ii ops slots o) (eX ops slots o):=by
 unfold Ii eX;cases o.guard with
 |none=>exact dL.ret _
 | some p=>
  obtain⟨j,want⟩:=p
  simp only
  cases (ops[j]?).bind (·.dst) with
  |none=>exact dL.ret _
  |some d=>
   simp only
   generalize slots[d]?=z
   split
   · exact dL.bind (x:=some _) (y:=λc=>some (c==want)) (JK _) λc _=>dL.ret _
   · exact dL.ret _
   · exact dL.ret _
   · exact dL.no
mutual
def NS:TV->Bool
 |.ref _ _ _=>true
 |.agg cs=>hasRefs cs
 |.cG cs=>hasRefs cs
 |.iface _ v=>NS v
 |_=>false
def hasRefs:List TV->Bool
 | []=>false
 |v::r=>NS v||hasRefs r
end
def Vp (g:TV->M (Tree×List Nm)):List TV->M (List Tree×List Nm)
 | []=>dK ([],[])
 |v::r=>bn (g v) λp=>bn (Vp g r) λq=>dK (p.1::q.1,p.2++q.2)
def Xq (H:Heap):Nat->TV->M (Tree×List Nm)
 |0,v=>qM (sG H 0 v)
 | n+1,v=>match v with
  |.ref k 0 len=>(match H.get k with
   |some (.arr g cc fz cs)=>if 0<cc then bn (Xp g.2 cc len cs) λfs=>dK (.sl fs,[k]) else jb
   |_=>jb)
  |.agg cs=>bn (Vp (Xq H n) cs) λp=>dK (.agg p.1,p.2)
  |.cG cs=>bn (Vp (Xq H n) cs) λp=>dK (.cG p.1,p.2)
  |v=>qM (sG H (n+1) v)
theorem NT {g:TV->M (Tree×List Nm)}{g':TV->Option (Tree×List Nm)}(h:∀v,MP ev (g v) λp=>g' v=some p):∀(l:List TV),MP ev (Vp g l) λp=>CK g' l=some p
 | []=>MP.ret rfl
 |v::r=>MP.bind (h v) λp hp=>MP.bind (NT h r) λq hq=>MP.ret (by simp only[CK,hp,hq])
theorem NU (H:Heap):∀(n:Nat) (v:TV),MP ev (Xq H n v) λp=>sG H n v=some p
 |0,v=>MP.Vn (dL.opt _)
 | n + 1,v=>by
   unfold Xq
   split
   · rename_i k len
     split
     · rename_i g cc fz cs hk
       split
       · rename_i hz
         refine MP.bind Ih λfs hf=>MP.ret ?_
         obtain⟨rfl,rfl,hu⟩:=hf
         obtain⟨g1,g2⟩:=g
         exact Vf hk hu hz rfl
       · exact MP.no
     · exact MP.no
   · rename_i cs
     exact MP.bind (NT (NU H n) cs) λp hp=>MP.ret (by simp only[sG,hp])
   · rename_i cs
     exact MP.bind (NT (NU H n) cs) λp hp=>MP.ret (by simp only[sG,hp])
   · exact MP.Vn (dL.opt _)
def JM (H:Heap):List TV->M (List TV×List Nm)
 | []=>dK ([],[])
 | v::r=>bn (JM H r) λp=>match NS v with
  |true=>bn (Xq H ji v) λq=>dK (.t q.1::p.1,q.2++p.2)
  |false=>dK (match sG H ji v with
   |some (x,k)=>(.t x::p.1,k++p.2)
   |none=>(v::p.1,p.2))
theorem JN (H:Heap):∀(l:List TV),MP ev (JM H l) λp=>o8 H l=p
 | []=>MP.ret rfl
 | v ::r=>by
   refine MP.bind (JN H r) λp hp=> ?_
   split
   · refine MP.bind (NU H ji v) λq hq=>MP.ret ?_
     simp only[o8,hp,hq]
   · refine MP.ret ?_
     simp only[o8,hp]
     cases sG H ji v<;>rfl
def aer:aP->Bool
 |.arr _ _ _ _=>true
 |.map _ _=>true
 |_=>false
def aes (o:aP):M aP:=λcl=>match cl with
 |.n _::r=>some (o,r,[.n o])
 |_=>none
theorem Qr {o:aP}:MP ev (aes o) λo'=>o'=o/\∀σ,o.rn σ=some o:=λcl a FZ em h he=>by
 unfold aes at h;split at h
 ·cases h;exact⟨rfl,he _ (List.mem_singleton_self _)⟩
 ·cases h
def rnO (σ:Nm->Option Nm)(o:aP):M aP:=match aer o with
 |true=>aes o
 |false=>qM (o.rn σ)
theorem TA {σ:Nm->Option Nm}{o:aP}:MP ev (rnO σ o) λo'=>o.rn σ=some o':=by
 unfold rnO;split
 ·exact Qr.mono λo' h=>by rw[h.1];exact h.2 σ
 ·exact MP.Vn (dL.opt _)
mutual
theorem qN:∀{v v':TV},v.rn (λ_=>none)=some v'->v.names=[]
 |.t _,_,_=>rfl
 |.any,_,_=>rfl
 |.bX,_,_=>rfl
 |.qp _,_,_=>rfl
 |.lS _ _,_,_=>rfl
 |.ref _ _ _,_,h=>by simp[TV.rn] at h
 |.ptr _ _,_,h=>by simp[TV.rn] at h
 |.lR _ _ _,_,h=>by simp[TV.rn] at h
 |.map _,_,h=>by simp[TV.rn] at h
 | .agg cs,_,h=>by
   simp only[TV.rn,Option.map_eq_some_iff] at h
   obtain⟨a,h,_⟩:=h
   simp only[TV.names,mC h]
 | .cG cs,_,h=>by
   simp only[TV.rn,Option.map_eq_some_iff] at h
   obtain⟨a,h,_⟩:=h
   simp only[TV.names,mC h]
 | .iface _ v,_,h=>by
   simp only[TV.rn,Option.map_eq_some_iff] at h
   obtain⟨a,h,_⟩:=h
   simp only[TV.names,qN h]
 | .fn _ fs cs,_,h=>by
   simp only[TV.rn] at h
   split at h
   · rename_i h1 h2
     simp only[TV.names,mC h1,mC h2,List.append_nil]
   · cases h
theorem mC:∀{l l':List TV},TV.yZ (λ_=>none) l=some l'->TV.k4 l=[]
 | [],_,_=>rfl
 | v ::r,_,h=>by
   simp only[TV.yZ] at h
   split at h
   · rename_i h1 h2
     simp only[TV.k4,qN h1,mC h2,List.append_nil]
   · cases h
end
theorem GZ:∀{es es':List (TV×TV×Nat)},Yz (λ_=>none) es=some es'->M4 es=[]
 | [],_,_=>rfl
 | (k,v,b)::r,_,h=>by
   simp only[Yz] at h
   split at h
   · rename_i h1 h2 h3
     simp only[M4,qN h1,qN h2,GZ h3,List.append_nil]
   · cases h
theorem aP.qN {o:aP}(h:o.rn (λ_=>none)=some o):o.names=[]:=by
 cases o with
 |cells ty cs=>
  simp only[aP.rn,Option.map_eq_some_iff] at h
  obtain⟨a,h,_⟩:=h
  exact mC h
 |arr g e fz cs=>
  simp only[aP.rn,Option.map_eq_some_iff] at h
  obtain⟨a,h,_⟩:=h
  exact mC h
 |map es c=>
  simp only[aP.rn,Option.map_eq_some_iff] at h
  obtain⟨a,h,_⟩:=h
  exact GZ h
 |dead=>rfl
def NV (o:aP):M (List Nm):=match aer o with
 |true=>bn (aes o) λ_=>dK []
 |false=>dK o.names
def ahq (o:aP):Prop:=aer o=true->∀σ,o.rn σ=some o
theorem Qs {o:aP}:MP ev (NV o) λl=>o.names=l/\ahq o:=by
 unfold NV;split
 ·exact MP.bind Qr λ_ h=>MP.ret ⟨aP.qN (h.2 _),λ_=>h.2⟩
 ·rename_i hb;exact MP.ret ⟨rfl,λh=>by rw[hb] at h;cases h⟩
def NW:List aP->M (List Nm)
 | []=>dK []
 |o::r=>bn (NV o) λl=>bn (NW r) λl2=>dK (l++l2)
theorem JO:∀{os:List aP},MP ev (NW os) λl=>os.flatMap aP.names=l
 | []=>MP.ret rfl
 |o::r=>MP.bind Qs λl h=>MP.bind JO λl2 h2=>MP.ret (by rw[List.flatMap_cons,h.1,h2])
def zG (H:Heap):Nat->List Nm->List Nm->M (List Nm)
 |_,done,[]=>dK done
 |0,_,_=>jb
 | n+1,done,k::todo=>match decide (k∈done) with
  |true=>zG H n done todo
  |false=>(match H.get k with
   |some o=>bn (NV o) λl=>zG H n (done++[k]) (todo++l)
   |none=>jb)
def TB (H:Heap)(k:Nm):Prop:=∀o,H.get k=some o->ahq o
theorem wN {H:Heap}:∀(n:Nat) (done todo:List Nm),MP ev (zG H n done todo) λS=>reach H n done todo=some S/\((∀k∈done,TB H k)->∀k∈S,TB H k)
 |0,done,[]=>MP.ret ⟨rfl,λh=>h⟩
 |n+1,done,[]=>MP.ret ⟨rfl,λh=>h⟩
 |0,_,_::_=>MP.no
 | n + 1,done,k::todo=>by
   unfold zG reach
   split
   · rename_i hd
     rw[if_pos (of_decide_eq_true hd)]
     exact wN n done todo
   · rename_i hd
     rw[if_neg (of_decide_eq_false hd)]
     split
     · rename_i o ho
       refine MP.bind Qs λl hl=>(wN n (done++[k]) (todo++l)).mono λS hS=>⟨by simp only[ho,hl.1];exact hS.1,λh=>hS.2 λk' hk'=> ?_⟩
       rcases List.mem_append.1 hk' with hk'|hk'
       · exact h k' hk'
       · rw[List.mem_singleton.1 hk']
         intro o' ho'
         rw[ho] at ho'
         cases ho'
         exact hl.2
     · exact MP.no
def rnB (σ:Nm->Option Nm)(o:aP):Option aP:=match aer o with
 |true=>some o
 |false=>o.rn σ
def Ij (H:Heap)(S:List Nm):List Nm->Option (List aP)
 | []=>some []
 |k::r=>match H.get k,Ij H S r with
  |some o,some os=>(rnB (LL S) o).map (· ::os)
  |_,_=>none
theorem JP {H:Heap}{S:List Nm}:∀{l:List Nm},(∀k∈l,TB H k)->Ij H S l=jM H S l
 | [],_=>rfl
 | k::r,h=>by
  simp only[Ij,jM,JP λk' hk'=>h k' (List.mem_cons_of_mem _ hk')]
  cases ho:H.get k with
  |none=>rfl
  | some o=>
   have e:rnB (LL S) o=o.rn (LL S):=by
    unfold rnB
    split
    · rename_i hb;exact(h k List.mem_cons_self o ho hb _).symm
    · rfl
   cases jM H S r with
   |none=>rfl
   |some os=>simp only[e]
def Z2 (H:Heap)(keep:Bool)(args:List TV):M (List TV×List Nm):=match keep with
 |true=>dK (args,[])
 |false=>JM H args
theorem Z3 {H:Heap}{keep:Bool}{args:List TV}:MP ev (Z2 H keep args) λp=>Pq H keep args=p:=by
 cases keep with
 |true=>exact MP.ret rfl
 |false=>exact JN H args
def Mi (H1:Heap)(args:List TV):M (List Nm×List TV×List aP):=bn (zG H1 iK [] (TV.k4 args)) λS=>
 if S.Nodup then(match TV.yZ (LL S) args,Ij H1 S S with
  |some aua,some os=>dK (S,aua,os)
  |_,_=>jb) else jb
theorem Qt {H1:Heap}{args:List TV}:MP ev (Mi H1 args) λq=>reach H1 iK [] (TV.k4 args)=some q.1/\q.1.Nodup/\TV.yZ (LL q.1) args=some q.2.1/\jM H1 q.1 q.1=some q.2.2:=
 MP.bind (wN _ _ _) λS hS=>by
  split
  ·rename_i hn;split
   ·rename_i aua os h1 h2;exact MP.ret ⟨hS.1,hn,h1,by rw[← JP (hS.2 λk hk=>by cases hk)];exact h2⟩
   ·exact MP.no
  ·exact MP.no
def JQ (S:List Nm)(t:Nat):List Nm->List aP->M Heap
 | [],[]=>dK []
 |k::r,o::os=>bn (rnO (nN S t) o) λo=>bn (JQ S t r os) λh=>dK ((k,o)::h)
 |_,_=>jb
theorem JR {S:List Nm}{t:Nat}:∀{l:List Nm} {os:List aP},MP ev (JQ S t l os) λh=>kB S t l os=some h
 | [],[]=>MP.ret rfl
 |k::r,o::os=>MP.bind TA λo' h1=>MP.bind JR λh h2=>MP.ret (by simp only[kB,h1,h2])
 | [],_::_=>MP.no
 |_::_,[]=>MP.no
def Dj (S:List Nm)(t:Nat):Heap->M Heap
 | []=>dK []
 |(k,o)::r=>match nN S t k with
  |some k=>bn (rnO (nN S t) o) λo=>bn (Dj S t r) λh=>dK ((k,o)::h)
  |none=>jb
theorem JS {S:List Nm}{t:Nat}:∀{l:Heap},MP ev (Dj S t l) λh=>kC S t l=some h
 | []=>MP.ret rfl
 | (k,o)::r=>by
   unfold Dj
   split
   · rename_i k' hk
     exact MP.bind TA λo' h1=>MP.bind JS λh h2=>MP.ret (by simp only[kC,hk,h1,h2])
   · exact MP.no
def Z4 (H:Heap)(g:FuncId)(args:List TV)(t:Nat)(keep:Bool):M tv:=bn (Z2 H keep args) λp=>bn (Mi (H.fk (eU H p.2)) p.1) λq=>bn (aiF g q.2.1 q.2.2) λx=>match x with
 |.ret v os' news=>bn (qM (v.rn (nN q.1 t))) λv=>bn (JQ q.1 t q.1 os') λh=>bn (Dj q.1 t news) λh'=>dK (.val v ((eU H p.2).filter (λr=> !(q.1.contains r.1))++h++h'))
 |.panic v os'=>bn (qM (v.rn (nN q.1 t))) λv=>bn (qM (o9 q.1 t q.1 os')) λh=>dK (.panic v ((eU H p.2).filter (λr=> !(q.1.contains r.1))++h.1) h.2)
theorem Qu (H:Heap)(g:FuncId)(args:List TV)(t:Nat)(keep:Bool):dL ev (Z4 H g args t keep) (uP ev H g args t keep):=by
 refine MP.bind Z3 λp hp=>MP.bind Qt λq hq=>MP.bind (MP.Vn (Z0 g q.2.1 q.2.2)) λx hx=> ?_
 obtain⟨h1,h2,h3,h4⟩:=hq;obtain⟨p1,p2⟩:=p;simp only at h1 h3 h4;split
 ·refine MP.bind (MP.Vn (dL.opt _)) λv h5=>MP.bind JR λh h6=>MP.bind JS λh' h7=>MP.ret ?_
  unfold uP;rw[hp];simp only[h1,if_pos h2,h3,h4,hx,h5,h6,h7]
 ·refine MP.bind (MP.Vn (dL.opt _)) λv h5=>MP.bind (MP.Vn (dL.opt _)) λh h6=>MP.ret ?_
  unfold uP;rw[hp];simp only[h1,if_pos h2,h3,h4,hx,h5,h6]
def NX:TV->Option Nat
 |.t (.int _ (.ofNat n))=>some n
 |_=>none
theorem xY {v:TV}{n:Nat}(h:NX v=some n):iB v=some n:=by
 unfold NX at h;split at h
 ·cases h;simp[iB]
 ·cases h
def xZ (P:jZ)(H:Heap)(t:TypeId)(x i:TV):M TV:=
 match bw P t,NX i with
 | some ti,some n=>(match ti.desc,x with
  |.slice elem,.t (.sl es)=>(match bw P elem with
   |some te=>bn (aeo es n) λe=>qM (if e.cells.length=te.size then some (.lS e.cells 0) else none)
   |none=>jb)
  |.slice elem,.qp es=>(match bw P elem with
   |some te=>bn (aeo es n) λe=>qM (if e.cells.length=te.size then some (.lS e.cells 0) else none)
   |none=>jb)
  |.slice elem,.ref k 0 len=>(match bw P elem,H.get k with
   |some te,some (.arr g cc _ cs)=>if te.size=cc/\0<cc then bn (Xp g.2 cc len cs) λ_=>bn (BW (n+1) len) λ_=>dK (.lR k cs.length (n*cc)) else jb
   |_,_=>jb)
  |_,_=>qM (fE P H t x i))
 |_,_=>qM (fE P H t x i)
theorem Bo (P:jZ)(H:Heap)(t:TypeId)(x i:TV):dL ev (xZ P H t x i) (fE P H t x i):=by
 unfold xZ;split
 ·rename_i ti n ht hn;have hi:=xY hn;split
  ·rename_i elem es hd;split
   ·rename_i te hte;refine dL.of_eq (dL.bind (Qq es n) λe _=>dL.opt _) ?_;unfold fE;rw[ht,hi];simp only[hd,hte];cases es[n]? <;>rfl
   ·exact dL.no
  ·rename_i elem es hd;split
   ·rename_i te hte;refine dL.of_eq (dL.bind (Qq es n) λe _=>dL.opt _) ?_;unfold fE;rw[ht,hi];simp only[hd,hte];cases es[n]? <;>rfl
   ·exact dL.no
  ·rename_i elem k len hd;split
   ·rename_i te g cc fz cs hte hk;split
    ·rename_i hc;obtain⟨hc,hz⟩:=hc;refine MP.bind Ih λfs hf=>MP.bind mQ λ_ hl=>MP.ret ?_
     obtain⟨rfl,rfl,hu⟩:=hf;have h2:kH H k 0 fs.length=some (g,cc,fz,(flat fs).map .t):=by
      unfold kH;simp only[hk];rw[if_pos ⟨hz,by rw[Nat.zero_add,hu.length]⟩]
     unfold fE;rw[ht,hi];simp only[hd,hte,h2,hc,Nat.zero_add];rw[if_pos ⟨trivial,hl⟩]
    ·exact MP.no
   ·exact MP.no
  ·exact dL.opt _
 ·exact dL.opt _
def Z5 (P:jZ)(H:Heap)(t:TypeId)(a:TV):M TV:=match a with
 |.lR k m o=>(match bw P t,H.get k with
  |some ti,some (.arr _ _ _ cs)=>bn (JJ (cs.length=m)) λ_=>Tz (partT ti.agg ti.size cs o)
  |_,_=>jb)
 |a=>qM (loadT P H t a)
theorem Z6 (P:jZ)(H:Heap)(t:TypeId)(a:TV):dL ev (Z5 P H t a) (loadT P H t a):=by
 unfold Z5;split
 ·rename_i k m o;split
  ·rename_i ti g cc fz cs ht hk;refine MP.bind sP λ_ hm=>Di.mono λv hv=> ?_
   subst hm;simp only[loadT,ht,xB,hk,if_true];exact hv
  ·exact MP.no
 ·exact dL.opt _
def TC (P:jZ)(H:Heap)(t:TypeId)(a x:TV):M (List (Nm×aP)):=match a with
 | .lR k m o=>(match bw P t,H.get k with
  |some ti,some (.arr g cc false cs)=>(match decide (x.cells.length=ti.size)&&x.cells.all TV.leaf with
   |true=>bn (JJ (cs.length=m)) λ_=>bn (BW (o+ti.size) cs.length) λ_=>bn (ZY (dH cs o x.cells)) λcs'=>dK [(k,.arr g cc false cs')]
   |false=>jb)
  |_,_=>jb)
 |a=>qM (storeT P H t a x)
theorem Xr (P:jZ)(H:Heap)(t:TypeId)(a x:TV):dL ev (TC P H t a x) (storeT P H t a x):=by
 unfold TC;split
 ·rename_i k m o;split
  ·rename_i ti g cc cs ht hk;split
   ·rename_i hb;refine MP.bind sP λ_ hm=>MP.bind mQ λ_ hl=>MP.bind NR λcs' hc=>MP.ret ?_
    subst hm hc;exact sta ht hk hb hl
   ·exact MP.no
  ·exact MP.no
 ·exact dL.opt _
def NY (H:Heap)(a:TV)(n:Nat):M TV:=match a with
 |.lR k m o=>(match H.get k with
  |some (.arr _ _ _ cs)=>bn (JJ (cs.length=m)) λ_=>dK (.lR k m (o+n))
  |_=>jb)
 |a=>qM (th H a n)
theorem TD (H:Heap)(a:TV)(n:Nat):dL ev (NY H a n) (th H a n):=by
 unfold NY;split
 ·rename_i k m o;split
  ·rename_i g cc fz cs hk;refine MP.bind sP λ_ hm=>MP.ret ?_
   simp only[th,hk,if_pos hm]
  ·exact MP.no
 ·exact dL.opt _
def JT (P:jZ)(H:Heap)(s i:Nat)(a:TV):M TV:=match pQ P s i with
 |some off=>NY H a off
 |none=>jb
def Qv (o:Option TV)(d:Nat):Option Nat:=match o with
 |none=>some d
 |some v=>NX v
theorem Dk {o:Option TV}{d n:Nat}(h:Qv o d=some n):gj o d=some n:=by
 cases o with
 |none=>exact h
 |some v=>exact xY h
theorem Mj {ag:Bool}{sz:Nat}{fs:List Tree}(hu:eV ag sz fs)(h:Nat):((flat fs).map TV.t).take (h*sz)=(flat (fs.take h)).map TV.t:=by
 rw[← List.map_take];congr 1;induction h generalizing fs with
 |zero=>simp[flat]
 | succ n ih=>
  cases fs with
  |nil=>simp[flat]
  |cons e r=>
   have he:e.cells.length=sz:=(hu e List.mem_cons_self).1
   have e1:flat (e::r)=e.cells++flat r:=by simp[flat]
   have e2:flat ((e::r).take (n+1))=e.cells++flat (r.take n):=by simp[flat]
   rw[e1,e2,Nat.succ_mul,Nat.add_comm,← he,List.take_length_add_append,he,ih λx hx=>hu x (List.mem_cons_of_mem _ hx)]
def JU (b:Bool)(P:jZ)(H:Heap)(nm:Nm)(t:TypeId)(x:TV)(lo hi mx:Option TV):M tv:=
 let old:M tv:=qM (match Bf b P H nm t x lo hi mx with
  |some r=>some (.val r.1 r.2)
  |none=>match tq P H t x lo hi mx with
   |some (r,ks)=>some (.val r (eU H ks))
   |none=>none)
 match x,mx with
 | .t (.str s),none=>(match bw P t,Qv lo 0,Qv hi s.length with
  |some ti,some l,some h=>(match ti.desc with
   |.string=>bn (BW l h) λ_=>bn (BW h s.length) λ_=>dK (.val (.t (.str ((s.take h).drop l))) [])
   |_=>jb)
  |_,_,_=>jb)
 | .t (.sl es),none=>(match bw P t,Qv lo 0,Qv hi es.length with
  | some ti,some l,some h=>(match ti.desc with
   |.slice elem=>(match bw P elem with
    |some te=>bn (JJ (kZ te.size es=true)) λ_=>bn (BW l h) λ_=>bn (BW h es.length) λ_=>dK (.val (.t (.sl ((es.take h).drop l))) [])
    |none=>jb)
   |_=>jb)
  |_,_,_=>jb)
 | .ref k 0 len,none=>(match b,lo,hi.bind NX with
  | true,none,some h=>(match bw P t,H.get k with
   | some ti,some (.arr g cc false cs)=>(match ti.desc with
    |.slice elem=>(match bw P elem with
     |some te=>if te.size=cc/\0<cc then bn (Xp g.2 cc len cs) λfs=>bn (BW h len) λ_=>dK (.val (.ref nm 0 h) [(k,.dead),(nm,.arr g cc false ((flat (fs.take h)).map .t))]) else jb
     |none=>jb)
    |_=>jb)
   |_,_=>jb)
  |_,_,_=>old)
 |_,_=>old
theorem F0        (b:Bool)(P:jZ)(H:Heap)(nm:Nm)(t:TypeId)(x:TV)(lo hi mx:Option TV):dL ev (JU b P H nm t x lo hi mx) (match Bf b P H nm t x lo hi mx with
 |some r=>some (.val r.1 r.2)
 | none=>match tq P H t x lo hi mx with
   |some (r,ks)=>some (.val r (eU H ks))
   |none=>none):=by
 unfold JU
 simp only
 split
 ·rename_i s;split
  ·rename_i ti l h ht hl hh;have hl':=Dk hl;have Ja:=Dk hh;split
   ·rename_i hd;refine MP.bind mQ λ_ h1=>MP.bind mQ λ_ h2=>MP.ret ?_
    rw[M0];simp only[tq,ht,hd,hl',Ja,if_pos (And.intro h1 h2)];rfl
   ·exact MP.no
  ·exact MP.no
 ·rename_i es;split
  ·rename_i ti l h ht hl hh;have hl':=Dk hl;have Ja:=Dk hh;split
   ·rename_i elem hd;split
    ·rename_i te hte;refine MP.bind sP λ_ h0=>MP.bind mQ λ_ h1=>MP.bind mQ λ_ h2=>MP.ret ?_
     rw[M0];have e1:BE H (.t (.sl es))=some es.length:=rfl;have e2:gj none es.length=some es.length:=rfl;simp only[tq,ht,hd,hte,e1,e2,hl',Ja,Option.isNone_none,Bool.true_or,if_pos (And.intro h1 (And.intro h2 (Nat.le_refl _))),h0,if_true,Option.isSome_none,Bool.false_and,Wy,Bool.false_eq_true,if_false];rfl
    ·exact MP.no
   ·exact MP.no
  ·exact MP.no
 ·rename_i k len;split
  ·rename_i h hh;split
   ·rename_i ti g cc cs ht hk;split
    ·rename_i elem hd;split
     ·rename_i te hte;split
      ·rename_i hc;refine MP.bind Ih λfs hf=>MP.bind mQ λ_ h1=>MP.ret ?_
       obtain⟨rfl,rfl,hu⟩:=hf;cases hi with
       |none=>cases hh
       | some hv=>
         have Ja:=xY hh
         have h2:kH H k 0 fs.length=some (g,cc,false,(flat fs).map .t):=by
           unfold kH
           simp only[hk]
           rw[if_pos ⟨hc.2,by rw[Nat.zero_add,hu.length]⟩]
         simp only[Bf,if_true,BF,ht,Ja,h2,hd,hte,if_pos (And.intro hc.1 h1),Mj hu]
      ·exact MP.no
     ·exact MP.no
    ·exact MP.no
   ·exact MP.no
  ·exact dL.opt _
 ·exact dL.opt _
def Bp (P:jZ)(t:TypeId)(es:List (TV×TV×Nat))(k:TV)(ok:Bool):Option TV:=
 match bw P t with
 | some ti=>match ti.desc with
  | .map kt et=>match bw P kt,bw P et with
   | some tk,some te=>
    if y9 P es.isEmpty kt k=true then
     match o7 P kt tk.desc k es 0,te.zero with
     |some (some (_,v,_)),_=>some (if ok then sF [v,.t (.bool true)] else v)
     |some none,some z=>some (if ok then sF [z,.t (.bool false)] else z)
     |_,_=>none
    else none
   |_,_=>none
  |_=>none
 |none=>none
theorem Z7 {P:jZ}{H:Heap}{t:TypeId}{k:TV}{ok:Bool}{m:Nm}{es:List (TV×TV×Nat)}{c:Nat}(hk:H.get m=some (.map es c)):xD P H t (.map m) k ok=Bp P t es k ok:=by
 unfold xD Bp;simp only[mapOf,hk];cases bw P t with
 |none=>rfl
 |some ti=>
  simp only
  cases ti.desc<;>try rfl
  rename_i kt et
  simp only
  cases bw P kt<;>cases bw P et<;>rfl
def Z8 (P:jZ)(H:Heap)(t:TypeId)(x k:TV)(ok:Bool):M TV:=match x with
 |.map m=>(match H.get m with
  |some (.map es _)=>Tz (Bp P t es k ok)
  |_=>jb)
 |x=>qM (xD P H t x k ok)
theorem Z9 (P:jZ)(H:Heap)(t:TypeId)(x k:TV)(ok:Bool):dL ev (Z8 P H t x k ok) (xD P H t x k ok):=by
 unfold Z8;split
 ·split
  ·rename_i hk;refine Di.mono λv hv=> ?_
   rw[Z7 hk];exact hv
  ·exact MP.no
 ·exact dL.opt _
def aiH (P:jZ)(t:TypeId)(es:List (TV×TV×Nat))(c:Nat)(k v:TV):Option (List (TV×TV×Nat)×Nat):=
 match bw P t with
 | some ti=>match ti.desc with
  | .map kt _=>match bw P kt with
   | some tk=>
    if y9 P false kt k=true then
     match o7 P kt tk.desc k es 0 with
     |some (some (i,_,b))=>some (es.set i (k,v,b),c)
     |some none=>some (es++[(k,v,c)],c+1)
     |none=>none
    else none
   |none=>none
  |_=>none
 |none=>none
theorem al5 {P:jZ}{H:Heap}{t:TypeId}{k v:TV}{m:Nm}{es:List (TV×TV×Nat)}{c:Nat}(hk:H.get m=some (.map es c)){p:List (TV×TV×Nat)×Nat}(h:aiH P t es c k v=some p):k3 P H t (.map m) k v=some [(m,.map p.1 p.2)]:=by
 unfold aiH at h;split at h<;>try (cases h;done)
 rename_i ti ht;split at h<;>try (cases h;done)
 rename_i kt et hd;split at h<;>try (cases h;done)
 rename_i tk U7;split at h<;>try (cases h;done)
 rename_i hc;unfold k3;simp only[ht,hd,hk,U7,if_pos hc];split at h<;>cases h<;>simp_all
def Xs (P:jZ)(t:TypeId)(es:List (TV×TV×Nat))(c:Nat)(k:TV):Option (TV×List (TV×TV×Nat)×Nat):=
 match bw P t with
 | some ti=>match ti.desc with
  | .map kt et=>match bw P kt,bw P et with
   | some tk,some te=>
    if y9 P false kt k=true then
     match o7 P kt tk.desc k es 0,te.zero with
     |some (some (i,v,b)),_=>some (sF [v,.t (.int .i64 b)],es.set i (k,v,b),c)
     |some none,some z=>some (sF [z,.t (.int .i64 c)],es++[(k,z,c)],c+1)
     |_,_=>none
    else none
   |_,_=>none
  |_=>none
 |none=>none
theorem al6 {P:jZ}{H:Heap}{t:TypeId}{k:TV}{m:Nm}{es:List (TV×TV×Nat)}{c:Nat}(hk:H.get m=some (.map es c)){p:TV×List (TV×TV×Nat)×Nat}(h:Xs P t es c k=some p):og P H t (.map m) k=some (p.1,[(m,.map p.2.1 p.2.2)]):=by
 unfold Xs at h;split at h<;>try (cases h;done)
 rename_i ti ht;split at h<;>try (cases h;done)
 rename_i kt et hd;split at h<;>try (cases h;done)
 rename_i tk te U7 hte;split at h<;>try (cases h;done)
 rename_i hc;unfold og;simp only[ht,hd,hk,U7,hte,if_pos hc];split at h<;>cases h<;>simp_all
def aiI (P:jZ)(H:Heap)(t:TypeId)(x k:TV):M tv:=match x with
 |.map m=>(match H.get m with
  |some (.map es c)=>bn (aiG (Xs P t es c k)) λp=>dK (.val p.1 [(m,.map p.2.1 p.2.2)])
  |_=>jb)
 |x=>qM ((og P H t x k).map λp=>.val p.1 p.2)
theorem aet (P:jZ)(H:Heap)(t:TypeId)(x k:TV):dL ev (aiI P H t x k) ((og P H t x k).map λp=>.val p.1 p.2):=by
 unfold aiI;split
 ·split
  ·rename_i hk;refine MP.bind aeq λp hp=>MP.ret ?_
   rw[al6 hk hp];rfl
  ·exact MP.no
 ·exact dL.opt _
def aac (es:List (TV×TV×Nat))(c:Nat)(n:Int)(v:TV):Option (List (TV×TV×Nat)×Nat):=match sK es n 0 with
 |some i=>match es[i]? with
  |some (k,_,b)=>some (es.set i (k,v,b),c)
  |none=>none
 |none=>none
theorem al7 {H:Heap}{v:TV}{kk:IntKind}{n:Int}{m:Nm}{es:List (TV×TV×Nat)}{c:Nat}(hk:H.get m=some (.map es c)){p:List (TV×TV×Nat)×Nat}(h:aac es c n v=some p):kS H (.map m) (.t (.int kk n)) v=some [(m,.map p.1 p.2)]:=by
 unfold aac at h;split at h<;>try (cases h;done)
 rename_i i hi;split at h<;>try (cases h;done)
 rename_i k w b he;cases h;unfold kS;simp only[hk,hi,he]
def aiJ (H:Heap)(x s v:TV):M (List (Nm×aP)):=match x,s with
 |.map m,.t (.int _ n)=>(match H.get m with
  |some (.map es c)=>bn (aep (aac es c n v)) λp=>dK [(m,.map p.1 p.2)]
  |_=>jb)
 |x,s=>qM (kS H x s v)
theorem aeu (H:Heap)(x s v:TV):dL ev (aiJ H x s v) (kS H x s v):=by
 unfold aiJ;split
 ·split
  ·rename_i hk;refine MP.bind Vo λp hp=>MP.ret ?_
   exact al7 hk hp
  ·exact MP.no
 ·exact dL.opt _
section
variable {P:jZ}{ty kt et:TypeId}{ti tk te:TI}{s:List UInt8}{es:List (TV×TV×Nat)}
end
def aiK (P:jZ)(H:Heap)(t:TypeId)(x k v:TV):M (List (Nm×aP)):=match x with
 |.map m=>(match H.get m with
  |some (.map es c)=>bn (aep (aiH P t es c k v)) λp=>dK [(m,.map p.1 p.2)]
  |_=>jb)
 |x=>qM (k3 P H t x k v)
theorem aev (P:jZ)(H:Heap)(t:TypeId)(x k v:TV):dL ev (aiK P H t x k v) (k3 P H t x k v):=by
 unfold aiK;split
 ·split
  ·rename_i hk;refine MP.bind Vo λp hp=>MP.ret ?_
   exact al5 hk hp
  ·exact MP.no
 ·exact dL.opt _
def TE (P:jZ)(t:TypeId)(x i:TV):M TV:=
 match bw P t,NX i with
 |some ti,some n=>(match ti.desc,x with
  |.string,.t (.str s)=>bn (aiE s n) λb=>dK (.t (.int .u8 b.toNat))
  |_,_=>qM (tj P t x i))
 |_,_=>qM (tj P t x i)
theorem Xt (P:jZ)(t:TypeId)(x i:TV):dL ev (TE P t x i) (tj P t x i):=by
 unfold TE;split
 ·rename_i ti n ht hn;have hi:=xY hn;split
  ·rename_i s hd;refine dL.of_eq (dL.bind (y:=λb=>some (.t (.int .u8 b.toNat))) (ZZ s n) λe _=>dL.ret _) ?_;unfold tj;rw[ht,hi];simp only[hd];cases s[n]? <;>rfl
  ·exact dL.opt _
 ·exact dL.opt _
def Xu (m:M TV):M tv:=bn m λv=>dK (.val v [])
theorem Ik {m:M TV}{x:Option TV}(h:dL ev m x):dL ev (Xu m) (match CH x with
 |some (v,u)=>some (.val v u)
 |none=>none):=by
 refine dL.of_eq (dL.bind (y:=λv=>some (.val v [])) h λa _=>dL.ret _) ?_
 cases x<;>rfl
def aiL:TV->Option (List Tree)
 |.t (.sl es)=>some es
 |.qp es=>some es
 |_=>none
theorem aew {v:TV}{es:List Tree}(h:aiL v=some es):Vg v es:=by
 unfold aiL at h;split at h
 ·cases h;exact .inl rfl
 ·cases h;exact .inr rfl
 ·cases h
def aiM ( P:jZ)(nm:Nm)(H:Heap)(st xt:TypeId)(s x:TV):M (TV×List (Nm×aP)):=
 match bw P st with
 | some ti=>(match ti.desc with
  | .slice elem=>(match bw P elem,aiL x with
   | some te,some es=>(match te.zero with
    | some z=>if te.size≠0/\z.cells.length=te.size/\te.bytes≠0/\st=xt then
      bn (ZX te.agg te.size es) λb=>match b with
      |false=>qM (lV P nm H st xt s (.t (.sl [])))
      | true=>(match s with
       |.bX=>bn (BW (es.length*te.bytes) gL) λ_=>dK (.ref nm 0 es.length,[(nm,.arr (elem,te.agg) te.size false ((flat es).map .t))])
       |.qp []=>bn (BW (es.length*te.bytes) gL) λ_=>dK (.ref nm 0 es.length,[(nm,.arr (elem,te.agg) te.size false ((flat es).map .t))])
       |.ref k 0 len=>(match H.get k with
        | some (.arr g cc fz cs)=>if g=(elem,te.agg)/\cc=te.size then bn (Xp te.agg te.size len cs) λfs=>bn (BW ((len+es.length) *te.bytes) gL) λ_=>dK (.ref k 0 (fs++es).length,[(k,.arr (elem,te.agg) te.size fz ((flat (fs++es)).map .t))])
          else jb
        |_=>jb)
       |_=>jb)
     else jb
    |none=>jb)
   |_,_=>jb)
  |_=>jb)
 |none=>jb
theorem aex     (C:ew)(nm:Nm)(H:Heap)(st xt:TypeId)(s x:TV):dL ev (aiM C.P nm H st xt s x) (lV C.P nm H st xt s x):=by
 unfold aiM;split
 ·rename_i ti ht;split
  ·rename_i elem hd;split
   ·rename_i te es hte hx;have hv:=aew hx;split
    ·rename_i z hz;split
     ·rename_i hc;obtain⟨c1,c2,c3,rfl⟩:=hc;have hA:Mf C.P st elem te:=⟨⟨ti,ht,hd⟩,hte,z,hz,c1,c2,c3⟩;refine MP.bind Z1 λb hu=> ?_
      cases b with
      | false=>
        obtain rfl:es=[]:=hu
        have e:lV C.P nm H st st s x=lV C.P nm H st st s (.t (.sl [])):=by
          rcases hv with rfl|rfl<;>rfl
        rw[e]
        exact MP.Vn (dL.opt _)
      |true=>
      obtain⟨hu,hne⟩:=hu;simp only;split
      ·refine MP.bind mQ λ_ hb=>MP.ret ?_
       exact uW hA (ND hv hu) (by simpa using hne) hu.AI (by simp only[if_pos hb])
      ·refine MP.bind mQ λ_ hb=>MP.ret ?_
       refine uW hA (ND hv hu) (by simpa using hne) hu.AI ?_;have e:gK H te.agg te.size (.qp [])=some (0,[]):=rfl;simp only[e,Nat.zero_add,if_pos hb,List.nil_append]
      ·rename_i k len;split
       ·rename_i g cc fz cs hk;split
        ·rename_i hg;obtain⟨rfl,rfl⟩:=hg;refine MP.bind Ih λfs hf=>MP.bind mQ λ_ hb=>MP.ret ?_
         obtain⟨rfl,rfl,hf⟩:=hf;refine uW hA (ND hv hu) (by simpa using hne) hu.AI ?_;have h2:kH H k 0 fs.length=some ((elem,te.agg),te.size,fz,(flat fs).map .t):=by
          unfold kH;simp only[hk];rw[if_pos ⟨by omega,by rw[Nat.zero_add,hf.length]⟩]
         simp only[h2,hb,and_self,if_true,flat,List.flatMap_append,List.map_append,List.length_append]
        ·exact MP.no
       ·exact MP.no
      ·exact MP.no
     ·exact MP.no
    ·exact MP.no
   ·exact MP.no
  ·exact MP.no
 ·exact MP.no
def orM {α:Type}(a b:M α):M α:=λcl=>match a cl with
 |some r=>some r
 |none=>b cl
theorem aad {α:Type}{a b:M α}{Q:α->Prop}(h:MP ev a Q)(k:MP ev b Q):MP ev (orM a b) Q:=λcl v FZ em hm he=>by
 unfold orM at hm;split at hm
 ·rename_i r hr;cases hm;exact h _ _ _ _ hr he
 ·exact k _ _ _ _ hm he
def aae (P:jZ)(H:Heap)(t:TypeId)(k:Nm)(off len:Nat)(i:TV):M TV:=match bw P t,NX i,H.get k with
 | some ti,some n,some (.arr g cc fz cs)=>(match ti.desc with
  |.slice elem=>(match bw P elem with
   |some te=>if te.size=cc/\0<cc then bn (JJ ((off+len) *cc=cs.length)) λ_=>bn (BW (n+1) len) λ_=>dK (.lR k cs.length ((off+n) *cc)) else jb
   |none=>jb)
  |_=>jb)
 |_,_,_=>jb
theorem aey {P:jZ}{H:Heap}{t:TypeId}{k:Nm}{off len:Nat}{i:TV}:MP ev (aae P H t k off len i) λv=>fE P H t (.ref k off len) i=some v:=by
 unfold aae;split
 ·rename_i ti n g cc fz cs ht hn hk;have hi:=xY hn;split
  ·rename_i elem hd;split
   ·rename_i te hte;split
    ·rename_i hc;refine MP.bind sP λ_ hp=>MP.bind mQ λ_ hl=>MP.ret ?_
     have h2:kH H k off len=some (g,cc,fz,cs):=by
      unfold kH;simp only[hk];rw[if_pos ⟨hc.2,hp⟩]
     unfold fE;rw[ht,hi];simp only[hd,hte,h2,hc.1];rw[if_pos ⟨trivial,hl⟩]
    ·exact MP.no
   ·exact MP.no
  ·exact MP.no
 ·exact MP.no
def BX (P:jZ)(H:Heap)(t:TypeId)(x i:TV):M TV:=match x with
 |.ref k off len=>orM (aae P H t k off len i) (xZ P H t (.ref k off len) i)
 |x=>xZ P H t x i
theorem JV (P:jZ)(H:Heap)(t:TypeId)(x i:TV):dL ev (BX P H t x i) (fE P H t x i):=by
 unfold BX;split
 ·exact aad (aey.mono λv hv=>hv) (Bo P H t _ i)
 ·exact Bo P H t _ i
def aaf (P:jZ)(H:Heap)(t:TypeId)(k:Nm)(off len:Nat)(lv:TV):M tv:=match bw P t,H.get k,NX lv with
 | some ti,some (.arr g cc fz cs),some l=>(match ti.desc with
  |.slice elem=>(match bw P elem with
   |some te=>if cc=te.size/\0<cc then bn (JJ ((off+len) *cc=cs.length)) λ_=>bn (BW l len) λ_=>dK (.val (.ref k (off+l) (len - l)) []) else jb
   |none=>jb)
  |_=>jb)
 |_,_,_=>jb
theorem aag {b:Bool}{P:jZ}{H:Heap}{nm:Nm}{t:TypeId}{x lv:TV}{hi mx:Option TV}:Bf b P H nm t x (some lv) hi mx=none:=by
 cases b with
 |false=>rfl
 |true=>
  show BF P H nm t x (some lv) hi mx=none
  unfold BF
  split
  · rename_i h;cases h
  · rfl
def F1 (b:Bool)(P:jZ)(H:Heap)(nm:Nm)(t:TypeId)(x:TV)(lo hi mx:Option TV):Option tv:=match Bf b P H nm t x lo hi mx with
 |some r=>some (.val r.1 r.2)
 |none=>match tq P H t x lo hi mx with
  |some (r,ks)=>some (.val r (eU H ks))
  |none=>none
theorem aez {b:Bool}{P:jZ}{H:Heap}{nm:Nm}{t:TypeId}{k:Nm}{off len:Nat}{lv:TV}:MP ev (aaf P H t k off len lv) λr=>F1 b P H nm t (.ref k off len) (some lv) none none=some r:=by
 unfold aaf;split
 ·rename_i ti g cc fz cs l ht hk hl;have hl':=xY hl;split
  ·rename_i elem hd;split
   ·rename_i te hte;split
    ·rename_i hc;refine MP.bind sP λ_ hp=>MP.bind mQ λ_ h1=>MP.ret ?_
     have h2:kH H k off len=some (g,cc,fz,cs):=by
      unfold kH;simp only[hk];rw[if_pos ⟨hc.2,hp⟩]
     unfold F1;rw[aag];have e0:BE H (.ref k off len)=some len:=rfl;have e1:gj (some lv) 0=some l:=hl';have e2:gj none len=some len:=rfl;simp only[tq,ht,hd,hte,e0,e1,e2,Option.isNone_none,Bool.true_or,h2,hc.1,and_self,if_true];rw[if_pos ⟨h1,Nat.le_refl len⟩];rfl
    ·exact MP.no
   ·exact MP.no
  ·exact MP.no
 ·exact MP.no
def TF (P:jZ)(H:Heap)(nm:Nm)(t:TypeId)(k:Nm)(len:Nat)(hv:TV):M tv:=match bw P t,H.get k,NX hv with
 | some ti,some (.arr g cc false cs),some h=>(match ti.desc with
  |.slice elem=>(match bw P elem with
   |some te=>if te.size=cc/\0<cc then bn (JJ ((0+len) *cc=cs.length)) λ_=>bn (BW h len) λ_=>bn (ZY (cs.take (h*cc))) λcs'=>dK (.val (.ref nm 0 h) [(k,.dead),(nm,.arr g cc false cs')]) else jb
   |none=>jb)
  |_=>jb)
 |_,_,_=>jb
theorem aah {P:jZ}{H:Heap}{nm:Nm}{t:TypeId}{k:Nm}{len:Nat}{hv:TV}:MP ev (TF P H nm t k len hv) λr=>F1 true P H nm t (.ref k 0 len) none (some hv) none=some r:=by
 unfold TF;split
 ·rename_i ti g cc cs h ht hk hh;have Ja:=xY hh;split
  ·rename_i elem hd;split
   ·rename_i te hte;split
    ·rename_i hc;refine MP.bind sP λ_ hp=>MP.bind mQ λ_ h1=>MP.bind NR λcs' hq=>MP.ret ?_
     subst hq;have h2:kH H k 0 len=some (g,cc,false,cs):=by
      unfold kH;simp only[hk];rw[if_pos ⟨hc.2,hp⟩]
     unfold F1;simp only[Bf,if_true,BF,ht,Ja,h2,hd,hte,if_pos (And.intro hc.1 h1)]
    ·exact MP.no
   ·exact MP.no
  ·exact MP.no
 ·exact MP.no
def TG (b:Bool)(P:jZ)(H:Heap)(nm:Nm)(t:TypeId)(x:TV)(lo hi mx:Option TV):M tv:=match x,lo,hi,mx with
 |.ref k off len,some lv,none,none=>orM (aaf P H t k off len lv) (JU b P H nm t (.ref k off len) (some lv) none none)
 |.ref k 0 len,none,some hv,none=>orM (match b with
  |true=>TF P H nm t k len hv
  |false=>jb) (JU b P H nm t (.ref k 0 len) none (some hv) none)
 |x,lo,hi,mx=>JU b P H nm t x lo hi mx
theorem TH (b:Bool)(P:jZ)(H:Heap)(nm:Nm)(t:TypeId)(x:TV)(lo hi mx:Option TV):dL ev (TG b P H nm t x lo hi mx) (F1 b P H nm t x lo hi mx):=by
 unfold TG;split
 ·exact aad aez (F0 b P H nm t _ _ _ _)
 ·refine aad ?_ (F0 b P H nm t _ _ _ _);cases b with
  |true=>exact aah
  |false=>exact MP.no
 ·exact F0 b P H nm t _ _ _ _
def TJ (P:jZ)(H:Heap)(t:TypeId)(k:Nm)(off len:Nat):M tv:=match bw P t,H.get k with
 | some ti,some (.arr g cc false cs)=>(match ti.desc with
  | .slice elem=>(match bw P elem with
   |some te=>(match te.zero with
    |some z=>if(te.size=cc/\0<cc)/\z.cells.length=te.size/\z.cells.all TV.leaf=true then bn (JJ ((off+len) *cc=cs.length)) λ_=>bn (ZY (dH cs (off*cc) (rR len z.cells))) λcs'=>dK (.val (.t (.cG [])) [(k,.arr g cc false cs')]) else jb
    |none=>jb)
   |none=>jb)
  |_=>jb)
 |_,_=>jb
theorem aai {P:jZ}{H:Heap}{t:TypeId}{k:Nm}{off len:Nat}:MP ev (TJ P H t k off len) λr=>(BG P H t (.ref k off len)).map (λp=>tv.val p.1 p.2)=some r:=by
 unfold TJ;split
 ·rename_i ti g cc cs ht hk;split
  ·rename_i elem hd;split
   ·rename_i te hte;split
    ·rename_i z hz;split
     ·rename_i hc;obtain⟨⟨hc1,cm⟩,bN,gu⟩:=hc;refine MP.bind sP λ_ hp=>MP.bind NR λcs' hq=>MP.ret ?_
      subst hq;subst hc1;have h2:kH H k off len=some (g,te.size,false,cs):=by
       unfold kH;simp only[hk];rw[if_pos ⟨cm,hp⟩]
      simp only[BG,ht,hd,hte,hz,h2];rw[if_pos ⟨trivial,bN,gu⟩];rfl
     ·exact MP.no
    ·exact MP.no
   ·exact MP.no
  ·exact MP.no
 ·exact MP.no
def Vq (C:ew)(f:FuncId)(H:Heap)(slots:List TV)(t:Nat)(o:Oper):M tv:=
 match o.op with
 |.call {callee:=.value fo,args,argTypes}=>(match lX C slots {callee:=.value fo,args,argTypes} with
  |some (g,aua)=>Z4 H g aua t (Pr C f o)
  |none=>jb)
 |.call {callee:=.invoke recv name,args,argTypes}=>(match H6 C H slots recv name args with
  |some (g,aua)=>Z4 H g aua t (Pr C f o)
  |none=>jb)
 |.pick c a b=>(match dr C slots c,dr C slots a,dr C slots b with
  |some (.t (.bool x)),some u,some v=>bn (ZW x) λc=>dK (.val (if c then u else v) [])
  |_,_,_=>jb)
 |.indexAddr ty x i=>(match dr C slots x,dr C slots i with
  |some x,some i=>Xu (BX C.P H ty x i)
  |_,_=>jb)
 |.index ty x i=>(match dr C slots x,dr C slots i with
  |some x,some i=>Xu (TE C.P ty x i)
  |_,_=>jb)
 |.load ty a=>(match dr C slots a with
  |some a=>Xu (Z5 C.P H ty a)
  |_=>jb)
 |.store ty a x=>(match dr C slots a,dr C slots x with
  |some a,some x=>bn (TC C.P H ty a x) λu=>dK (.val dc u)
  |_,_=>jb)
 |.fieldAddr s x i=>(match dr C slots x with
  |some a=>Xu (JT C.P H s i a)
  |_=>jb)
 |.slice ty x lo hi mx=>(match dr C slots x,za C slots lo,za C slots hi,za C slots mx with
  |some v,some l,some h,some m=>TG (o.dst.any (C.lW f)) C.P H (.loc [t]) ty v l h m
  |_,_,_,_=>jb)
 |.lookup ty x k ok=>(match dr C slots x,dr C slots k with
  |some x,some k=>Xu (Z8 C.P H ty x k ok)
  |_,_=>jb)
 |.mapUpdate ty x k v=>(match dr C slots x,dr C slots k,dr C slots v with
  |some x,some k,some v=>bn (aiK C.P H ty x k v) λu=>dK (.val dc u)
  |_,_,_=>jb)
 |.mapEntry ty x k=>(match dr C slots x,dr C slots k with
  |some x,some k=>aiI C.P H ty x k
  |_,_=>jb)
 |.entryStore ty x s v=>(match dr C slots x,dr C slots s,dr C slots v with
  |some x,some s,some v=>bn (aiJ H x s v) λu=>dK (.val dc u)
  |_,_,_=>jb)
 | .call {callee:=.builtin .append,args,argTypes}=>(match args.toList,argTypes.toList with
  | [a,b],[ta,tb]=>(match dr C slots a,dr C slots b with
   |some x,some y=>bn (aiM C.P (.loc [t]) H ta tb x y) λp=>dK (.val p.1 p.2)
   |_,_=>jb)
  |_,_=>jb)
 | .call {callee:=.builtin .clear,args,argTypes}=>(match args.toList,argTypes.toList with
  | [a],[ta]=>(match dr C slots a with
   |some (.ref k off len)=>TJ C.P H ta k off len
   |_=>jb)
  |_,_=>jb)
 |.call {callee:=.builtin .max, ..}=>(match bk C pO f H slots t o with
  |some (.val v u)=>bn (Lt v) λv=>dK (.val v u)
  |_=>jb)
 |.call {callee:=.builtin .min, ..}=>(match bk C pO f H slots t o with
  |some (.val v u)=>bn (Lt v) λv=>dK (.val v u)
  |_=>jb)
 | .binOp .add ty x y _=>(match dr C slots x,dr C slots y with
  |some (.t (.str a)),some (.t (.str b))=>bn (Tz (vD C.P .add ty x y (.t (.str a)) (.t (.str b)))) λv=>dK (.val v [])
  |_,_=>(match bk C pO f H slots t o with
   |some (.val v u)=>bn (Lt v) λv=>dK (.val v u)
   |_=>jb))
 |.binOp .sub _ _ _ _=>(match bk C pO f H slots t o with
  |some (.val v u)=>bn (Lt v) λv=>dK (.val v u)
  |_=>jb)
 |.binOp .mul _ _ _ _=>(match bk C pO f H slots t o with
  |some (.val v u)=>bn (Lt v) λv=>dK (.val v u)
  |_=>jb)
 |.binOp .quo _ _ _ _=>(match bk C pO f H slots t o with
  |some (.val v u)=>bn (Lt v) λv=>dK (.val v u)
  |_=>jb)
 |.binOp .shr _ _ _ _=>(match bk C pO f H slots t o with
  |some (.val v u)=>bn (Lt v) λv=>dK (.val v u)
  |_=>jb)
 |.convert _ _ _=>(match bk C pO f H slots t o with
  |some (.val v u)=>bn (Lt v) λv=>dK (.val v u)
  |_=>jb)
 |.binOp .neq ty x y _=>(match dr C slots x,dr C slots y with
  |some (.t (.agg a)),some (.t (.agg b))=>bn (Tz (vD C.P .neq ty x y (.t (.agg a)) (.t (.agg b)))) λv=>dK (.val v [])
  |_,_=>qM (bk C pO f H slots t o))
 |.binOp .eql ty x y _=>(match dr C slots x,dr C slots y with
  |some (.t (.agg a)),some (.t (.agg b))=>bn (Tz (vD C.P .eql ty x y (.t (.agg a)) (.t (.agg b)))) λv=>dK (.val v [])
  |_,_=>qM (bk C pO f H slots t o))
 |_=>qM (bk C pO f H slots t o)
theorem Qw (H:Heap)(slots:List TV)(t:Nat)(o:Oper):dL ev (Vq C f H slots t o) (bk C ev f H slots t o):=by
 unfold Vq;split
 ·rename_i fo args ats ho;unfold bk;rw[ho];simp only;split
  ·rename_i g aua hc;rw[hc];exact Qu _ _ _ _ _
  ·exact dL.no
 ·rename_i fo nm args ats ho;unfold bk;rw[ho];simp only;split
  ·rename_i g aua hc;rw[hc];exact Qu _ _ _ _ _
  ·exact dL.no
 ·rename_i c a b ho;split
  ·rename_i x u v h1 h2 h3;refine dL.of_eq (dL.bind (y:=λc=>some (.val (if c then u else v) [])) (JK x) λc _=>dL.ret _) ?_;unfold bk;rw[ho];simp only[evalOp,ho,h1,h2,h3];rfl
  ·exact dL.no
 ·rename_i ty x i ho;split
  ·rename_i a b h1 h2;refine dL.of_eq (Ik (JV C.P H ty a b)) ?_;unfold bk;rw[ho];simp only[evalOp,ho,h1,h2];rfl
  ·exact dL.no
 ·rename_i ty x i ho;split
  ·rename_i a b h1 h2;refine dL.of_eq (Ik (Xt C.P ty a b)) ?_;unfold bk;rw[ho];simp only[evalOp,ho,h1,h2];rfl
  ·exact dL.no
 ·rename_i ty a ho;split
  ·rename_i x h1;refine dL.of_eq (Ik (Z6 C.P H ty x)) ?_;unfold bk;rw[ho];simp only[evalOp,ho,h1];rfl
  ·exact dL.no
 ·rename_i ty a x ho;split
  ·rename_i u v h1 h2;refine dL.of_eq (dL.bind (y:=λq=>some (.val dc q)) (Xr C.P H ty u v) λq _=>dL.ret _) ?_;unfold bk;rw[ho];simp only[evalOp,ho,h1,h2,Bg];cases storeT C.P H ty u v<;>rfl
  ·exact dL.no
 ·rename_i s x i ho;split
  ·rename_i a h1;refine MP.bind (P:=λv=>∃off,pQ C.P s i=some off/\th H a off=some v) ?_ λv hv=>MP.ret ?_
   ·unfold JT;split
    ·rename_i off h2;exact(MP.Vn (TD H a off)).mono λv hv=>⟨off,h2,hv⟩
    ·exact MP.no
   ·obtain⟨off,h2,h3⟩:=hv;unfold pQ at h2;split at h2<;>try (simp at h2;done)
    rename_i ti LX;split at h2<;>try (simp at h2;done)
    rename_i fs hfs;split at h2<;>try (simp at h2;done)
    rename_i fd hfd;split at h2<;>try (simp at h2;done)
    rename_i tf YN;split at h2<;>try (simp at h2;done)
    rename_i hz;simp at h2;subst h2;unfold bk;rw[ho];simp only[evalOp,ho,h1,LX,hfs,hfd,YN,if_neg hz,h3,CH,Option.map_some]
  ·exact dL.no
 ·rename_i ty x lo hi mx ho;split
  ·rename_i v l h m h1 h2 h3 h4;refine dL.of_eq (TH (o.dst.any (C.lW f)) C.P H (.loc [t]) ty v l h m) ?_;unfold bk F1;rw[ho];simp only[evalOp,ho,h1,h2,h3,h4];cases Bf (o.dst.any (C.lW f)) C.P H (.loc [t]) ty v l h m with
   |some r=>rfl
   | none=>
     simp only
     cases tq C.P H ty v l h m<;>rfl
  ·exact dL.no
 ·rename_i ty x k ok ho;split
  ·rename_i a b h1 h2;refine dL.of_eq (Ik (Z9 C.P H ty a b ok)) ?_;unfold bk;rw[ho];simp only[evalOp,ho,h1,h2];rfl
  ·exact dL.no
 ·rename_i ty x k v ho;split
  ·rename_i a b c h1 h2 h3;refine dL.of_eq (dL.bind (y:=λq=>some (.val dc q)) (aev C.P H ty a b c) λq _=>dL.ret _) ?_;unfold bk;rw[ho];simp only[evalOp,ho,h1,h2,h3,Bg];cases k3 C.P H ty a b c<;>rfl
  ·exact dL.no
 ·rename_i ty x k ho;split
  ·rename_i a b h1 h2;refine dL.of_eq (aet C.P H ty a b) ?_;unfold bk;rw[ho];simp only[evalOp,ho,h1,h2];cases og C.P H ty a b<;>rfl
  ·exact dL.no
 ·rename_i ty x s v ho;split
  ·rename_i a b c h1 h2 h3;refine dL.of_eq (dL.bind (y:=λq=>some (.val dc q)) (aeu H a b c) λq _=>dL.ret _) ?_;unfold bk;rw[ho];simp only[evalOp,ho,h1,h2,h3,Bg];cases kS H a b c<;>rfl
  ·exact dL.no
 ·rename_i args ats ho;split
  ·rename_i a b ta tb ha hta;split
   ·rename_i x y hx hy;refine dL.of_eq (dL.bind (y:=λp=>some (.val p.1 p.2)) (aex C (.loc [t]) H ta tb x y) λp _=>dL.ret _) ?_;unfold bk;rw[ho];have h1:kT C slots args.toList=some [x,y]:=by rw[ha];simp only[kT,hx,hy]
    have h2:nr C (.loc [t]) H .append [ta,tb] [x,y]=lV C.P (.loc [t]) H ta tb x y:=by delta nr;rfl
    simp only[evalOp,ho,h1,hta,h2];cases lV C.P (.loc [t]) H ta tb x y<;>rfl
   ·exact dL.no
  ·exact dL.no
 ·rename_i args ats ho;split
  ·rename_i a ta ha hta;split
   ·rename_i k off len hx;refine dL.of_eq aai ?_;unfold bk;rw[ho];have h1:kT C slots args.toList=some [.ref k off len]:=by rw[ha];simp only[kT,hx]
    have h2:nr C (.loc [t]) H .clear [ta] [.ref k off len]=BG C.P H ta (.ref k off len):=by delta nr;rfl
    simp only[evalOp,ho,h1,hta,h2];cases BG C.P H ta (.ref k off len)<;>rfl
   ·exact dL.no
  ·exact dL.no
 ·rename_i aua ats ho;have e:bk C pO f H slots t o=bk C ev f H slots t o:=by
   unfold bk;rw[ho]
  split
  ·rename_i v u h;refine dL.of_eq (dL.bind (y:=λv=>some (.val v u)) (rG v) λc _=>dL.ret _) ?_;rw[← e,h];rfl
  ·exact dL.no
 ·rename_i aua ats ho;have e:bk C pO f H slots t o=bk C ev f H slots t o:=by
   unfold bk;rw[ho]
  split
  ·rename_i v u h;refine dL.of_eq (dL.bind (y:=λv=>some (.val v u)) (rG v) λc _=>dL.ret _) ?_;rw[← e,h];rfl
  ·exact dL.no
 ·rename_i ty x y r2 ho;have e:bk C pO f H slots t o=bk C ev f H slots t o:=by
   unfold bk;rw[ho]
  split
  ·rename_i a b h1 h2;refine dL.of_eq (dL.bind (y:=λv=>some (.val v [])) Di λv _=>dL.ret _) ?_;unfold bk;rw[ho];simp only[evalOp,ho,h1,h2,CH];cases vD C.P .add ty x y (.t (.str a)) (.t (.str b))<;>rfl
  ·split
   ·rename_i v u h;refine dL.of_eq (dL.bind (y:=λv=>some (.val v u)) (rG v) λc _=>dL.ret _) ?_;rw[← e,h];rfl
   ·exact dL.no
 ·rename_i ty x y r2 ho;have e:bk C pO f H slots t o=bk C ev f H slots t o:=by
   unfold bk;rw[ho]
  split
  ·rename_i v u h;refine dL.of_eq (dL.bind (y:=λv=>some (.val v u)) (rG v) λc _=>dL.ret _) ?_;rw[← e,h];rfl
  ·exact dL.no
 ·rename_i ty x y r2 ho;have e:bk C pO f H slots t o=bk C ev f H slots t o:=by
   unfold bk;rw[ho]
  split
  ·rename_i v u h;refine dL.of_eq (dL.bind (y:=λv=>some (.val v u)) (rG v) λc _=>dL.ret _) ?_;rw[← e,h];rfl
  ·exact dL.no
 ·rename_i ty x y r2 ho;have e:bk C pO f H slots t o=bk C ev f H slots t o:=by
   unfold bk;rw[ho]
  split
  ·rename_i v u h;refine dL.of_eq (dL.bind (y:=λv=>some (.val v u)) (rG v) λc _=>dL.ret _) ?_;rw[← e,h];rfl
  ·exact dL.no
 ·rename_i ty x y r2 ho;have e:bk C pO f H slots t o=bk C ev f H slots t o:=by
   unfold bk;rw[ho]
  split
  ·rename_i v u h;refine dL.of_eq (dL.bind (y:=λv=>some (.val v u)) (rG v) λc _=>dL.ret _) ?_;rw[← e,h];rfl
  ·exact dL.no
 ·rename_i ty x y ho;have e:bk C pO f H slots t o=bk C ev f H slots t o:=by
   unfold bk;rw[ho]
  split
  ·rename_i v u h;refine dL.of_eq (dL.bind (y:=λv=>some (.val v u)) (rG v) λc _=>dL.ret _) ?_;rw[← e,h];rfl
  ·exact dL.no
 ·rename_i ty x y r2 ho;split
  ·rename_i a b h1 h2;refine dL.of_eq (dL.bind (y:=λv=>some (.val v [])) Di λv _=>dL.ret _) ?_;unfold bk;rw[ho];simp only[evalOp,ho,h1,h2,CH];cases vD C.P .neq ty x y (.t (.agg a)) (.t (.agg b))<;>rfl
  ·have e:bk C pO f H slots t o=bk C ev f H slots t o:=by
    unfold bk;rw[ho]
   rw[← e];exact dL.opt _
 ·rename_i ty x y r2 ho;split
  ·rename_i a b h1 h2;refine dL.of_eq (dL.bind (y:=λv=>some (.val v [])) Di λv _=>dL.ret _) ?_;unfold bk;rw[ho];simp only[evalOp,ho,h1,h2,CH];cases vD C.P .eql ty x y (.t (.agg a)) (.t (.agg b))<;>rfl
  ·have e:bk C pO f H slots t o=bk C ev f H slots t o:=by
    unfold bk;rw[ho]
   rw[← e];exact dL.opt _
 ·rename_i h1 h2 h3 h4 h5 h6 h7 h8 h9 h10 h11 h12 h13 SB Qx h16 h17 h18 h19 h20 h21 h22 h23 h24 h25;have e:bk C pO f H slots t o=bk C ev f H slots t o:=by
   unfold bk;split
   ·rfl
   ·rename_i fo args ats ho;exact absurd ho (h1 fo args ats)
   ·rename_i r nm args ats ho;exact absurd ho (h2 r nm args ats)
   ·rfl
  rw[← e];exact dL.opt _
def aeA (C:ew)(f:FuncId)(ops:Array Oper):List Oper->St->M (aR×St)
 | [],st=>dK (.normal,st)
 | o::r,st=>bn (Ii ops st.slots o) λw=>match w with
  |false=>aeA C f ops r {st with slots:=eu st.slots o.dst dc,tick:=st.tick+1}
  |true=>bn (Vq C f st.H st.slots st.tick o) λres=>match res with
   |.val v u=>aeA C f ops r {slots:=eu st.slots o.dst v,H:=st.H.fk u,tick:=st.tick+1}
   |.panic v u l=>dK (.panic v,{st with H:=(st.H.yU l).fk u,tick:=st.tick+1})
theorem NZ (ops:Array Oper):∀(l:List Oper) (st:St),dL ev (aeA C f ops l st) (HD C ev f ops l st)
 | [],st=>dL.ret _
 | o ::r,st=>by
   refine dL.of_eq (dL.bind (y:=λw=>match w with
     |false=>HD C ev f ops r {st with slots:=eu st.slots o.dst dc,tick:=st.tick+1}
     | true=>(bk C ev f st.H st.slots st.tick o).bind λres=>match res with
       |.val v u=>HD C ev f ops r {slots:=eu st.slots o.dst v,H:=st.H.fk u,tick:=st.tick+1}
       |.panic v u l=>some (.panic v,{st with H:=(st.H.yU l).fk u,tick:=st.tick+1})) (JL ops st.slots o) λw _=> ?_) ?_
   · cases w with
     |false=>exact NZ ops r _
     | true=>
       refine dL.bind (Qw st.H st.slots st.tick o) λres _=> ?_
       cases res with
       |val v u=>exact NZ ops r _
       |panic v u l=>exact dL.ret _
   · rw[ HD]
     cases eX ops st.slots o with
     |none=>rfl
     | some w=>
       cases w with
       |false=>rfl
       | true=>
         show(bk C ev f st.H st.slots st.tick o).bind _=_
         cases bk C ev f st.H st.slots st.tick o with
         |none=>rfl
         |some res=>cases res<;>rfl
def aaj (bs:List Nat)(i:Nat):Option Nat->Bool
 |some j=>iD bs j i
 |none=>false
def Qy (C:ew)(ev:bp)(f:FuncId)(ops:Array Oper)(t0 i:Nat)(o:Oper)(s:xE)(uD:Option Nat):Option Rec:=
 (eX ops s.slots o).bind λw=>match w with
  |false=>some ⟨[],.unwanted⟩
  | true=>(SK C s.H s.slots o).bind λfp=>(bk C ev f (pg s.H fp) s.slots (t0+i) o).bind λres=>match res with
   |.val v u=>some ⟨fp,.val v u⟩
   |.panic v u l=>match uD with
    |some _=>none
    |none=>some ⟨fp,.panic v u l⟩
theorem aiN (ops:Array Oper)(bs:List Nat)(t0 i:Nat)(o:Oper)(s:xE)(uD:Option Nat):YA C ev f ops bs t0 i o s uD=bif aaj bs i uD then some ⟨[],.Aw⟩ else Qy C ev f ops t0 i o s uD:=by
 unfold YA Qy;simp only[xT,JD];have e:(match eX ops s.slots o with
  |none=>none
  |some false=>some ⟨[],.unwanted⟩
  | some true=>
   match SK C s.H s.slots o with
   |none=>none
   | some fp=>
    match bk C ev f (pg s.H fp) s.slots (t0+i) o with
    |none=>none
    |some (.val v u)=>some ⟨fp,.val v u⟩
    |some (.panic v u l)=>match uD with
     |some _=>none
     |none=>some ⟨fp,.panic v u l⟩:Option Rec)=Qy C ev f ops t0 i o s uD:=by
  unfold Qy
  cases eX ops s.slots o with
  |none=>rfl
  | some w=>
   cases w with
   |false=>rfl
   | true=>
    simp only[Option.bind_some]
    cases SK C s.H s.slots o with
    |none=>rfl
    |some fp=>
     simp only[Option.bind_some]
     cases bk C ev f (pg s.H fp) s.slots (t0+i) o with
     |none=>rfl
     |some res=>cases res<;>rfl
 unfold Qy at e;cases uD with
 |none=>exact e
 |some j=>
  show(match iD bs j i with|true=>_|false=>_)=bif iD bs j i then _ else _
  cases iD bs j i with
  |true=>rfl
  |false=>exact e
def fpO (C:ew)(H:Heap)(slots:List TV)(o:Oper):M (List Nm):=match o.op with
 |.call {callee:=.value fo,args,argTypes}=>(match lX C slots {callee:=.value fo,args,argTypes} with
  |some (_,aua)=>zG H iK [] (TV.k4 aua)
  |none=>jb)
 |.call {callee:=.invoke recv name,args,argTypes}=>(match dr C slots recv,kT C slots args.toList with
  |some v,some aua=>zG H iK [] (v.names++TV.k4 aua)
  |_,_=>jb)
 |_=>qM (SK C H slots o)
theorem al8 {H:Heap}{slots:List TV}{o:Oper}:MP ev (fpO C H slots o) λfp=>SK C H slots o=some fp:=by
 unfold fpO;split
 ·rename_i fo args ats ho;split
  ·rename_i g aua hc;refine(wN _ _ _).mono λS hS=> ?_
   unfold SK;rw[ho];simp only[hc];exact hS.1
  ·exact MP.no
 ·rename_i recv name args ats ho;split
  ·rename_i v aua h1 h2;refine(wN _ _ _).mono λS hS=> ?_
   unfold SK;rw[ho];simp only[h1,h2];exact hS.1
  ·exact MP.no
 ·exact MP.Vn (dL.opt _)
def aiO (C:ew)(f:FuncId)(ops:Array Oper)(bs:List Nat)(t0 i:Nat)(o:Oper)(s:xE)(uD:Option Nat):M Rec:=
 match aaj bs i uD with
 |true=>dK ⟨[],.Aw⟩
 |false=>bn (Ii ops s.slots o) λw=>match w with
  |false=>dK ⟨[],.unwanted⟩
  | true=>bn (fpO C s.H s.slots o) λfp=>bn (Vq C f (pg s.H fp) s.slots (t0+i) o) λres=>match res with
    |.val v u=>dK ⟨fp,.val v u⟩
    |.panic v u l=>match uD with
     |some _=>jb
     |none=>dK ⟨fp,.panic v u l⟩
theorem aeB (ops:Array Oper)(bs:List Nat)(t0 i:Nat)(o:Oper)(s:xE)(uD:Option Nat):dL ev (aiO C f ops bs t0 i o s uD) (YA C ev f ops bs t0 i o s uD):=by
 rw[aiN];unfold aiO;cases aaj bs i uD with
 |true=>exact dL.ret _
 | false=>
  refine dL.bind (JL ops s.slots o) λw _=> ?_
  cases w with
  |false=>exact dL.ret _
  | true=>
   simp only
   refine dL.bind al8 λfp _=> ?_
   refine dL.bind (Qw _ _ _ _) λres _=> ?_
   cases res with
   |val v u=>exact dL.ret _
   |panic v u l=>
    cases uD with
    |none=>exact dL.ret _
    |some _=>exact dL.no
def aak (C:ew)(f:FuncId)(ops:Array Oper)(bs:List Nat)(t0:Nat):Nat->List Oper->xE->Option Nat->M (List Rec)
 |_,[],_,_=>dK []
 |i,o::r,s,uD=>bn (aiO C f ops bs t0 i o s uD) λrec=>bn (aak C f ops bs t0 (i+1) r (s.after o rec.res) (mg i uD rec.res)) λrs=>dK (rec::rs)
theorem Qz (ops:Array Oper)(bs:List Nat)(t0:Nat):∀(l:List Oper) (i:Nat) (s:xE) (uD:Option Nat),dL ev (aak C f ops bs t0 i l s uD) (HF C ev f ops bs t0 i l s uD)
 | [],i,s,uD=>dL.ret _
 | o::r,i,s,uD=>by
  refine dL.of_eq (dL.bind (aeB ops bs t0 i o s uD) λrec _=>dL.bind (y:=λrs=>some (rec::rs)) (Qz ops bs t0 r (i+1) (s.after o rec.res) (mg i uD rec.res)) λrs _=>dL.ret _) ?_
  rw[HF]
  cases YA C ev f ops bs t0 i o s uD with
  |none=>rfl
  |some rec=>
   simp only[Option.bind_some]
   cases HF C ev f ops bs t0 (i+1) r (s.after o rec.res) (mg i uD rec.res)<;>rfl
noncomputable def TK (C:ew)(ops:Array Oper)(st:St)(recs:List Rec)(i:Nat)(x:Oper)(rx ry:Rec):Option Prop:=match x.op with
 | .lookup t m k ok=>(match rx.fp,rx.res,ry.res with
  | [nm],.val v [],.val _ [(nm',.map es _)]=>if nm=nm' then(match dr C (kU (x.looksAt ops) 0 (jr ops.toList recs (s0 st) (λ_=>true) i).slots) m,dr C (kU (x.looksAt ops) 0 (jr ops.toList recs (s0 st) (λ_=>true) i).slots) k with
   |some (.map n2),some kv=>if n2=nm then some (Bp C.P t es kv ok=some v) else none
   |_,_=>none) else none
  |_,_,_=>none)
 |_=>none
theorem Xv {st:St}{ops:Array Oper}{recs:List Rec}{i:Nat}{x:Oper}{rx ry:Rec}{p:Prop}(h:TK C ops st recs i x rx ry=some p)(hp:p):Y8 C ev f ops st recs i x rx ry:=by
 unfold TK at h;split at h
 ·rename_i t m k ok hx;split at h
  ·rename_i nm v w nm' es c h1 h2 h3;split at h
   ·rename_i hn;subst hn;split at h
    ·rename_i n2 kv h4 h5;split at h
     ·rename_i hn2;subst hn2;cases h;refine⟨_,_,_,_,h1,h2,h3, ?_⟩;have hg:Heap.get [(n2,aP.map es c)] n2=some (.map es c):=if_pos rfl;unfold bk;rw[hx];simp only[evalOp,hx,h4,h5,Z7 hg,hp,CH,Option.map_some]
     ·cases h
    ·cases h
   ·cases h
  ·cases h
 ·cases h
noncomputable def aal (C:ew)(ops:Array Oper)(st:St)(recs:List Rec)(bs:List Nat)(i j:Nat):M Unit:=match ops.toList[i]?,ops.toList[j]?,recs[i]?,recs[j]? with
 | some x,some y,some rx,some ry=>(match iD bs i j||vE ops x y rx ry with
  |true=>dK ()
  |false=>(match mh ops x y,TK C ops st recs i x rx ry with
   |true,some p=>JJ p
   |_,_=>jb))
 |_,_,_,_=>dK ()
noncomputable def aam (C:ew)(ops:Array Oper)(st:St)(recs:List Rec)(bs:List Nat):Nat->Nat->M Unit
 |0,_=>dK ()
 |i+1,j=>bn (aal C ops st recs bs i j) λ_=>aam C ops st recs bs i j
noncomputable def aan (C:ew)(ops:Array Oper)(st:St)(recs:List Rec)(bs:List Nat):Nat->M Unit
 |0=>dK ()
 |j+1=>bn (aam C ops st recs bs j j) λ_=>aan C ops st recs bs j
def TL (C:ew)(ev:bp)(f:FuncId)(ops:Array Oper)(st:St)(recs:List Rec)(i j:Nat):Prop:=∀(x y:Oper) (rx ry:Rec),ops.toList[i]?=some x->ops.toList[j]?=some y->recs[i]?=some rx->recs[j]?=some ry->
 iD (nO ops.toList []) i j=true\/vE ops x y rx ry=true\/(mh ops x y=true/\Y8 C ev f ops st recs i x rx ry)
theorem aao {ops:Array Oper}{st:St}{recs:List Rec}{i j:Nat}:MP ev (aal C ops st recs (nO ops.toList []) i j) λ_=>TL C ev f ops st recs i j:=by
 unfold aal;split
 ·rename_i x y rx ry h1 h2 h3 h4;split
  ·rename_i hb;refine MP.ret λx' y' rx' ry' e1 e2 e3 e4=> ?_
   rw[h1] at e1;rw[h2] at e2;rw[h3] at e3;rw[h4] at e4;cases e1;cases e2;cases e3;cases e4;exact(Bool.or_eq_true _ _▸hb).imp (λh=>h) .inl
  ·split
   ·rename_i p hs hp;refine sP.mono λ_ hpp x' y' rx' ry' e1 e2 e3 e4=> ?_
    rw[h1] at e1;rw[h2] at e2;rw[h3] at e3;rw[h4] at e4;cases e1;cases e2;cases e3;cases e4;exact .inr (.inr ⟨hs,Xv hp hpp⟩)
   ·exact MP.no
 ·rename_i hn;exact MP.ret λx y rx ry e1 e2 e3 e4=>absurd e4 (hn x y rx ry e1 e2 e3)
theorem QA {ops:Array Oper}{st:St}{recs:List Rec}{j:Nat}:∀(n:Nat),MP ev (aam C ops st recs (nO ops.toList []) n j) λ_=>∀i,i<n->TL C ev f ops st recs i j
 |0=>MP.ret λi hi=>by omega
 | n +1=>MP.bind aao λ_ h1=>(QA n).mono λ_ h2 i hi=>by
   rcases Nat.lt_or_ge i n with h|h
   · exact h2 i h
   · have:i=n:=by omega
     subst this;exact h1
theorem QB {ops:Array Oper}{st:St}{recs:List Rec}:∀(n:Nat),MP ev (aan C ops st recs (nO ops.toList []) n) λ_=>∀j,j<n->∀i,i<j->TL C ev f ops st recs i j
 |0=>MP.ret λj hj=>by omega
 | n +1=>MP.bind (QA n) λ_ h1=>(QB n).mono λ_ h2 j hj=>by
   rcases Nat.lt_or_ge j n with h|h
   · exact h2 j h
   · have:j=n:=by omega
     subst this;exact h1
noncomputable def QC (C:ew)(f:FuncId)(ops:Array Oper)(st:St):M (aR×St):=
 bn (aak C f ops (nO ops.toList []) st.tick 0 ops.toList {slots:=st.slots,H:=st.H} none) λrecs=>match xF 0 ops.toList with
  |true=>(match oh ops ops.toList recs (nO ops.toList []) ops.toList recs 0 with
   |true=>dK (W9 ops st recs)
   |false=>bn (aan C ops st recs (nO ops.toList []) ops.size) λ_=>dK (W9 ops st recs))
  |false=>jb
theorem TM (hm:C.P.prog.follows .mixedOrders=true)(aI:aC C ev){ops:Array Oper}{st:St}{id:Nat}:MP ev (QC C f ops st) λp=>∀Q,Q p.1 p.2->AW C (.region id ops true) st Q:=
 MP.bind (MP.Vn (Qz _ _ _ _ _ _ _)) λrecs L7=>by
  split
  ·rename_i hb;split
   ·rename_i hf;exact MP.ret λQ hq G0 w0 G w a h0 hs hst=>BP hm aI L7 (λi j x y rx ry hij hx hy C6 hry=>(U8 hf hij hx hy C6 hry).imp (λh=>h) .inl) hb rfl hst λex a' w' hg=>⟨_,_,hq,Good.comp hs rfl hg⟩
   ·refine MP.bind (QB ops.size) λ_ hf=>MP.ret λQ hq G0 w0 G w a h0 hs hst=>BP hm aI L7 (λi j x y rx ry hij hx hy C6 hry=>hf j (by
     have:=(List.getElem?_eq_some_iff.1 hy).1;simpa using this) i hij x y rx ry hx hy C6 hry) hb rfl hst λex a' w' hg=>⟨_,_,hq,Good.comp hs rfl hg⟩
  ·exact MP.no
def Vr (C:ew)(f:FuncId):Code->St->M (aR×St)
 |.skip,st=>dK (.normal,st)
 |.label _,st=>dK (.normal,st)
 |.region _ ops draw,st=>match draw with
  |true=>QC C f ops st
  |false=>aeA C f ops ops.toList st
 |.exit id,st=>dK (.exit id,st)
 |.ret,st=>dK (.ret,st)
 |_,_=>jb
theorem aeC (hm:C.P.prog.follows .mixedOrders=true)(aI:aC C ev):∀(c:Code) (st:St),MP ev (Vr C f c st) λp=>∀Q,Q p.1 p.2->AW C c st Q:=by
 have ev':∀{c:Code} {st:St} {m:M (aR×St)},dL ev m (evalCode C ev f 0 c st)->MP ev m λp=>∀Q,Q p.1 p.2->AW C c st Q:=λh=>(MP.Vn h).mono λp hp Q hq=>AW.eval hm aI hp hq
 intro c st;cases c with
 |skip=>exact ev' (dL.ret _)
 |label l=>exact ev' (dL.ret _)
 |region id ops draw=>
  cases draw with
  |true=>exact TM hm aI
  |false=>exact ev' (NZ ops ops.toList st)
 |exit id=>exact ev' (dL.ret _)
 |ret=>exact ev' (dL.ret _)
 |_=>exact MP.no
theorem zH {P:Program}{c:Code}{R R':Exit->Act->World->Prop}(h:∀ex a w,R ex a w->R' ex a w):∀(n:Nat) {a:Act} {w:World},Code.rounds P c R n a w->Code.rounds P c R' n a w
 |0,_,_,h0=>h0
 |n+1,a,w,h1=>by
  rw[rounds_succ] at h1 ⊢
  refine wp_mono h1 λex a' w' hx=> ?_
  cases ex<;>first|exact zH h n hx|exact h _ _ _ hx
def Pf (C:ew)(b:Code)(n:Nat)(st:St)(Q:aR->St->Prop):Prop:=∀(G0:Gh) (w0:World) (G:Gh) (w:World) (a a1:Act),(∀p,¬G0.dom (.loc p))->dW G0 w0 G w->a1.defers=a.defers->y5 C G w st a1->
 Code.rounds C.P b (λex a' w'=>∃e st',Q e st'/\Good C G0 w0 a e st' ex a' w') n a1 w
theorem Pf.mono {b:Code}{n:Nat}{st:St}{Q Q':aR->St->Prop}(h:Pf C b n st Q)(k:∀e s,Q e s->Q' e s):Pf C b n st Q':=λG0 w0 G w a a1 h0 hs hd hst=>zH (λ_ _ _ ⟨e,s,hq,hg⟩=>⟨e,s,k e s hq,hg⟩) n (h G0 w0 G w a a1 h0 hs hd hst)
theorem Pf.loop {b:Code}{n:Nat}{st:St}{Q:aR->St->Prop}(h:Pf C b n st Q):AW C (.loop b) st Q:=λG0 w0 G w a h0 hs hst=>wp_loop_rounds n (h G0 w0 G w a a h0 hs rfl hst)
def al9 (C:ew)(b:Code)(n:Nat)(Q:aR->St->Prop):aR->St->Prop
 |.normal,s=>Pf C b n s Q
 |e,s=>Q e s
theorem Pf.succ {b:Code}{n:Nat}{st:St}{Q:aR->St->Prop}(h:AW C b st (al9 C b n Q)):Pf C b (n+1) st Q:=by
 intro G0 w0 G w a a1 h0 hs hd hst;rw[rounds_succ];refine wp_mono (h G0 w0 G w a1 h0 hs hst) λex a2 w2 ⟨e,st1,hq,hg⟩=> ?_
 cases e with
 |normal=>
  obtain⟨rfl,hd2,G1,hs1,jk⟩:=hg.nS
  exact hq G0 w0 G1 w2 a a2 h0 hs1 (hd2.trans hd) jk
 |exit id=>exact gP (hg.gO (by simp)) ⟨_,_,hq,Good.Jr hd hg⟩
 |ret=>exact gP (hg.gO (by simp)) ⟨_,_,hq,Good.Jr hd hg⟩
 |panic v=>exact gP (hg.gO (by simp)) ⟨_,_,hq,Good.Jr hd hg⟩
inductive Fr where
 |c (x:Code)
 |b (id:Nat)
 |x (b:Code) (n:Nat)
def KE (C:ew)(Q:aR->St->Prop):List Fr->aR->St->Prop
 | [],e,s=>Q e s
 |.c x::K,.normal,s=>AW C x s (KE C Q K)
 |.c _::K,.exit i,s=>KE C Q K (.exit i) s
 |.c _::K,.ret,s=>KE C Q K .ret s
 |.c _::K,.panic v,s=>KE C Q K (.panic v) s
 |.b id::K,.exit i,s=>if i=id then KE C Q K .normal s else KE C Q K (.exit i) s
 |.b _::K,.normal,s=>KE C Q K .normal s
 |.b _::K,.ret,s=>KE C Q K .ret s
 |.b _::K,.panic v,s=>KE C Q K (.panic v) s
 |.x b n::K,.normal,s=>Pf C b n s (KE C Q K)
 |.x _ _::K,.exit i,s=>KE C Q K (.exit i) s
 |.x _ _::K,.ret,s=>KE C Q K .ret s
 |.x _ _::K,.panic v,s=>KE C Q K (.panic v) s
theorem KE.seq {Q:aR->St->Prop}{a b:Code}{K:List Fr}{s:St}(h:KE C Q (.c a:: .c b::K) .normal s):KE C Q (.c (.seq a b)::K) .normal s:=by
 refine AW.seq (AW.mono h λe s' h=> ?_);cases e with
 |normal=>exact h
 |_=>exact h
theorem KE.block {Q:aR->St->Prop}{id:Nat}{x:Code}{K:List Fr}{s:St}(h:KE C Q (.c x:: .b id::K) .normal s):KE C Q (.c (.block id x)::K) .normal s:=by
 refine AW.block (AW.mono h λe s' h=> ?_);cases e with
 |exit i=>exact h
 |_=>exact h
theorem KE.cond {Q:aR->St->Prop}{c:Operand}{a b:Code}{K:List Fr}{s:St}{q:Bool}(hc:dr C s.slots c=some (.t (.bool q)))(h:KE C Q (.c (cond q a b)::K) .normal s):KE C Q (.c (.cond c a b)::K) .normal s:=by
 cases q with
 |true=>exact AW.cond hc (λ_=>h) λe=>by cases e
 |false=>exact AW.cond hc (λe=>by cases e) λ_=>h
theorem KE.round {Q:aR->St->Prop}{b:Code}{n:Nat}{K:List Fr}{s:St}(h:KE C Q (.c b:: .x b n::K) .normal s):Pf C b (n+1) s (KE C Q K):=Pf.succ (AW.mono h λe s' h=>by cases e<;>exact h)
theorem KE.rounds {Q:aR->St->Prop}{b:Code}{n:Nat}{K:List Fr}{s:St}(h:KE C Q (.x b n::K) .normal s):KE C Q (.c (.loop b)::K) .normal s:=Pf.loop h
def x4:Code->Option Nat
 |.seq a b=>(x4 a).or (x4 b)
 |.cond _ a b=>(x4 a).or (x4 b)
 |.block _ c=>x4 c
 |.loop c=>x4 c
 |.region id _ _=>some id
 |_=>none
def isIn (l:List Nat):Option Nat->Bool
 |some r=>l.any (Nat.beq r)
 |none=>false
def goK (C:ew)(f:FuncId)(once:List Nat)(stop:Nat):Nat->List Fr->aR->St->M (List Fr×aR×St)
 |0,_,_,_=>jb
 |_+1,[],e,s=>dK ([],e,s)
 | n+1,.x b i::K,e,s=>match e with
  |.normal=>(match i with
   |0=>jb
   |i+1=>goK C f once stop n (.c b:: .x b i::K) .normal s)
  |e=>goK C f once stop n K e s
 | n+1,.b id::K,e,s=>match e with
  |.exit i=>(match Nat.beq i id with
   |true=>goK C f once stop n K .normal s
   |false=>goK C f once stop n K (.exit i) s)
  |e=>goK C f once stop n K e s
 | n+1,.c x::K,e,s=>match e with
  | .normal=>(match x with
   |.seq a b=>goK C f once stop n (.c a:: .c b::K) .normal s
   |.block id x=>goK C f once stop n (.c x:: .b id::K) .normal s
   |.loop x=>(match isIn once (x4 x) with
    |true=>goK C f once stop n (.x x 40::K) .normal s
    |false=>dK (.c (.loop x)::K,.normal,s))
   |.cond c a b=>(match dr C s.slots c with
    |some (.t (.bool q))=>bn (ZW q) λq=>goK C f once stop n (.c (cond q a b)::K) .normal s
    |_=>jb)
   |.region id ops d=>(match Nat.beq id stop with
    |true=>dK (.c (.region id ops d)::K,.normal,s)
    |false=>bn (Vr C f (.region id ops d) s) λp=>goK C f once stop n K p.1 p.2)
   |x=>bn (Vr C f x s) λp=>goK C f once stop n K p.1 p.2)
  |e=>goK C f once stop n K e s
theorem r5 (hm:C.P.prog.follows .mixedOrders=true)(aI:aC C ev){once:List Nat}{stop:Nat}:∀(n:Nat) (K:List Fr) (e:aR) (s:St),MP ev (goK C f once stop n K e s) λp=>∀Q,KE C Q p.1 p.2.1 p.2.2->KE C Q K e s:=by
 intro n;induction n with
 |zero=>intro K e s;exact MP.no
 | succ n ih =>
   intro K e s
   have code:∀(x:Code) (K:List Fr),MP ev (bn (Vr C f x s) λp=>goK C f once stop n K p.1 p.2) λp=>∀Q,KE C Q p.1 p.2.1 p.2.2->KE C Q (.c x::K) .normal s:=λx K=>
     MP.bind (aeC hm aI x s) λp hx=>(ih K p.1 p.2).mono λq hq Q hk=>hx _ (hq Q hk)
   cases K with
   |nil=>exact MP.ret λQ h=>h
   | cons fr K=>
     cases fr with
     | x b i=>
       cases e with
       | normal=>
         cases i with
         |zero=>exact MP.no
         |succ i=>exact(ih (.c b:: .x b i::K) .normal s).mono λq hq Q hk=>KE.round (hq Q hk)
       |exit i=>exact ih K (.exit i) s
       |ret=>exact ih K .ret s
       |panic v=>exact ih K (.panic v) s
     | b id=>
       cases e with
       | exit i=>
         cases hb:Nat.beq i id with
         | true=>
           simp only[goK,hb]
           refine(ih K .normal s).mono λq hq Q hk=> ?_
           show if i=id then _ else _
           rw[if_pos (Nat.eq_of_beq_eq_true hb)]
           exact hq Q hk
         | false=>
           simp only[goK,hb]
           refine(ih K (.exit i) s).mono λq hq Q hk=> ?_
           show if i=id then _ else _
           rw[if_neg (Nat.ne_of_beq_eq_false hb)]
           exact hq Q hk
       |normal=>exact ih K .normal s
       |ret=>exact ih K .ret s
       |panic v=>exact ih K (.panic v) s
     | c x =>
       cases e with
       |exit i=>exact ih K (.exit i) s
       |ret=>exact ih K .ret s
       |panic v=>exact ih K (.panic v) s
       | normal=>
         cases x with
         |seq a b=>exact(ih (.c a:: .c b::K) .normal s).mono λq hq Q hk=>KE.seq (hq Q hk)
         |block id x=>exact(ih (.c x:: .b id::K) .normal s).mono λq hq Q hk=>KE.block (hq Q hk)
         | loop x=>
           simp only[goK]
           split
           · exact(ih (.x x 40::K) .normal s).mono λq hq Q hk=>KE.rounds (hq Q hk)
           · exact MP.ret λQ h=>h
         | cond c a b=>
           simp only[goK]
           split
           · rename_i q hc
             refine MP.bind (MP.Vn (JK q)) λq' hq'=>(ih (.c (cond q' a b)::K) .normal s).mono λr hr Q hk=> ?_
             cases hq'
             exact KE.cond hc (hr Q hk)
           · exact MP.no
         | region id ops d=>
           simp only[goK]
           split
           · exact MP.ret λQ h=>h
           · exact code _ _
         |skip=>exact code .skip K
         |rangeFunc a b c d=>exact code (.rangeFunc a b c d) K
         |exit i=>exact code (.exit i) K
         |scope b=>exact code (.scope b) K
         |label l=>exact code (.label l) K
         |goto l=>exact code (.goto l) K
         |ret=>exact code .ret K
         |refuse w=>exact code (.refuse w) K
end ops
abbrev Ob (ev:bp):={c:Cl // c.holds ev}
def rq {α:Type}:Nat->α->List α->List α
 |0,_,l=>l
 |n+1,a,l=>a::rq n a l
abbrev vals {ev:bp}(l:List (Ob ev)):List Cl:=l.map (·.1)
section obs
variable {ev:bp}
abbrev oT:Ob ev:=⟨.b true true,rfl⟩
abbrev oF:Ob ev:=⟨.b false false,rfl⟩
abbrev oB {x c:Bool}(h:x=c):Ob ev:=⟨.b x c,h⟩
abbrev oC {g:FuncId}{aua:List TV}{os:List aP}{x:br}(h:ev g aua os=some x):Ob ev:=⟨.r g aua os x,h⟩
abbrev oE {l:List Tree}{i:Nat}{x:Tree}(h:l[i]?=some x):Ob ev:=⟨.e l i x,h⟩
abbrev oY {l:List UInt8}{i:Nat}{x:UInt8}(h:l[i]?=some x):Ob ev:=⟨.y l i x,h⟩
abbrev oV {x y:TV}(h:x=y):Ob ev:=⟨.v x y,h⟩
abbrev oN {o:aP}(h:∀σ,o.rn σ=some o):Ob ev:=⟨.n o,h⟩
theorem ou (l:List (Ob ev)):∀c∈vals l,c.holds ev:=λc hc=>by
 obtain⟨o,_,rfl⟩:=List.mem_map.1 hc;exact o.2
abbrev oU (ag:Bool)(sz:Nat)(es:List Tree)(h:eV ag sz es)(hn:es≠ []):Ob ev:=⟨.u ag sz es,h,hn⟩
abbrev oW (ag:Bool)(sz:Nat)(fs:List Tree)(h:eV ag sz fs):Ob ev:=⟨.w ag sz fs fs.length ((flat fs).map .t),rfl,rfl,h⟩
abbrev oA (a:Nat)(h:a<=70368744177664):Ob ev:=⟨.l a gL,h⟩
abbrev oZ:Ob ev:=⟨.z,trivial⟩
abbrev oQ (l:List Tree):Ob ev:=⟨.pp (((flat l).map TV.t).length=((flat l).map TV.t).length),rfl⟩
abbrev oP {p:Prop}(h:p):Ob ev:=⟨.pp p,h⟩
abbrev oO {x:Option TV}{v:TV}(h:x=some v):Ob ev:=⟨.po x v,h⟩
abbrev oK {x y:List TV}(h:x=y):Ob ev:=⟨.pc x y,h⟩
abbrev oM {x:Option (List (TV×TV×Nat)×Nat)}{y:List (TV×TV×Nat)}{c:Nat}(h:x=some (y,c)):Ob ev:=⟨.pm x y c,h⟩
abbrev oX (ag:Bool)(sz:Nat)(fs:List Tree)(len:Nat)(hl:len=fs.length)(h:eV ag sz fs):Ob ev:=⟨.w ag sz fs len ((flat fs).map .t),rfl,hl,h⟩
abbrev oH {l:List Tree}{i:Nat}{x:Tree}(h:l[i]?=some x):Ob ev:=⟨.l (i+1) l.length,(List.getElem?_eq_some_iff.1 h).1⟩
abbrev Il (a b:Nat)(h:a+b<9223372036854775808):Ob ev:=⟨.v (.t (.int .i64 (IntKind.i64.wrap ((a:Int)+(b:Int))))) (.t (.int .i64 ((a+b:Nat):Int))),by
 show TV.t _=TV.t _;rw[wrap64 (by omega) (by omega)];rfl⟩
abbrev oJ {x:Option (TV×List (TV×TV×Nat)×Nat)}{v:TV}{y:List (TV×TV×Nat)}{c:Nat}(h:x=some (v,y,c)):Ob ev:=⟨.pe x v y c,h⟩
abbrev oR (a b:Nat)(h:a<=b):Ob ev:=⟨.l a b,h⟩
theorem zI {sz:Nat}{es:List Tree}{i j m:Nat}{e:Tree}(hu:∀e∈es,e.cells.length=sz)(he:es[i]?=some e)(hj:j+m<=sz):i*sz+j+m<=((flat es).map TV.t).length:=by
 have hi:i<es.length:=(List.getElem?_eq_some_iff.1 he).1;rw[List.length_map,fF hu];have:(i+1) *sz<=es.length*sz:=Nat.mul_le_mul_right _ hi;rw[Nat.succ_mul] at this;omega
theorem Vs {ag:Bool}{sz:Nat}{es:List Tree}(h:eV ag sz es):kZ sz es=true:=by
 cases es with
 |nil=>rfl
 |cons e r=>simp only[kZ,(h e List.mem_cons_self).1,BEq.rfl]
abbrev oS (n:Nat)(h:1<=n)(h2:n<9223372036854775807):Ob ev:=⟨.v (.t (.int .i64 (IntKind.i64.wrap ((n:Int) - 1)))) (.t (.int .i64 ((n - 1:Nat):Int))),by
 show TV.t _=TV.t _;rw[wrap64 (by omega) (by omega),show((n - 1:Nat):Int)=(n:Int) - 1 by omega]⟩
abbrev oG (k:IntKind)(a b:Int):Ob ev:=⟨.v (.t (.int k (if b>a then b else a))) (.t (.int k (max a b))),by
 show TV.t _=TV.t _;rw[show(if b>a then b else a)=max a b from by rw[Int.max_def];split<;>split<;>omega]⟩
abbrev oL (k:IntKind)(a b:Int):Ob ev:=⟨.v (.t (.int k (if b<a then b else a))) (.t (.int k (min a b))),by
 show TV.t _=TV.t _;rw[show(if b<a then b else a)=min a b from by rw[Int.min_def];split<;>split<;>omega]⟩
abbrev oI (n:Nat)(h:n<9223372036854775807):Ob ev:=⟨.v (.t (.int .i64 (IntKind.i64.wrap ((n:Int)+1)))) (.t (.int .i64 ((n+1:Nat):Int))),by
 show TV.t _=TV.t _;rw[wrap64 (by omega) (by omega)];rfl⟩
end obs
def Vt (S:List Nm)(slots:List TV):List Nat->Option (List (Nat×TV))
 | []=>some []
 | i::r=>match slots[i]?,Vt S slots r with
  |some v,some l=>(match v.rn (P4 S) with
   |some v=>some ((i,v)::l)
   |none=>none)
  |_,_=>none
def Vu (S:List Nm)(H:Heap):List Nm->M Heap
 | []=>dK []
 |k::r=>match H.get k,P4 S k with
  |some o,some k'=>bn (rnO (P4 S) o) λo=>bn (Vu S H r) λh=>dK ((k',o)::h)
  |_,_=>jb
def G5 (n:Nat)(S ks:List Nm)(live:List Nat)(T:Nat)(s:St):M St:=
 match Nat.beq s.slots.length n&&S.all Nm.jf&&decide S.Nodup&&S.all (λk=>(s.H.get k).isSome)&&Nat.ble S.length T,Vt S s.slots live with
 |true,some sp=>bn (Vu S s.H ks) λH=>dK ⟨eA n sp,H,T⟩
 |_,_=>jb
section norm
variable {ev:bp}{C:ew}
theorem QD {S:List Nm}{slots:List TV}:∀{live:List Nat} {sp:List (Nat×TV)},Vt S slots live=some sp->∀i,look sp i=.any\/∃v,slots[i]?=some v/\v.rn (P4 S)=some (look sp i)
 | [],sp,h,i=>by cases h;exact .inl rfl
 | j ::r,sp,h,i=>by
   simp only[Vt] at h
   split at h
   · rename_i v l h1 h2
     split at h
     · rename_i v' h3
       cases h
       rw[qI]
       by_cases e:i=j
       · subst e;rw[if_pos rfl];exact .inr ⟨v,h1,h3⟩
       · rw[if_neg e];exact QD h2 i
     · cases h
   · cases h
theorem QE {S:List Nm}{H:Heap}:∀{ks:List Nm},MP ev (Vu S H ks) λH'=>Jp (P4 S) H H'
 | []=>MP.ret trivial
 | k ::r=>by
   simp only[Vu]
   split
   · rename_i o k' h1 h2
     exact MP.bind TA λo' ho=>MP.bind (QE (ks:=r)) λh hh=>MP.ret ⟨⟨k,o,h1,h2,.inl ho⟩,hh⟩
   · exact MP.no
theorem Vv {σ:Nm->Option Nm}:∀{xs ys:List TV},xs.length=ys.length->(∀(i:Nat) (y:TV),ys[i]?=some y->y=TV.any\/∃x:TV,xs[i]?=some x/\x.rn σ=some y)->uI σ xs ys
 | [],[],_,_=>trivial
 | x ::xs,y::ys,hl,h=>by
   refine⟨?_,Vv (by simpa using hl) λi y hy=> ?_⟩
   · rcases h 0 y rfl with e|⟨x',e1,e2⟩
     · exact .inl e
     · cases e1;exact .inr e2
   · rcases h (i+1) y (by simpa using hy) with e|⟨x',e1,e2⟩
     · exact .inl e
     · exact .inr ⟨x',by simpa using e1,e2⟩
 | [],_::_,hl,_=>by simp at hl
 |_::_,[],hl,_=>by simp at hl
theorem wO {n:Nat}{S ks:List Nm}{live:List Nat}{T:Nat}{s:St}:MP ev (G5 n S ks live T s) λs2=>Re C s s2:=by
 unfold G5;split
 ·rename_i sp hb hs;refine MP.bind QE λH' h1=>MP.ret ?_
  simp only[Bool.and_eq_true] at hb;obtain⟨⟨⟨⟨b1,b2⟩,b3⟩,b4⟩,b5⟩:=hb;have hn:=Nat.eq_of_beq_eq_true b1;obtain⟨slots,H,t⟩:=s;refine Re.mk S (Vv (by rw[jc];exact hn) λi y hy=> ?_) h1 (of_decide_eq_true b3) b2 (λk hk=>List.all_eq_true.1 b4 k hk) (Nat.le_of_ble_eq_true b5);have hi:i<n:=by have:=(List.getElem?_eq_some_iff.1 hy).1;simpa [jc] using this
  rw[rY hi] at hy;cases hy;exact QD hs i
 ·exact MP.no
end norm
section rules
variable {ev:bp}{C:ew}{f:FuncId}{R:Type}
theorem AX.frames {c:Code}{st:St}{Q:R->aR->St->Prop}(h:∃r,KE C (Q r) [.c c] .normal st):AX C c st Q:=h.imp λ_ h=>AW.mono h λ_ _ h=>h
def aiP (H:Heap)(v:TV):M (TV×List Nm):=match NS v with
 |true=>bn (Xq H ji v) λp=>dK (.t p.1,p.2)
 |false=>dK (match sG H ji v with
  |some (x,ks)=>(.t x,ks)
  |none=>(v,[]))
theorem aeD {H:Heap}{v:TV}:MP ev (aiP H v) λp=>(∃x ks,sG H ji v=some (x,ks)/\p=(.t x,ks))\/(sG H ji v=none/\p=(v,[])):=by
 unfold aiP;split
 ·exact MP.bind (NU H ji v) λp hp=>MP.ret (.inl ⟨p.1,p.2,hp,rfl⟩)
 ·refine MP.ret ?_;cases h:sG H ji v with
  |none=>exact .inr ⟨rfl,rfl⟩
  |some q=>exact .inl ⟨q.1,q.2,rfl,rfl⟩
def Im (C:ew)(fn:Func)(n:Nat)(st:St):M br:=
 match l5 C st fn.results.toList with
 |none=>jb
 |some vs=>bn (aiP st.H (CN vs)) λp=>match tA (st.H.fk (eU st.H p.2)) 0 n with
  |none=>jb
  |some os=>bn (NW os) λl=>bn (zG (st.H.fk (eU st.H p.2)) iK [] (p.1.names++l)) λR=>qM ((pn (st.H.fk (eU st.H p.2)) R).map λh=>.ret p.1 os h)
theorem Mk {fn:Func}{n:Nat}{st:St}:MP ev (Im C fn n st) λr=>finish C fn n st=some r:=by
 unfold Im;split
 ·exact MP.no
 ·rename_i vs hv;refine MP.bind aeD λp hp=> ?_
  split
  ·exact MP.no
  ·rename_i os ho;refine MP.bind JO λl hl=>MP.bind (wN _ _ _) λR hR=>(MP.Vn (dL.opt _)).mono λr hr=> ?_
   have h1:=hR.1;rw[← hl] at h1;unfold finish;rcases hp with ⟨x,ks,h2,rfl⟩|⟨h2,rfl⟩
   ·simp only at ho h1 hr;simp only[hv,h2,ho,h1];exact hr
   ·simp only at ho h1 hr;simp only[hv,h2,ho,h1];exact hr
def N3 (C:ew)(fn:Func)(m:Nat)(p:List Fr×aR×St):M br:=match p with
 |([],.normal,s)=>Im C fn m s
 |([],.ret,s)=>Im C fn m s
 |([],.panic v,s)=>(match v.names.any Nm.jf with
  |false=>dK (.panic v (uQ s.H 0 m))
  |true=>jb)
 |_=>jb
theorem aeE {fn:Func}{m:Nat}{p:List Fr×aR×St}:MP ev (N3 C fn m p) λr=>KE C (wE C fn m r) p.1 p.2.1 p.2.2:=by
 unfold N3;split
 ·exact Mk.mono λr h=>.inl h
 ·exact Mk.mono λr h=>.inl h
 ·split
  ·rename_i hv;exact MP.ret ⟨hv,rfl⟩
  ·exact MP.no
 ·exact MP.no
theorem aiQ (hm:C.P.prog.follows .mixedOrders=true)(aI:aC C ev){fn:Func}{once:List Nat}{m n:Nat}{r:br}{K:List Fr}{e:aR}{s:St}(obs:List (Ob ev))(h:bn (goK C f once 100000 n K e s) (N3 C fn m) (vals obs)=some (r,[],vals obs)):KE C (wE C fn m r) K e s:=
 MP.bind (r5 hm aI n K e s) (λp hp=>aeE.mono λr hr=>hp _ hr) _ _ _ _ h (ou obs)
theorem ama (hm:C.P.prog.follows .mixedOrders=true)(aI:aC C ev){fn:Func}{once:List Nat}{m n:Nat}{K:List Fr}{e:aR}{s:St}{β:Type}(sh:br->Option β)(mk:β->br)(hmk:∀r b,sh r=some b->r=mk b)(obs:List (Ob ev))
 (h1:((bn (goK C f once 100000 n K e s) (N3 C fn m) (vals obs)).map λp=>p.2)=some ([],vals obs))(h2:((bn (goK C f once 100000 n K e s) (N3 C fn m) (vals obs)).bind λp=>sh p.1).isSome=true):∃b,KE C (wE C fn m (mk b)) K e s:=by
 cases h:bn (goK C f once 100000 n K e s) (N3 C fn m) (vals obs) with
 |none=>rw[h] at h1;cases h1
 | some p=>
  obtain⟨r,q⟩:=p
  rw[h] at h1 h2
  simp only[Option.map_some,Option.some.injEq] at h1
  subst h1
  cases hb:sh r with
  |none=>simp[hb] at h2
  |some b=>
   refine⟨b, ?_⟩
   rw[← hmk r b hb]
   exact aiQ hm aI obs h
def JW (n:Nat)(S ks:List Nm)(live:List Nat)(T:Nat)(p:List Fr×aR×St):M St:=match p with
 |([],.normal,s)=>G5 n S ks live T s
 |_=>jb
theorem Xw {n T:Nat}{S ks:List Nm}{live:List Nat}{p:List Fr×aR×St}:MP ev (JW n S ks live T p) λs2=>KE C (λe s=>e=.normal/\Re C s s2) p.1 p.2.1 p.2.2:=by
 unfold JW;split
 ·exact wO.mono λs2 h=>⟨rfl,h⟩
 ·exact MP.no
theorem aap (hm:C.P.prog.follows .mixedOrders=true)(aI:aC C ev){once:List Nat}{n k T:Nat}{S ks:List Nm}{live:List Nat}{s2:St}{K:List Fr}{e:aR}{s:St}(obs:List (Ob ev))(h:bn (goK C f once 100000 n K e s) (JW k S ks live T) (vals obs)=some (s2,[],vals obs)):
 KE C (λe s=>e=.normal/\Re C s s2) K e s:=
 MP.bind (r5 hm aI n K e s) (λp hp=>Xw.mono λr hr=>hp _ hr) _ _ _ _ h (ou obs)
def G6 (p:Code->Bool):Code->List Fr->Option (Code×List Fr)
 |.seq a b,K=>(G6 p a (.c b::K)).or (G6 p b K)
 |.cond _ a b,K=>(G6 p a K).or (G6 p b K)
 |.block id c,K=>G6 p c (.b id::K)
 |.loop c,K=>match p (.loop c) with
  |true=>some (c,K)
  |false=>G6 p c []
 |x,K=>match p x with
  |true=>some (x,K)
  |false=>none
def aeF (r:Nat):Code->Bool
 |.loop c=>match x4 c with
  |some i=>Nat.beq i r
  |none=>false
 |_=>false
def amb (r:Nat):Code->Bool
 |.region id _ _=>Nat.beq id r
 |_=>false
def j6 (B:Code)(r:Nat):Code×List Fr:=(G6 (aeF r) B []).getD (.skip,[])
def amc (B:Code)(r:Nat):Code×List Fr:=(G6 (amb r) B []).getD (.skip,[])
def Vw (n:Nat)(S ks:List Nm)(live:List Nat)(T:Nat)(p:List Fr×aR×St):M ((Code×List Fr)×St):=match p with
 |(.c (.loop b)::K,.normal,s)=>bn (G5 n S ks live T s) λs=>dK ((b,K),s)
 |_=>jb
theorem aaq {n T:Nat}{S ks:List Nm}{live:List Nat}{p:List Fr×aR×St}:MP ev (Vw n S ks live T p) λq=>∃s,p=(.c (.loop q.1.1)::q.1.2,.normal,s)/\Re C s q.2:=by
 unfold Vw;split
 ·exact MP.bind wO λs2 h=>MP.ret ⟨_,rfl,h⟩
 ·exact MP.no
theorem amd (hm:C.P.prog.follows .mixedOrders=true)(aI:aC C ev){α:Type}(st:α->St)(ok:α->Prop)(μ:α->Nat)(x0:α){once:List Nat}{n k T:Nat}{S ks:List Nm}{live:List Nat}{K:List Fr}{e:aR}{s:St}{Q:R->aR->St->Prop}(L:Code×List Fr)(obs:List (Ob ev))
 (h:bn (goK C f once 100000 n K e s) (Vw k S ks live T) (vals obs)=some ((L,st x0),[],vals obs))(h0:ok x0)
 (hs:∀x,ok x->∃o,KE C (xX C st (λy=>ok y/\μ y<μ x) (λr=>KE C (Q r) L.2) o) [.c L.1] .normal (st x)):∃r,KE C (Q r) K e s:=by
 have key:∃p:List Fr×aR×St,(∀Q,KE C Q p.1 p.2.1 p.2.2->KE C Q K e s)/\∃s,p=(.c (.loop L.1)::L.2,.normal,s)/\Re C s (st x0):=
  MP.bind (r5 hm aI n K e s) (λp hp=>aaq.mono λq hq=>show ∃p:List Fr×aR×St,(∀Q,KE C Q p.1 p.2.1 p.2.2->KE C Q K e s)/\∃s,p=(.c (.loop q.1.1)::q.1.2,.normal,s)/\Re C s q.2 from⟨p,hp,hq⟩) _ _ _ _ h (ou obs)
 obtain⟨p,hp,s',rfl,Lp⟩:=key
 obtain⟨r,hr⟩:=AX.loop (C:=C) (Q:=λr=>KE C (Q r) L.2) st ok μ x0 Lp h0 λx hx=>AX.frames (hs x hx)
 exact⟨r,hp _ hr⟩
abbrev GoR:=Option ((List Fr×aR×St)×List Cl×List Cl)
def exOf (r:GoR):aR:=match r with
 |some ((_,e,_),_,_)=>e
 |none=>.normal
def stOf (r:GoR):St:=match r with
 |some ((_,_,s),_,_)=>s
 |none=>⟨[],[],0⟩
def QF (r:GoR):Option (List Cl×List Cl):=match r with
 |some (([],.exit _,_),c,e)=>some (c,e)
 |some (([],.ret,_),c,e)=>some (c,e)
 |some (([],.panic _,_),c,e)=>some (c,e)
 |_=>none
theorem ame (hm:C.P.prog.follows .mixedOrders=true)(aI:aC C ev){α:Type}{st:α->St}{P:α->Prop}{Q:R->aR->St->Prop}{once:List Nat}{n:Nat}{K:List Fr}{e:aR}{s:St}(obs:List (Ob ev))(h:QF (goK C f once 100000 n K e s (vals obs))=some ([],vals obs))
 (k:∃r,Q r (exOf (goK C f once 100000 n K e s (vals obs))) (stOf (goK C f once 100000 n K e s (vals obs)))):∃o,KE C (xX C st P Q o) K e s:=by
 have hv:=ou obs
 obtain⟨r,hr⟩:=k
 refine⟨.inr r, ?_⟩
 cases hg:goK C f once 100000 n K e s (vals obs) with
 |none=>rw[hg] at h;cases h
 | some q=>
  obtain⟨⟨K',e',s'⟩,c,em⟩:=q
  rw[hg] at h hr
  cases K' with
  |cons=>cases h
  |nil=>
   cases e' with
   |normal=>cases h
   |exit i=>cases h;exact r5 hm aI _ _ _ _ _ _ _ _ hg hv _ hr
   |ret=>cases h;exact r5 hm aI _ _ _ _ _ _ _ _ hg hv _ hr
   |panic v=>cases h;exact r5 hm aI _ _ _ _ _ _ _ _ hg hv _ hr
def atO (n:Nat)(S ks:List Nm)(live:List Nat)(T:Nat)(p:List Fr×aR×St):M ((Code×List Fr)×St):=match p with
 |(.c x::K,.normal,s)=>bn (G5 n S ks live T s) λs=>dK ((x,K),s)
 |_=>jb
theorem aiR {n T:Nat}{S ks:List Nm}{live:List Nat}{p:List Fr×aR×St}:MP ev (atO n S ks live T p) λq=>∃s,p=(.c q.1.1::q.1.2,.normal,s)/\Re C s q.2:=by
 unfold atO;split
 ·exact MP.bind wO λs2 h=>MP.ret ⟨_,rfl,h⟩
 ·exact MP.no
theorem kAt (hm:C.P.prog.follows .mixedOrders=true)(aI:aC C ev)(B:Code)(stop:Nat){once:List Nat}{n k T:Nat}{S ks:List Nm}{live:List Nat}{K:List Fr}{e:aR}{s:St}{Q:R->aR->St->Prop}{x:Code}{K':List Fr}(hL:amc B stop=(x,K'))(s2:St)(obs:List (Ob ev))
 (h:bn (goK C f once stop n K e s) (atO k S ks live T) (vals obs)=some ((amc B stop,s2),[],vals obs))(k:AX C x s2 λr=>KE C (Q r) K'):∃r,KE C (Q r) K e s:=by
 rw[hL] at h
 have key:∃p:List Fr×aR×St,(∀Q,KE C Q p.1 p.2.1 p.2.2->KE C Q K e s)/\∃s,p=(.c x::K',.normal,s)/\Re C s s2:=
  MP.bind (r5 hm aI n K e s) (λp hp=>aiR.mono λq hq=>show ∃p:List Fr×aR×St,(∀Q,KE C Q p.1 p.2.1 p.2.2->KE C Q K e s)/\∃s,p=(.c q.1.1::q.1.2,.normal,s)/\Re C s q.2 from⟨p,hp,hq⟩) _ _ _ _ h (ou obs)
 obtain⟨p,hp,s',rfl,Lp⟩:=key
 obtain⟨r,hr⟩:=k
 exact⟨r,hp _ (AW.re Lp hr)⟩
def aeG (n:Nat)(S ks:List Nm)(live:List Nat)(T:Nat)(p:List Fr×aR×St):M (aR×St):=match p with
 |([],.normal,s)=>bn (G5 n S ks live T s) λs=>dK (.normal,s)
 |([],.ret,s)=>bn (G5 n S ks live T s) λs=>dK (.ret,s)
 |_=>jb
theorem aeH {n T:Nat}{S ks:List Nm}{live:List Nat}{p:List Fr×aR×St}:MP ev (aeG n S ks live T p) λq=>(q.1=.normal\/q.1=.ret)/\∃s,p=([],q.1,s)/\Re C s q.2:=by
 unfold aeG;split
 ·exact MP.bind wO λs2 h=>MP.ret ⟨.inl rfl,_,rfl,h⟩
 ·exact MP.bind wO λs2 h=>MP.ret ⟨.inr rfl,_,rfl,h⟩
 ·exact MP.no
def SC (C:ew)(Q:aR->St->Prop):aR->St->Prop:=λe s=>Q e s\/((e=.normal\/e=.ret\/∃i,e=.exit i)/\∃s2,Re C s s2/\Q e s2)
theorem Vx {Q:aR->St->Prop}{G0:Gh}{w0 w':World}{a a':Act}{ex:Exit}(h0:∀p,¬G0.dom (.loc p)):(∃e st',SC C Q e st'/\Good C G0 w0 a e st' ex a' w')->∃e st',Q e st'/\Good C G0 w0 a e st' ex a' w':=by
 rintro ⟨e,st',hq,hg⟩;rcases hq with hq|⟨he,s2,Lp,hq⟩
 ·exact⟨e,st',hq,hg⟩
 ·rcases he with rfl|rfl|⟨i,rfl⟩
  ·obtain⟨G1,hs1,hd,e1,jk⟩:=hg;obtain⟨G2,hs2,qG⟩:=Lp G0 w0 G1 w' a' h0 hs1 jk;exact⟨.normal,s2,hq,G2,hs2,hd,e1,qG⟩
  ·obtain⟨G1,hs1,hd,e1,jk⟩:=hg;obtain⟨G2,hs2,qG⟩:=Lp G0 w0 G1 w' a' h0 hs1 jk;exact⟨.ret,s2,hq,G2,hs2,hd,e1,qG⟩
  ·obtain⟨G1,hs1,hd,e1,jk⟩:=hg;obtain⟨G2,hs2,qG⟩:=Lp G0 w0 G1 w' a' h0 hs1 jk;exact⟨.exit i,s2,hq,G2,hs2,hd,e1,qG⟩
theorem AW.rH {c:Code}{st:St}{Q:aR->St->Prop}(h:AW C c st (SC C Q)):AW C c st Q:=λG0 w0 G w a h0 hs hst=>wp_mono (h G0 w0 G w a h0 hs hst) λex a' w' hp=>Vx h0 hp
theorem Pf.rH {b:Code}{n:Nat}{st:St}{Q:aR->St->Prop}(h:Pf C b n st (SC C Q)):Pf C b n st Q:=λG0 w0 G w a a1 h0 hs hd hst=>zH (λ_ _ _ hp=>Vx h0 hp) n (h G0 w0 G w a a1 h0 hs hd hst)
theorem KE.Dl {Q:aR->St->Prop}:∀{K:List Fr} {e:aR} {s:St},KE C (SC C Q) K e s->SC C (KE C Q K) e s
 | [],_,_,h=>h
 |.c x::K,.normal,s,h=>.inl (AW.rH (AW.mono h λ_ _ h=>KE.Dl h))
 |.c _::K,.exit i,s,h=>KE.Dl (K:=K) h
 |.c _::K,.ret,s,h=>KE.Dl (K:=K) h
 |.c _::K,.panic v,s,h=>KE.Dl (K:=K) h
 | .b id::K,.exit i,s,h=>by
   by_cases e:i=id
   · have h:KE C (SC C Q) K .normal s:=by
       have h:(if i=id then KE C (SC C Q) K .normal s else KE C (SC C Q) K (.exit i) s):=h
       rwa [if_pos e] at h
     rcases KE.Dl h with h|⟨_,s2,Lp,h⟩
     · exact .inl (show(if i=id then KE C Q K .normal s else KE C Q K (.exit i) s) by rwa [if_pos e])
     · exact .inr ⟨.inr (.inr ⟨i,rfl⟩),s2,Lp,show(if i=id then KE C Q K .normal s2 else KE C Q K (.exit i) s2) by rwa [if_pos e]⟩
   · have h:KE C (SC C Q) K (.exit i) s:=by
       have h:(if i=id then KE C (SC C Q) K .normal s else KE C (SC C Q) K (.exit i) s):=h
       rwa [if_neg e] at h
     rcases KE.Dl h with h|⟨_,s2,Lp,h⟩
     · exact .inl (show(if i=id then KE C Q K .normal s else KE C Q K (.exit i) s) by rwa [if_neg e])
     · exact .inr ⟨.inr (.inr ⟨i,rfl⟩),s2,Lp,show(if i=id then KE C Q K .normal s2 else KE C Q K (.exit i) s2) by rwa [if_neg e]⟩
 |.b _::K,.normal,s,h=>KE.Dl (K:=K) h
 |.b _::K,.ret,s,h=>KE.Dl (K:=K) h
 |.b _::K,.panic v,s,h=>KE.Dl (K:=K) h
 |.x _ _::K,.normal,s,h=>.inl (Pf.rH (Pf.mono h λ_ _ h=>KE.Dl (K:=K) h))
 |.x _ _::K,.exit i,s,h=>KE.Dl (K:=K) h
 |.x _ _::K,.ret,s,h=>KE.Dl (K:=K) h
 |.x _ _::K,.panic v,s,h=>KE.Dl (K:=K) h
def Dm:List Fr->aR->Bool
 | [],_=>false
 |.c _::_,.normal=>true
 |.c _::K,e=>Dm K e
 |.b id::K,.exit i=>if i=id then Dm K .normal else Dm K (.exit i)
 |.b _::K,e=>Dm K e
 |.x _ _::_,.normal=>false
 |.x _ _::K,e=>Dm K e
theorem KE.rH {Q:aR->St->Prop}:∀{K:List Fr} {e:aR} {s:St},Dm K e=true->KE C (SC C Q) K e s->KE C Q K e s
 | [],_,_,hd,_=>by cases hd
 |.c x::K,.normal,s,_,h=>AW.rH (AW.mono h λ_ _ h=>KE.Dl h)
 |.c _::K,.exit i,s,hd,h=>KE.rH (K:=K) hd h
 |.c _::K,.ret,s,hd,h=>KE.rH (K:=K) hd h
 |.c _::K,.panic v,s,hd,h=>KE.rH (K:=K) hd h
 |.b id::K,.exit i,s,hd,h=>by
  have h:(if i=id then KE C (SC C Q) K .normal s else KE C (SC C Q) K (.exit i) s):=h
  have hd:(if i=id then Dm K .normal else Dm K (.exit i))=true:=hd
  show(if i=id then KE C Q K .normal s else KE C Q K (.exit i) s)
  by_cases e:i=id
  · rw[if_pos e] at h hd ⊢;exact KE.rH hd h
  · rw[if_neg e] at h hd ⊢;exact KE.rH hd h
 |.b _::K,.normal,s,hd,h=>KE.rH (K:=K) hd h
 |.b _::K,.ret,s,hd,h=>KE.rH (K:=K) hd h
 |.b _::K,.panic v,s,hd,h=>KE.rH (K:=K) hd h
 |.x _ _::_,.normal,_,hd,_=>by cases hd
 |.x _ _::K,.exit i,s,hd,h=>KE.rH (K:=K) hd h
 |.x _ _::K,.ret,s,hd,h=>KE.rH (K:=K) hd h
 |.x _ _::K,.panic v,s,hd,h=>KE.rH (K:=K) hd h
theorem aiS (hm:C.P.prog.follows .mixedOrders=true)(aI:aC C ev){once:List Nat}{n k T:Nat}{S ks:List Nm}{live:List Nat}{K:List Fr}{e:aR}{s:St}{Q:R->aR->St->Prop}(e2:aR)(s2:St)(obs:List (Ob ev))(hd:Dm K e=true)
 (h:bn (goK C f once 100000 n K e s) (aeG k S ks live T) (vals obs)=some ((e2,s2),[],vals obs))(k:∃r,Q r e2 s2):∃r,KE C (Q r) K e s:=by
 have key:∀Q,Q e2 s2->KE C (SC C Q) K e s:=
  MP.bind (r5 hm aI n K e s) (λp hp=>aeH.mono λq hq=>show ∀Q:aR->St->Prop,Q q.1 q.2->KE C (SC C Q) K e s fromλQ hk=>hp _ (by
   obtain⟨he,s',e1,Lp⟩:=hq;rw[e1];exact .inr ⟨he.elim .inl λh=>.inr (.inl h),q.2,Lp,hk⟩)) _ _ _ _ h (ou obs)
 exact k.imp λr hr=>KE.rH hd (key _ hr)
theorem aK (b:Bool):b=true\/b=false:=by cases b<;>simp
theorem kF (hm:C.P.prog.follows .mixedOrders=true)(aI:aC C ev){fn:Func}{m:Nat}{r:br}{K:List Fr}{e:aR}{s:St}(obs:List (Ob ev))(h:bn (goK C 0 [] 100000 3000 K e s) (N3 C fn m) (vals obs)=some (r,[],vals obs)):KE C (wE C fn m r) K e s:=aiQ hm aI obs h
theorem kO (hm:C.P.prog.follows .mixedOrders=true)(aI:aC C ev){α:Type}{st:α->St}{P:α->Prop}{Q:R->aR->St->Prop}{K:List Fr}{e:aR}{s:St}(obs:List (Ob ev))(h:QF (goK C 0 [] 100000 3000 K e s (vals obs))=some ([],vals obs))
 (k:∃r,Q r (exOf (goK C 0 [] 100000 3000 K e s (vals obs))) (stOf (goK C 0 [] 100000 3000 K e s (vals obs)))):∃o,KE C (xX C st P Q o) K e s:=ame hm aI obs h k
theorem elt (l:List Tree)(i:Nat)(h:i<l.length):∃e,l[i]?=some e:=⟨_,List.getElem?_eq_getElem h⟩
def JX:Code->List Fr->List Fr
 |.seq a b,K=>JX a (.c b::K)
 |.block id c,K=>JX c (.b id::K)
 |x,K=>.c x::K
theorem BZ:∀(a:Code) (K:List Fr),∃x F,JX a K=.c x::F
 |.seq a b,K=>BZ a (.c b::K)
 |.block id c,K=>BZ c (.b id::K)
 |.region _ _ _,_=>⟨_,_,rfl⟩
 |.cond _ _ _,_=>⟨_,_,rfl⟩
 |.loop _,_=>⟨_,_,rfl⟩
 |.rangeFunc _ _ _ _,_=>⟨_,_,rfl⟩
 |.exit _,_=>⟨_,_,rfl⟩
 |.scope _,_=>⟨_,_,rfl⟩
 |.label _,_=>⟨_,_,rfl⟩
 |.goto _,_=>⟨_,_,rfl⟩
 |.ret,_=>⟨_,_,rfl⟩
 |.refuse _,_=>⟨_,_,rfl⟩
 |.skip,_=>⟨_,_,rfl⟩
def JY (r:Nat):Code->List Fr->Option ((Code×Code)×List Fr)
 |.seq a b,K=>match isIn [r] (x4 b) with
  |true=>some ((a,b),K)
  |false=>(JY r a (.c b::K)).or (JY r b K)
 |.cond _ a b,K=>(JY r a K).or (JY r b K)
 |.block id c,K=>JY r c (.b id::K)
 |.loop c,_=>JY r c []
 |_,_=>none
def aeI (B:Code)(r:Nat):(Code×Code)×List Fr:=(JY r B []).getD ((.skip,.skip),[])
theorem KE.uI {Q Q':aR->St->Prop}{G:List Fr}(hq:∀e s,Q e s->KE C Q' G e s):∀{F:List Fr} {e:aR} {s:St},KE C Q F e s->KE C Q' (F++G) e s
 | [],e,s,h=>hq e s h
 |.c x::F,.normal,s,h=>AW.mono (show AW C x s (KE C Q F) from h) λ_ _ h=>KE.uI hq h
 |.c _::F,.exit i,s,h=>KE.uI hq (F:=F) h
 |.c _::F,.ret,s,h=>KE.uI hq (F:=F) h
 |.c _::F,.panic v,s,h=>KE.uI hq (F:=F) h
 |.b id::F,.exit i,s,h=>by
  have h:(if i=id then KE C Q F .normal s else KE C Q F (.exit i) s):=h
  show(if i=id then KE C Q' (F++G) .normal s else KE C Q' (F++G) (.exit i) s)
  by_cases e:i=id
  · rw[if_pos e] at h ⊢;exact KE.uI hq h
  · rw[if_neg e] at h ⊢;exact KE.uI hq h
 |.b _::F,.normal,s,h=>KE.uI hq (F:=F) h
 |.b _::F,.ret,s,h=>KE.uI hq (F:=F) h
 |.b _::F,.panic v,s,h=>KE.uI hq (F:=F) h
 |.x _ _::F,.normal,s,h=>Pf.mono h λ_ _ h=>KE.uI hq (F:=F) h
 |.x _ _::F,.exit i,s,h=>KE.uI hq (F:=F) h
 |.x _ _::F,.ret,s,h=>KE.uI hq (F:=F) h
 |.x _ _::F,.panic v,s,h=>KE.uI hq (F:=F) h
def aar (n:Nat)(S ks:List Nm)(live:List Nat)(T:Nat)(p:List Fr×aR×St):M (List Fr×St):=match p with
 |(K,.normal,s)=>bn (G5 n S ks live T s) λs=>dK (K,s)
 |_=>jb
theorem aas {n T:Nat}{S ks:List Nm}{live:List Nat}{p:List Fr×aR×St}:MP ev (aar n S ks live T p) λq=>∃s,p=(q.1,.normal,s)/\Re C s q.2:=by
 unfold aar;split
 ·exact MP.bind wO λs2 h=>MP.ret ⟨_,rfl,h⟩
 ·exact MP.no
theorem Vy (hm:C.P.prog.follows .mixedOrders=true)(aI:aC C ev){α:Type}(st:α->St)(ok:α->Prop)(stop:Nat){once:List Nat}{n k T:Nat}{S ks:List Nm}{live:List Nat}{K:List Fr}{e:aR}{s:St}{Q:R->aR->St->Prop}(L:(Code×Code)×List Fr)(s0:St)(obs:List (Ob ev))
 (h:bn (goK C f once stop n K e s) (aar k S ks live T) (vals obs)=some ((JX L.1.1 []++ .c L.1.2::L.2,s0),[],vals obs))
 (h1:∃o,KE C (xX C st ok (λr=>KE C (Q r) (.c L.1.2::L.2)) o) (JX L.1.1 []) .normal s0)
 (h2:∀x,ok x->∃r,KE C (Q r) (.c L.1.2::L.2) .normal (st x)):∃r,KE C (Q r) K e s:=by
 have key:∃p:List Fr×aR×St,(∀Q,KE C Q p.1 p.2.1 p.2.2->KE C Q K e s)/\∃s,p=(JX L.1.1 []++ .c L.1.2::L.2,.normal,s)/\Re C s s0:=
  MP.bind (r5 hm aI n K e s) (λp hp=>aas.mono λq hq=>show ∃p:List Fr×aR×St,(∀Q,KE C Q p.1 p.2.1 p.2.2->KE C Q K e s)/\∃s,p=(q.1,.normal,s)/\Re C s q.2 from⟨p,hp,hq⟩) _ _ _ _ h (ou obs)
 obtain⟨p,hp,s',rfl,Lp⟩:=key
 have fin:∃r,KE C (Q r) (JX L.1.1 []++ .c L.1.2::L.2) .normal s0:=by
  obtain⟨o,ho⟩:=h1;cases o with
  |inl y=>
   obtain⟨r,hr⟩:=h2 y.1 y.2
   refine⟨r,KE.uI (λe s hq=> ?_) ho⟩
   obtain⟨rfl,Lp⟩:=hq
   exact AW.re Lp hr
  |inr r=>
   refine⟨r,KE.uI (λe s hq=> ?_) ho⟩
   cases e with
   |normal=>exact False.elim hq
   |exit i=>exact hq
   |ret=>exact hq
   |panic v=>exact hq
 obtain⟨r,hr⟩:=fin
 refine⟨r,hp _ ?_⟩
 obtain⟨x,F,hF⟩:=BZ L.1.1 []
 rw[hF] at hr ⊢
 exact AW.re Lp hr
end rules
attribute [irreducible] goK KE stOf exOf
end Go.Abs
noncomputable section
namespace Go.Abs
open Go
def KM (K:Tree->Prop)(es:List (TV×TV×Nat)):Prop:=∀e∈es,∃(x:Tree) (n:Int) (b:Nat),K x/\e=(.t x,.t (.int .i64 n),b)
theorem KM.nil {K:Tree->Prop}:KM K []:=λ_ h=>by cases h
structure KEq (P:jZ)(kt:TypeId)(d:TypeDesc)(K:Tree->Prop):Prop where
 same:∀x,K x->Po P kt d (.t x) (.t x)=some true/\∃u,l8 (.t x)=some u/\Instr.sameBits 10000 u u=true
 other:∀x y,K x->K y->x≠y->Po P kt d (.t x) (.t y)=some false
 ok:∀x b,K x->y9 P b kt (.t x)=true
open Classical in
def jo:List (TV×TV×Nat)->Tree->Nat->Option (Nat×TV×Nat)
 | [],_,_=>none
 |(k,v,b)::r,x,i=>if k=.t x then some (i,v,b) else jo r x (i+1)
theorem N4 {P:jZ}{kt:TypeId}{d:TypeDesc}{K:Tree->Prop}(h:KEq P kt d K){x:Tree}(hx:K x):∀{es:List (TV×TV×Nat)},KM K es->∀i,o7 P kt d (.t x) es i=some (jo es x i)
 | [],_,i=>rfl
 | e ::es,hs,i=>by
   obtain⟨y,n,b,hy,rfl⟩:=hs e List.mem_cons_self
   unfold o7 jo
   by_cases hxy:x=y
   · subst hxy
     obtain⟨h1,u,h2,h3⟩:=h.same x hx
     simp only[h1,h2,h3,if_true]
   · rw[h.other x y hx hy hxy]
     have:¬(TV.t y=TV.t x):=λe=>hxy (TV.t.inj e).symm
     rw[if_neg this]
     exact N4 h hx (λe he=>hs e (List.mem_cons_of_mem _ he)) (i+1)
theorem AO {K:Tree->Prop}{x:Tree}:∀{es:List (TV×TV×Nat)},KM K es->∀i j v b,jo es x i=some (j,v,b)->i<=j/\es[j - i]?=some (.t x,v,b)/\∃n:Int,v=.t (.int .i64 n)
 | [],_,_,_,_,_,h=>by cases h
 | e ::es,hs,i,j,v,b,h=>by
   obtain⟨y,n,b',hy,rfl⟩:=hs e List.mem_cons_self
   unfold jo at h
   split at h
   · rename_i e1
     cases h
     rw[Nat.sub_self]
     exact⟨Nat.le_refl _,by rw[e1];rfl,n,rfl⟩
   · obtain⟨h1,h2,h3⟩:=AO (λe he=>hs e (List.mem_cons_of_mem _ he)) (i+1) j v b h
     refine⟨by omega, ?_,h3⟩
     rw[show j - i=(j - (i+1))+1 by omega]
     exact h2
def kD (es:List (TV×TV×Nat))(x:Tree):Int:=match jo es x 0 with
 |some (_,.t (.int _ n),_)=>n
 |_=>0
def nH (es:List (TV×TV×Nat))(c:Nat)(x:Tree)(n:Int):List (TV×TV×Nat):=match jo es x 0 with
 |some (i,_,b)=>es.set i (.t x,.t (.int .i64 n),b)
 |none=>es++[(.t x,.t (.int .i64 n),c)]
def uE (es:List (TV×TV×Nat))(c:Nat)(x:Tree):Nat:=match jo es x 0 with
 |some _=>c
 |none=>c+1
section
variable {P:jZ}{ty kt et:TypeId}{ti tk te:TI}{K:Tree->Prop}{x:Tree}{es:List (TV×TV×Nat)}
theorem wP (ht:P.ty ty=some ti)(hd:ti.desc=.map kt et)(hk:P.ty kt=some tk)(he:P.ty et=some te)(hez:te.zero=some (.t (.int .i64 0)))(hK:KEq P kt tk.desc K)(hS:KM K es)(hx:K x):
 Bp P ty es (.t x) false=some (.t (.int .i64 (kD es x))):=by
 have h:=N4 hK hx hS 0
 have h2:=AO hS 0 (x:=x)
 unfold kD
 cases hf:jo es x 0 with
 |none=>
  rw[hf] at h
  simp only[Bp,bw,ht,hd,hk,he,hK.ok x _ hx,if_true,h,hez,Bool.false_eq_true,if_false]
 |some p=>
  obtain⟨j,v,b⟩:=p
  rw[hf] at h
  obtain⟨_,_,n,rfl⟩:=h2 j v b hf
  simp only[Bp,bw,ht,hd,hk,he,hK.ok x _ hx,if_true,h,hez,Bool.false_eq_true,if_false]
end
theorem iW {K:Tree->Prop}{es:List (TV×TV×Nat)}(h:KM K es){x:Tree}(hx:K x)(c:Nat)(n:Int):KM K (nH es c x n):=by
 unfold nH;split
 ·rename_i i v b hf;intro e he;rcases List.mem_or_eq_of_mem_set he with he|he
  ·exact h e he
  ·exact⟨x,n,b,hx,he⟩
 ·intro e he;rcases List.mem_append.1 he with he|he
  ·exact h e he
  ·simp only[List.mem_singleton] at he;exact⟨x,n,c,hx,he⟩
open Classical in
theorem F2 {y x:Tree}{v:TV}{c:Nat}:∀{es:List (TV×TV×Nat)} (i:Nat),jo (es++[(.t x,v,c)]) y i=match jo es y i with
    |some p=>some p
    |none=>if x=y then some (i+es.length,v,c) else none
  | [],i=>by
    simp only[List.nil_append,jo,List.length_nil,Nat.add_zero]
    by_cases h:x=y
    · rw[if_pos h,if_pos (by rw[h])]
    · rw[if_neg h,if_neg (λe=>h (TV.t.inj e))]
  | e ::es,i=>by
    obtain⟨k,w,b⟩:=e
    simp only[List.cons_append,jo]
    split
    · rfl
    · rw[F2 (i+1)]
      simp only[List.length_cons]
      rw[show i+1+es.length=i+(es.length+1) by omega]
theorem yL {y x:Tree}(hxy:x≠y){v:TV}{b:Nat}:∀{es:List (TV×TV×Nat)} (i j:Nat) (w:TV) (b':Nat),es[j]?=some (.t x,w,b')->jo (es.set j (.t x,v,b)) y i=jo es y i
 | [],_,_,_,_,h=>by simp at h
 |e::es,i,0,w,b',h=>by
  simp only[List.getElem?_cons_zero,Option.some.injEq] at h
  subst h
  have hne:¬(TV.t x=TV.t y):=λe=>hxy (TV.t.inj e)
  simp only[List.set_cons_zero,jo,if_neg hne]
 |e::es,i,j+1,w,b',h=>by
  obtain⟨k,w0,b0⟩:=e
  simp only[List.set_cons_succ,jo]
  rw[yL hxy (i+1) j w b' (by simpa using h)]
theorem zJ {x:Tree}{v:TV}{b:Nat}:∀{es:List (TV×TV×Nat)} (i j:Nat) (w:TV) (b':Nat),jo es x i=some (i+j,w,b')->jo (es.set j (.t x,v,b)) x i=some (i+j,v,b)
 | [],_,_,_,_,h=>by cases h
 | e ::es,i,j,w,b',h=>by
   obtain⟨k,w0,b0⟩:=e
   unfold jo at h
   split at h
   · rename_i hk
     have:j=0:=by
       simp only[Option.some.injEq,Prod.mk.injEq] at h
       omega
     subst this
     simp only[List.set_cons_zero,jo,if_true,Nat.add_zero]
   · rename_i hk
     cases j with
     | zero=>
       exfalso
       have:∀(l:List (TV×TV×Nat)) (a q:Nat) (u:TV) (z:Nat),jo l x a=some (q,u,z)->a<=q:=by
         intro l
         induction l with
         |nil=>intro a q u z h;cases h
         | cons e r ih=>
           obtain⟨k1,w1,b1⟩:=e
           intro a q u z h
           unfold jo at h
           split at h
           · cases h;exact Nat.le_refl _
           · have:=ih _ _ _ _ h;omega
       have:=this _ _ _ _ _ h
       omega
     | succ j=>
       simp only[List.set_cons_succ,jo,if_neg hk]
       rw[show i+(j+1)=i+1+j by omega] at h ⊢
       exact zJ (i+1) j w b' h
theorem B0 {K:Tree->Prop}{es:List (TV×TV×Nat)}(h:KM K es)(x:Tree)(c:Nat)(n:Int):kD (nH es c x n) x=n:=by
 unfold kD nH;cases hf:jo es x 0 with
 |some p=>
  obtain⟨i,v,b⟩:=p
  simp only
  rw[show jo (es.set i (.t x,.t (.int .i64 n),b)) x 0=some (0+i,.t (.int .i64 n),b) from zJ 0 i v b (by rw[Nat.zero_add];exact hf)]
 |none=>
  simp only
  rw[F2 0,hf]
  simp
theorem zK {K:Tree->Prop}{es:List (TV×TV×Nat)}(h:KM K es){x y:Tree}(hxy:x≠y)(c:Nat)(n:Int):kD (nH es c x n) y=kD es y:=by
 unfold kD nH;cases hf:jo es x 0 with
 |some p=>
  obtain⟨i,v,b⟩:=p
  obtain⟨_,h2,_⟩:=AO h 0 i v b hf
  rw[Nat.sub_zero] at h2
  simp only
  rw[yL hxy 0 i v b h2]
 |none=>
  simp only
  rw[F2 0]
  cases jo es y 0 with
  |some p=>rfl
  |none=>simp only[if_neg hxy]
theorem wQ {P:jZ}{ty kt et:TypeId}{ti tk te:TI}{K:Tree->Prop}{x:Tree}{es:List (TV×TV×Nat)}(ht:P.ty ty=some ti)(hd:ti.desc=.map kt et)(hk:P.ty kt=some tk)(he:P.ty et=some te)(hez:te.zero=some (.t (.int .i64 0)))(hK:KEq P kt tk.desc K)(hS:KM K es)(hx:K x)(c:Nat):
 Bp P ty (nH es c x (kD es x)) (.t x) false=some (.t (.int .i64 (kD es x))):=by
 rw[wP ht hd hk he hez hK (iW hS hx c _) hx,B0 hS]
def KB (es:List (TV×TV×Nat))(c:Nat):Prop:=(es.map (·.2.2)).Nodup/\∀e∈es,e.2.2<c
theorem KB.nil:KB [] 0:=⟨List.nodup_nil,λ_ h=>by cases h⟩
def stM (es:List (TV×TV×Nat))(c:Nat)(x:Tree):Nat:=match jo es x 0 with
 |some (_,_,b)=>b
 |none=>c
theorem KB.up {K:Tree->Prop}{es:List (TV×TV×Nat)}{c:Nat}(h:KB es c)(hS:KM K es)(x:Tree)(n:Int):KB (nH es c x n) (uE es c x):=by
 unfold nH uE;cases hf:jo es x 0 with
 | some p=>
   obtain⟨i,v,b⟩:=p
   obtain⟨_,h2,_⟩:=AO hS 0 i v b hf
   rw[Nat.sub_zero] at h2
   obtain⟨hi,h3⟩:=List.getElem?_eq_some_iff.1 h2
   have e:(es.set i (.t x,.t (.int .i64 n),b)).map (·.2.2)=es.map (·.2.2):=by
     rw[List.map_set]
     have:(es.map (·.2.2))[i]'(by simpa using hi)=b:=by rw[List.getElem_map,h3]
     conv=>lhs;rw[show((TV.t x,TV.t (.int .i64 n),b):TV×TV×Nat).2.2=(es.map (·.2.2))[i]'(by simpa using hi) from this.symm]
     exact List.set_getElem_self _
   refine⟨by rw[e];exact h.1,λy hy=> ?_⟩
   rcases List.mem_or_eq_of_mem_set hy with hy|hy
   · exact h.2 y hy
   · have:=h.2 _ (List.mem_of_getElem? h2)
     rw[hy];exact this
 | none=>
   refine⟨?_,λy hy=> ?_⟩
   · rw[List.map_append]
     refine List.nodup_append.2 ⟨h.1,by simp,λa ha b hb=> ?_⟩
     simp only[List.map_cons,List.map_nil,List.mem_singleton] at hb
     subst hb
     obtain⟨e,he,rfl⟩:=List.mem_map.1 ha
     have:=h.2 e he
     omega
   · rcases List.mem_append.1 hy with hy|hy
     · have:=h.2 y hy;show _<c+1;omega
     · simp only[List.mem_singleton] at hy;rw[hy];exact Nat.lt_succ_self c
theorem B1:∀{es:List (TV×TV×Nat)} {i:Nat} {e:TV×TV×Nat} (q:Nat),(es.map (·.2.2)).Nodup->es[i]?=some e->sK es (e.2.2:Int) q=some (q+i)
 | [],_,_,_,_,h=>by simp at h
 |(k,v,b)::r,0,e,q,hn,h=>by
  simp only[List.getElem?_cons_zero,Option.some.injEq] at h
  subst h
  simp only[sK,if_true,Nat.add_zero]
 |(k,v,b)::r,i+1,e,q,hn,h=>by
  have h':r[i]?=some e:=by simpa using h
  simp only[List.map_cons,List.nodup_cons] at hn
  have hne:¬((b:Int)=(e.2.2:Int)):=λx=>hn.1 (List.mem_map.2 ⟨e,List.mem_of_getElem? h',by omega⟩)
  simp only[sK,if_neg hne]
  rw[B1 (q+1) hn.2 h',show q+1+i=q+(i+1) by omega]
section
variable {P:jZ}{ty kt et:TypeId}{ti tk te:TI}{K:Tree->Prop}{x:Tree}{es:List (TV×TV×Nat)}
theorem Dn (ht:P.ty ty=some ti)(hd:ti.desc=.map kt et)(hk:P.ty kt=some tk)(he:P.ty et=some te)(hez:te.zero=some (.t (.int .i64 0)))(hK:KEq P kt tk.desc K)(hS:KM K es)(hx:K x)(c:Nat):
 Xs P ty es c (.t x)=some (.t (.cG [.int .i64 (kD es x),.int .i64 (stM es c x)]),nH es c x (kD es x),uE es c x):=by
 have h:=N4 hK hx hS 0
 have h2:=AO hS 0 (x:=x)
 unfold kD nH uE stM
 cases hf:jo es x 0 with
 |none=>
  rw[hf] at h
  simp only[Xs,bw,ht,hd,hk,he,hK.ok x _ hx,if_true,h,hez]
  rfl
 |some p=>
  obtain⟨j,v,b⟩:=p
  rw[hf] at h
  obtain⟨_,_,n,rfl⟩:=h2 j v b hf
  simp only[Xs,bw,ht,hd,hk,he,hK.ok x _ hx,if_true,h,hez]
  rfl
end
theorem Dq {K:Tree->Prop}{x:Tree}{es:List (TV×TV×Nat)}{c:Nat}(hS:KM K es)(hB:KB es c)(n0 n:Int):
 aac (nH es c x n0) (uE es c x) (stM es c x:Nat) (.t (.int .i64 n))=some (nH es c x n,uE es c x):=by
 have hB2:=(hB.up hS x n0).1
 unfold aac
 cases hf:jo es x 0 with
 |some p=>
  obtain⟨i,v,b⟩:=p
  obtain⟨_,h2,_⟩:=AO hS 0 i v b hf
  rw[Nat.sub_zero] at h2
  have hi:=(List.getElem?_eq_some_iff.1 h2).1
  have e1:∀m:Int,nH es c x m=es.set i (.t x,.t (.int .i64 m),b):=λm=>by unfold nH;rw[hf]
  have e2:stM es c x=b:=by unfold stM;rw[hf]
  have h3:(nH es c x n0)[i]?=some (.t x,.t (.int .i64 n0),b):=by rw[e1,List.getElem?_set_self (by simpa using hi)]
  have h4:=B1 0 hB2 h3
  rw[Nat.zero_add] at h4
  rw[e2,h4]
  simp only[h3]
  rw[e1,e1,List.set_set]
 |none=>
  have e1:∀m:Int,nH es c x m=es++[(.t x,.t (.int .i64 m),c)]:=λm=>by unfold nH;rw[hf]
  have e2:stM es c x=c:=by unfold stM;rw[hf]
  have h3:(nH es c x n0)[es.length]?=some (.t x,.t (.int .i64 n0),c):=by rw[e1];simp
  have h4:=B1 0 hB2 h3
  rw[Nat.zero_add] at h4
  rw[e2,h4]
  simp only[h3]
  rw[e1,e1]
  simp
theorem amf {σ:Nm->Option Nm}{K:Tree->Prop}{es:List (TV×TV×Nat)}{c:Nat}(h:KM K es):aP.rn σ (.map es c)=some (.map es c):=by
 have:Yz σ es=some es:=by
  induction es with
  |nil=>rfl
  |cons e r ih=>
   obtain⟨x,n,b,_,rfl⟩:=h e List.mem_cons_self
   simp only[Yz,TV.rn,ih λe he=>h e (List.mem_cons_of_mem _ he)]
 simp only[aP.rn,this,Option.map_some]
end Go.Abs
end
