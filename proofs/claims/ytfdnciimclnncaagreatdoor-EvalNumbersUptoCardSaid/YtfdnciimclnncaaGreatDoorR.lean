/- Whole paths by the kernel: the interpreter asks for what it cannot tell (truths, answers of calls, elements of lists), and what it was told is proved beside. -/
import Derived.Test.YtfdnciimclnncaaGreatDoorQ
set_option linter.unusedVariables false
set_option linter.unusedSimpArgs false
noncomputable section
namespace Go.Abs
open Go
inductive Cl where
 |b (x c:Bool)
 |r (g:FuncId) (atL:List TV) (os:List aP) (x:bh)
 |e (l:List Tree) (i:Nat) (x:Tree)
 |y (s:List UInt8) (i:Nat) (x:UInt8)
 |v (x y:TV)
 |n (o:aP)
 |z
 |u (ag:Bool) (sz:Nat) (es:List Tree)
 |w (ag:Bool) (sz:Nat) (fs:List Tree) (len:Nat) (cs:List TV)
 |l (a b:Nat)
 |pp (p:Prop)
 |po (x:Option TV) (v:TV)
 |pc (x y:List TV)
 |pm (x:Option (List (TV×TV×Nat)×Nat)) (y:List (TV×TV×Nat)) (c:Nat)
 |pe (x:Option (TV×List (TV×TV×Nat)×Nat)) (v:TV) (y:List (TV×TV×Nat)) (c:Nat)
def Cl.holds (ev:bt):Cl->Prop
 |.b p q=>p=q
 |.r g atL os q=>ev g atL os=some q
 |.e k i q=>k[i]?=some q
 |.y k i q=>k[i]?=some q
 |.v p q=>p=q
 |.n o=>∀σ,o.rn σ=some o
 |.z=>True
 |.u ag sz es=>eP ag sz es/\es≠ []
 |.w ag sz fs len cs=>cs=(flat fs).map TV.t/\len=fs.length/\eP ag sz fs
 |.l p q=>p<=q
 |.pp p=>p
 |.po p q=>p=some q
 |.pc p q=>p=q
 |.pm p q d=>p=some (q,d)
 |.pe p k q d=>p=some (k,q,d)
abbrev M (α:Type):=List Cl->Option (α×List Cl×List Cl)
section monad
variable {α β:Type}{ev:bt}
def dO (a:α):M α:=λcl=>some (a,cl,[])
def ja:M α:=λ_=>none
def qF (x:Option α):M α:=λcl=>match x with
 |some a=>some (a,cl,[])
 |none=>none
def br (m:M α)(k:α->M β):M β:=λcl=>match m cl with
 |some (a,cl1,e1)=>(match k a cl1 with
  |some (b,cl2,e2)=>some (b,cl2,e1++e2)
  |none=>none)
 |none=>none
def ZZ (x:Bool):M Bool:=λcl=>match cl with
 |.b _ c::r=>some (c,r,[.b x c])
 |_=>none
def ael (l:List Tree)(i:Nat):M Tree:=λcl=>match cl with
 |.e _ _ x::r=>some (x,r,[.e l i x])
 |_=>none
def aiA (s:List UInt8)(i:Nat):M UInt8:=λcl=>match cl with
 |.y _ _ x::r=>some (x,r,[.y s i x])
 |_=>none
def aiB (g:FuncId)(atL:List TV)(os:List aP):M bh:=λcl=>match cl with
 |.r _ _ _ x::r=>some (x,r,[.r g atL os x])
 |_=>none
def LB (v:TV):M TV:=λcl=>match cl with
 |.v _ y::r=>some (y,r,[.v v y])
 |.z::r=>some (v,r,[.z])
 |_=>none
def Z0 (ag:Bool)(sz:Nat)(es:List Tree):M Bool:=λcl=>match cl with
 |.u _ _ _::r=>some (true,r,[.u ag sz es])
 |.pp _::r=>some (false,r,[.pp (es=[])])
 |_=>none
def Xp (ag:Bool)(sz:Nat)(len:Nat)(cs:List TV):M (List Tree):=λcl=>match cl with
 |.w _ _ fs _ _::r=>some (fs,r,[.w ag sz fs len cs])
 |_=>none
def BJ (a b:Nat):M Unit:=λcl=>match cl with
 |.l _ _::r=>some ((),r,[.l a b])
 |_=>none
def JB (p:Prop):M Unit:=λcl=>match cl with
 |.pp _::r=>some ((),r,[.pp p])
 |_=>none
def Tz (x:Option TV):M TV:=λcl=>match cl with
 |.po _ v::r=>some (v,r,[.po x v])
 |_=>none
def Z1 (x:List TV):M (List TV):=λcl=>match cl with
 |.pc _ y::r=>some (y,r,[.pc x y])
 |_=>none
def aem (x:Option (List (TV×TV×Nat)×Nat)):M (List (TV×TV×Nat)×Nat):=λcl=>match cl with
 |.pm _ y c::r=>some ((y,c),r,[.pm x y c])
 |_=>none
def aiC (x:Option (TV×List (TV×TV×Nat)×Nat)):M (TV×List (TV×TV×Nat)×Nat):=λcl=>match cl with
 |.pe _ v y c::r=>some ((v,y,c),r,[.pe x v y c])
 |_=>none
def dP (ev:bt)(m:M α)(x:Option α):Prop:=∀cl a Fe em,m cl=some (a,Fe,em)->(∀c∈em,c.holds ev)->x=some a
theorem dP.ret (a:α):dP ev (dO a) (some a):=λcl b Fe em h _=>by cases h;rfl
theorem dP.no {x:Option α}:dP ev ja x:=λcl b Fe em h _=>by cases h
theorem dP.opt (x:Option α):dP ev (qF x) x:=λcl b Fe em h _=>by
 cases x with
 |none=>cases h
 |some a=>cases h;rfl
theorem dP.bind {m:M α}{x:Option α}{k:α->M β}{y:α->Option β}(hm:dP ev m x)(hk:∀a,x=some a->dP ev (k a) (y a)):dP ev (br m k) (x.bind y):=λcl b Fe em h he=>by
 unfold br at h;split at h
 ·rename_i a cl1 e1 h1;split at h
  ·rename_i b' cl2 e2 h2;cases h;have hx:=hm _ _ _ _ h1 λc hc=>he c (List.mem_append_left _ hc)
   rw[hx];exact hk a hx _ _ _ _ h2 λc hc=>he c (List.mem_append_right _ hc)
  ·cases h
 ·cases h
theorem dP.of_eq {m:M α}{x y:Option α}(h:dP ev m x)(e:x=y):dP ev m y:=e▸h
theorem JC (x:Bool):dP ev (ZZ x) (some x):=λcl a Fe em h he=>by
 unfold ZZ at h;split at h
 ·cases h;have:=he _ (List.mem_singleton_self _);exact congrArg some this
 ·cases h
theorem Qt (l:List Tree)(i:Nat):dP ev (ael l i) l[i]?:=λcl a Fe em h he=>by
 unfold ael at h;split at h
 ·cases h;exact he _ (List.mem_singleton_self _)
 ·cases h
theorem Z2 (s:List UInt8)(i:Nat):dP ev (aiA s i) s[i]?:=λcl a Fe em h he=>by
 unfold aiA at h;split at h
 ·cases h;exact he _ (List.mem_singleton_self _)
 ·cases h
theorem Z3 (g:FuncId)(atL:List TV)(os:List aP):dP ev (aiB g atL os) (ev g atL os):=λcl a Fe em h he=>by
 unfold aiB at h;split at h
 ·cases h;exact he _ (List.mem_singleton_self _)
 ·cases h
theorem rC (v:TV):dP ev (LB v) (some v):=λcl a Fe em h he=>by
 unfold LB at h;split at h
 ·cases h;have:=he _ (List.mem_singleton_self _);exact congrArg some this
 ·cases h;rfl
 ·cases h
def MP (ev:bt)(m:M α)(P:α->Prop):Prop:=∀cl a Fe em,m cl=some (a,Fe,em)->(∀c∈em,c.holds ev)->P a
theorem MP.ret {a:α}{P:α->Prop}(h:P a):MP ev (dO a) P:=λcl b Fe em hm _=>by cases hm;exact h
theorem MP.no {P:α->Prop}:MP ev ja P:=λcl b Fe em h _=>by cases h
theorem MP.Vi {m:M α}{x:Option α}(h:dP ev m x):MP ev m λa=>x=some a:=h
theorem MP.mono {m:M α}{P Q:α->Prop}(h:MP ev m P)(k:∀a,P a->Q a):MP ev m Q:=λcl a Fe em hm he=>k a (h cl a Fe em hm he)
theorem MP.bind {m:M α}{P:α->Prop}{k:α->M β}{Q:β->Prop}(hm:MP ev m P)(hk:∀a,P a->MP ev (k a) Q):MP ev (br m k) Q:=λcl b Fe em h he=>by
 unfold br at h;split at h
 ·rename_i a cl1 e1 h1;split at h
  ·rename_i b' cl2 e2 h2;cases h;exact hk a (hm _ _ _ _ h1 λc hc=>he c (List.mem_append_left _ hc)) _ _ _ _ h2 λc hc=>he c (List.mem_append_right _ hc)
  ·cases h
 ·cases h
theorem Z4 {ag:Bool}{sz:Nat}{es:List Tree}:MP ev (Z0 ag sz es) λb=>cond b (eP ag sz es/\es≠ []) (es=[]):=λcl a Fe em h he=>by
 unfold Z0 at h;split at h
 ·cases h;exact he _ (List.mem_singleton_self _)
 ·cases h;exact he _ (List.mem_singleton_self _)
 ·cases h
theorem HY {ag:Bool}{sz len:Nat}{cs:List TV}:MP ev (Xp ag sz len cs) λfs=>cs=(flat fs).map TV.t/\len=fs.length/\eP ag sz fs:=λcl a Fe em h he=>by
 unfold Xp at h;split at h
 ·cases h;exact he _ (List.mem_singleton_self _)
 ·cases h
theorem mN {x y:Nat}:MP ev (BJ x y) λ_=>x<=y:=λcl a Fe em h he=>by
 unfold BJ at h;split at h
 ·cases h;exact he _ (List.mem_singleton_self _)
 ·cases h
theorem sP {p:Prop}:MP ev (JB p) λ_=>p:=λcl a Fe em h he=>by
 unfold JB at h;split at h
 ·cases h;exact he _ (List.mem_singleton_self _)
 ·cases h
theorem C2 {x:Option TV}:MP ev (Tz x) λv=>x=some v:=λcl a Fe em h he=>by
 unfold Tz at h;split at h
 ·cases h;exact he _ (List.mem_singleton_self _)
 ·cases h
theorem N3 {x:List TV}:MP ev (Z1 x) λy=>x=y:=λcl a Fe em h he=>by
 unfold Z1 at h;split at h
 ·cases h;exact he _ (List.mem_singleton_self _)
 ·cases h
theorem Vj {x:Option (List (TV×TV×Nat)×Nat)}:MP ev (aem x) λy=>x=some y:=λcl a Fe em h he=>by
 unfold aem at h;split at h
 ·cases h;exact he _ (List.mem_singleton_self _)
 ·cases h
theorem aen {x:Option (TV×List (TV×TV×Nat)×Nat)}:MP ev (aiC x) λy=>x=some y:=λcl a Fe em h he=>by
 unfold aiC at h;split at h
 ·cases h;exact he _ (List.mem_singleton_self _)
 ·cases h
end monad
section ops
variable {ev:bt}{C:ez}{f:FuncId}
def HZ (ops:Array Oper)(slots:List TV)(o:Oper):M Bool:=
 match o.guard with
 |none=>dO true
 | some (j,want)=>match(ops[j]?).bind (·.dst) with
  |none=>dO false
  |some d=>match slots[d]? with
   |some (.t (.bool b))=>br (ZZ b) λc=>dO (c==want)
   |some (.t (.bU []))=>dO false
   |none=>dO false
   |_=>ja
theorem JD (ops:Array Oper)(slots:List TV)(o:Oper):dP ev (HZ ops slots o) (eT ops slots o):=by
 unfold HZ eT;cases o.guard with
 |none=>exact dP.ret _
 | some p=>
  obtain⟨j,want⟩:=p
  simp only
  cases (ops[j]?).bind (·.dst) with
  |none=>exact dP.ret _
  |some d=>
   simp only
   generalize slots[d]?=z
   split
   · exact dP.bind (x:=some _) (y:=λc=>some (c==want)) (JC _) λc _=>dP.ret _
   · exact dP.ret _
   · exact dP.ret _
   · exact dP.no
mutual
def N4:TV->Bool
 |.ref _ _ _=>true
 |.agg cs=>hasRefs cs
 |.bU cs=>hasRefs cs
 |.iface _ v=>N4 v
 |_=>false
def hasRefs:List TV->Bool
 | []=>false
 |v::r=>N4 v||hasRefs r
end
def Vk (g:TV->M (Tree×List Nm)):List TV->M (List Tree×List Nm)
 | []=>dO ([],[])
 |v::r=>br (g v) λp=>br (Vk g r) λq=>dO (p.1::q.1,p.2++q.2)
def Xq (H:Heap):Nat->TV->M (Tree×List Nm)
 |0,v=>qF (sF H 0 v)
 | n+1,v=>match v with
  |.ref k 0 len=>(match H.get k with
   |some (.arr g cg fz cs)=>if 0<cg then br (Xp g.2 cg len cs) λfs=>dO (.sl fs,[k]) else ja
   |_=>ja)
  |.agg cs=>br (Vk (Xq H n) cs) λp=>dO (.agg p.1,p.2)
  |.bU cs=>br (Vk (Xq H n) cs) λp=>dO (.bU p.1,p.2)
  |v=>qF (sF H (n+1) v)
theorem N5 {g:TV->M (Tree×List Nm)}{g':TV->Option (Tree×List Nm)}(h:∀v,MP ev (g v) λp=>g' v=some p):∀(l:List TV),MP ev (Vk g l) λp=>Cq g' l=some p
 | []=>MP.ret rfl
 |v::r=>MP.bind (h v) λp hp=>MP.bind (N5 h r) λq hq=>MP.ret (by simp only[Cq,hp,hq])
theorem N6 (H:Heap):∀(n:Nat) (v:TV),MP ev (Xq H n v) λp=>sF H n v=some p
 |0,v=>MP.Vi (dP.opt _)
 | n + 1,v=>by
   unfold Xq
   split
   · rename_i k len
     split
     · rename_i g cg fz cs hk
       split
       · rename_i hz
         refine MP.bind HY λfs hf=>MP.ret ?_
         obtain⟨rfl,rfl,hu⟩:=hf
         obtain⟨g1,g2⟩:=g
         exact Va hk hu hz rfl
       · exact MP.no
     · exact MP.no
   · rename_i cs
     exact MP.bind (N5 (N6 H n) cs) λp hp=>MP.ret (by simp only[sF,hp])
   · rename_i cs
     exact MP.bind (N5 (N6 H n) cs) λp hp=>MP.ret (by simp only[sF,hp])
   · exact MP.Vi (dP.opt _)
def JE (H:Heap):List TV->M (List TV×List Nm)
 | []=>dO ([],[])
 | v::r=>br (JE H r) λp=>match N4 v with
  |true=>br (Xq H ji v) λq=>dO (.t q.1::p.1,q.2++p.2)
  |false=>dO (match sF H ji v with
   |some (x,k)=>(.t x::p.1,k++p.2)
   |none=>(v::p.1,p.2))
theorem JF (H:Heap):∀(l:List TV),MP ev (JE H l) λp=>oy H l=p
 | []=>MP.ret rfl
 | v ::r=>by
   refine MP.bind (JF H r) λp hp=> ?_
   split
   · refine MP.bind (N6 H ji v) λq hq=>MP.ret ?_
     simp only[oy,hp,hq]
   · refine MP.ret ?_
     simp only[oy,hp]
     cases sF H ji v<;>rfl
def aeo:aP->Bool
 |.arr _ _ _ _=>true
 |.map _ _=>true
 |_=>false
def aep (o:aP):M aP:=λcl=>match cl with
 |.n _::r=>some (o,r,[.n o])
 |_=>none
theorem Qu {o:aP}:MP ev (aep o) λo'=>o'=o/\∀σ,o.rn σ=some o:=λcl a Fe em h he=>by
 unfold aep at h;split at h
 ·cases h;exact⟨rfl,he _ (List.mem_singleton_self _)⟩
 ·cases h
def rnO (σ:Nm->Option Nm)(o:aP):M aP:=match aeo o with
 |true=>aep o
 |false=>qF (o.rn σ)
theorem TA {σ:Nm->Option Nm}{o:aP}:MP ev (rnO σ o) λo'=>o.rn σ=some o':=by
 unfold rnO;split
 ·exact Qu.mono λo' h=>by rw[h.1];exact h.2 σ
 ·exact MP.Vi (dP.opt _)
mutual
theorem qG:∀{v v':TV},v.rn (λ_=>none)=some v'->v.names=[]
 |.t _,_,_=>rfl
 |.any,_,_=>rfl
 |.bW,_,_=>rfl
 |.qd _,_,_=>rfl
 |.lR _ _,_,_=>rfl
 |.ref _ _ _,_,h=>by simp[TV.rn] at h
 |.ptr _ _,_,h=>by simp[TV.rn] at h
 |.lQ _ _ _,_,h=>by simp[TV.rn] at h
 |.map _,_,h=>by simp[TV.rn] at h
 | .agg cs,_,h=>by
   simp only[TV.rn,Option.map_eq_some_iff] at h
   obtain⟨a,h,_⟩:=h
   simp only[TV.names,mC h]
 | .bU cs,_,h=>by
   simp only[TV.rn,Option.map_eq_some_iff] at h
   obtain⟨a,h,_⟩:=h
   simp only[TV.names,mC h]
 | .iface _ v,_,h=>by
   simp only[TV.rn,Option.map_eq_some_iff] at h
   obtain⟨a,h,_⟩:=h
   simp only[TV.names,qG h]
 | .fn _ fs cs,_,h=>by
   simp only[TV.rn] at h
   split at h
   · rename_i h1 h2
     simp only[TV.names,mC h1,mC h2,List.append_nil]
   · cases h
theorem mC:∀{l l':List TV},TV.yN (λ_=>none) l=some l'->TV.kV l=[]
 | [],_,_=>rfl
 | v ::r,_,h=>by
   simp only[TV.yN] at h
   split at h
   · rename_i h1 h2
     simp only[TV.kV,qG h1,mC h2,List.append_nil]
   · cases h
end
theorem GD:∀{es es':List (TV×TV×Nat)},YE (λ_=>none) es=some es'->Ng es=[]
 | [],_,_=>rfl
 | (k,v,b)::r,_,h=>by
   simp only[YE] at h
   split at h
   · rename_i h1 h2 h3
     simp only[Ng,qG h1,qG h2,GD h3,List.append_nil]
   · cases h
theorem aP.qG {o:aP}(h:o.rn (λ_=>none)=some o):o.names=[]:=by
 cases o with
 |cells ty cs=>
  simp only[aP.rn,Option.map_eq_some_iff] at h
  obtain⟨a,h,_⟩:=h
  exact mC h
 |arr g e fz cs=>
  simp only[aP.rn,Option.map_eq_some_iff] at h
  obtain⟨a,h,_⟩:=h
  exact mC h
 |map es c=>
  simp only[aP.rn,Option.map_eq_some_iff] at h
  obtain⟨a,h,_⟩:=h
  exact GD h
 |dead=>rfl
def N7 (o:aP):M (List Nm):=match aeo o with
 |true=>br (aep o) λ_=>dO []
 |false=>dO o.names
def aht (o:aP):Prop:=aeo o=true->∀σ,o.rn σ=some o
theorem Qv {o:aP}:MP ev (N7 o) λl=>o.names=l/\aht o:=by
 unfold N7;split
 ·exact MP.bind Qu λ_ h=>MP.ret ⟨aP.qG (h.2 _),λ_=>h.2⟩
 ·rename_i hb;exact MP.ret ⟨rfl,λh=>by rw[hb] at h;cases h⟩
def N8:List aP->M (List Nm)
 | []=>dO []
 |o::r=>br (N7 o) λl=>br (N8 r) λl2=>dO (l++l2)
theorem JG:∀{os:List aP},MP ev (N8 os) λl=>os.flatMap aP.names=l
 | []=>MP.ret rfl
 |o::r=>MP.bind Qv λl h=>MP.bind JG λl2 h2=>MP.ret (by rw[List.flatMap_cons,h.1,h2])
def zu (H:Heap):Nat->List Nm->List Nm->M (List Nm)
 |_,done,[]=>dO done
 |0,_,_=>ja
 | n+1,done,k::todo=>match decide (k∈done) with
  |true=>zu H n done todo
  |false=>(match H.get k with
   |some o=>br (N7 o) λl=>zu H n (done++[k]) (todo++l)
   |none=>ja)
def TB (H:Heap)(k:Nm):Prop:=∀o,H.get k=some o->aht o
theorem wK {H:Heap}:∀(n:Nat) (done todo:List Nm),MP ev (zu H n done todo) λS=>reach H n done todo=some S/\((∀k∈done,TB H k)->∀k∈S,TB H k)
 |0,done,[]=>MP.ret ⟨rfl,λh=>h⟩
 |n+1,done,[]=>MP.ret ⟨rfl,λh=>h⟩
 |0,_,_::_=>MP.no
 | n + 1,done,k::todo=>by
   unfold zu reach
   split
   · rename_i hd
     rw[if_pos (of_decide_eq_true hd)]
     exact wK n done todo
   · rename_i hd
     rw[if_neg (of_decide_eq_false hd)]
     split
     · rename_i o ho
       refine MP.bind Qv λl hl=>(wK n (done++[k]) (todo++l)).mono λS hS=>⟨by simp only[ho,hl.1];exact hS.1,λh=>hS.2 λk' hk'=> ?_⟩
       rcases List.mem_append.1 hk' with hk'|hk'
       · exact h k' hk'
       · rw[List.mem_singleton.1 hk']
         intro o' ho'
         rw[ho] at ho'
         cases ho'
         exact hl.2
     · exact MP.no
def rnB (σ:Nm->Option Nm)(o:aP):Option aP:=match aeo o with
 |true=>some o
 |false=>o.rn σ
def H6 (H:Heap)(S:List Nm):List Nm->Option (List aP)
 | []=>some []
 |k::r=>match H.get k,H6 H S r with
  |some o,some os=>(rnB (LR S) o).map (· ::os)
  |_,_=>none
theorem JH {H:Heap}{S:List Nm}:∀{l:List Nm},(∀k∈l,TB H k)->H6 H S l=jM H S l
 | [],_=>rfl
 | k::r,h=>by
  simp only[H6,jM,JH λk' hk'=>h k' (List.mem_cons_of_mem _ hk')]
  cases ho:H.get k with
  |none=>rfl
  | some o=>
   have e:rnB (LR S) o=o.rn (LR S):=by
    unfold rnB
    split
    · rename_i hb;exact(h k List.mem_cons_self o ho hb _).symm
    · rfl
   cases jM H S r with
   |none=>rfl
   |some os=>simp only[e]
def Z5 (H:Heap)(keep:Bool)(args:List TV):M (List TV×List Nm):=match keep with
 |true=>dO (args,[])
 |false=>JE H args
theorem Z6 {H:Heap}{keep:Bool}{args:List TV}:MP ev (Z5 H keep args) λp=>Pt H keep args=p:=by
 cases keep with
 |true=>exact MP.ret rfl
 |false=>exact JF H args
def Mp (H1:Heap)(args:List TV):M (List Nm×List TV×List aP):=br (zu H1 iI [] (TV.kV args)) λS=>
 if S.Nodup then(match TV.yN (LR S) args,H6 H1 S S with
  |some atL,some os=>dO (S,atL,os)
  |_,_=>ja) else ja
theorem Qw {H1:Heap}{args:List TV}:MP ev (Mp H1 args) λq=>reach H1 iI [] (TV.kV args)=some q.1/\q.1.Nodup/\TV.yN (LR q.1) args=some q.2.1/\jM H1 q.1 q.1=some q.2.2:=
 MP.bind (wK _ _ _) λS hS=>by
  split
  ·rename_i hn;split
   ·rename_i atL os h1 h2;exact MP.ret ⟨hS.1,hn,h1,by rw[← JH (hS.2 λk hk=>by cases hk)];exact h2⟩
   ·exact MP.no
  ·exact MP.no
def JI (S:List Nm)(t:Nat):List Nm->List aP->M Heap
 | [],[]=>dO []
 |k::r,o::os=>br (rnO (nH S t) o) λo=>br (JI S t r os) λh=>dO ((k,o)::h)
 |_,_=>ja
theorem JJ {S:List Nm}{t:Nat}:∀{l:List Nm} {os:List aP},MP ev (JI S t l os) λh=>ko S t l os=some h
 | [],[]=>MP.ret rfl
 |k::r,o::os=>MP.bind TA λo' h1=>MP.bind JJ λh h2=>MP.ret (by simp only[ko,h1,h2])
 | [],_::_=>MP.no
 |_::_,[]=>MP.no
def C3 (S:List Nm)(t:Nat):Heap->M Heap
 | []=>dO []
 |(k,o)::r=>match nH S t k with
  |some k=>br (rnO (nH S t) o) λo=>br (C3 S t r) λh=>dO ((k,o)::h)
  |none=>ja
theorem JK {S:List Nm}{t:Nat}:∀{l:Heap},MP ev (C3 S t l) λh=>ku S t l=some h
 | []=>MP.ret rfl
 | (k,o)::r=>by
   unfold C3
   split
   · rename_i k' hk
     exact MP.bind TA λo' h1=>MP.bind JK λh h2=>MP.ret (by simp only[ku,hk,h1,h2])
   · exact MP.no
def Z7 (H:Heap)(g:FuncId)(args:List TV)(t:Nat)(keep:Bool):M tD:=br (Z5 H keep args) λp=>br (Mp (H.eY (eO H p.2)) p.1) λq=>br (aiB g q.2.1 q.2.2) λx=>match x with
 |.ret v os' news=>br (qF (v.rn (nH q.1 t))) λv=>br (JI q.1 t q.1 os') λh=>br (C3 q.1 t news) λh'=>dO (.val v ((eO H p.2).filter (λr=> !(q.1.contains r.1))++h++h'))
 |.panic v os'=>br (qF (v.rn (nH q.1 t))) λv=>br (qF (oz q.1 t q.1 os')) λh=>dO (.panic v ((eO H p.2).filter (λr=> !(q.1.contains r.1))++h.1) h.2)
theorem Qx (H:Heap)(g:FuncId)(args:List TV)(t:Nat)(keep:Bool):dP ev (Z7 H g args t keep) (uX ev H g args t keep):=by
 refine MP.bind Z6 λp hp=>MP.bind Qw λq hq=>MP.bind (MP.Vi (Z3 g q.2.1 q.2.2)) λx hx=> ?_
 obtain⟨h1,h2,h3,h4⟩:=hq;obtain⟨p1,p2⟩:=p;simp only at h1 h3 h4;split
 ·refine MP.bind (MP.Vi (dP.opt _)) λv h5=>MP.bind JJ λh h6=>MP.bind JK λh' h7=>MP.ret ?_
  unfold uX;rw[hp];simp only[h1,if_pos h2,h3,h4,hx,h5,h6,h7]
 ·refine MP.bind (MP.Vi (dP.opt _)) λv h5=>MP.bind (MP.Vi (dP.opt _)) λh h6=>MP.ret ?_
  unfold uX;rw[hp];simp only[h1,if_pos h2,h3,h4,hx,h5,h6]
def N9:TV->Option Nat
 |.t (.int _ (.ofNat n))=>some n
 |_=>none
theorem xS {v:TV}{n:Nat}(h:N9 v=some n):iA v=some n:=by
 unfold N9 at h;split at h
 ·cases h;simp[iA]
 ·cases h
def xT (P:j3)(H:Heap)(t:TypeId)(x i:TV):M TV:=
 match bx P t,N9 i with
 | some ti,some n=>(match ti.desc,x with
  |.slice elem,.t (.sl es)=>(match bx P elem with
   |some te=>br (ael es n) λe=>qF (if e.cells.length=te.size then some (.lR e.cells 0) else none)
   |none=>ja)
  |.slice elem,.qd es=>(match bx P elem with
   |some te=>br (ael es n) λe=>qF (if e.cells.length=te.size then some (.lR e.cells 0) else none)
   |none=>ja)
  |.slice elem,.ref k 0 len=>(match bx P elem,H.get k with
   |some te,some (.arr g cg _ cs)=>if te.size=cg/\0<cg then br (Xp g.2 cg len cs) λ_=>br (BJ (n+1) len) λ_=>dO (.lQ k cs.length (n*cg)) else ja
   |_,_=>ja)
  |_,_=>qF (fA P H t x i))
 |_,_=>qF (fA P H t x i)
theorem A8 (P:j3)(H:Heap)(t:TypeId)(x i:TV):dP ev (xT P H t x i) (fA P H t x i):=by
 unfold xT;split
 ·rename_i ti n ht hn;have hi:=xS hn;split
  ·rename_i elem es hd;split
   ·rename_i te hte;refine dP.of_eq (dP.bind (Qt es n) λe _=>dP.opt _) ?_;unfold fA;rw[ht,hi];simp only[hd,hte];cases es[n]? <;>rfl
   ·exact dP.no
  ·rename_i elem es hd;split
   ·rename_i te hte;refine dP.of_eq (dP.bind (Qt es n) λe _=>dP.opt _) ?_;unfold fA;rw[ht,hi];simp only[hd,hte];cases es[n]? <;>rfl
   ·exact dP.no
  ·rename_i elem k len hd;split
   ·rename_i te g cg fz cs hte hk;split
    ·rename_i hc;obtain⟨hc,hz⟩:=hc;refine MP.bind HY λfs hf=>MP.bind mN λ_ hl=>MP.ret ?_
     obtain⟨rfl,rfl,hu⟩:=hf;have h2:kB H k 0 fs.length=some (g,cg,fz,(flat fs).map .t):=by
      unfold kB;simp only[hk];rw[if_pos ⟨hz,by rw[Nat.zero_add,hu.length]⟩]
     unfold fA;rw[ht,hi];simp only[hd,hte,h2,hc,Nat.zero_add];rw[if_pos ⟨trivial,hl⟩]
    ·exact MP.no
   ·exact MP.no
  ·exact dP.opt _
 ·exact dP.opt _
def Z8 (P:j3)(H:Heap)(t:TypeId)(a:TV):M TV:=match a with
 |.lQ k m o=>(match bx P t,H.get k with
  |some ti,some (.arr _ _ _ cs)=>br (JB (cs.length=m)) λ_=>Tz (partT ti.agg ti.size cs o)
  |_,_=>ja)
 |a=>qF (loadT P H t a)
theorem Z9 (P:j3)(H:Heap)(t:TypeId)(a:TV):dP ev (Z8 P H t a) (loadT P H t a):=by
 unfold Z8;split
 ·rename_i k m o;split
  ·rename_i ti g cg fz cs ht hk;refine MP.bind sP λ_ hm=>C2.mono λv hv=> ?_
   subst hm;simp only[loadT,ht,xo,hk,if_true];exact hv
  ·exact MP.no
 ·exact dP.opt _
def TC (P:j3)(H:Heap)(t:TypeId)(a x:TV):M (List (Nm×aP)):=match a with
 | .lQ k m o=>(match bx P t,H.get k with
  |some ti,some (.arr g cg false cs)=>(match decide (x.cells.length=ti.size)&&x.cells.all TV.leaf with
   |true=>br (JB (cs.length=m)) λ_=>br (BJ (o+ti.size) cs.length) λ_=>br (Z1 (dL cs o x.cells)) λcs'=>dO [(k,.arr g cg false cs')]
   |false=>ja)
  |_,_=>ja)
 |a=>qF (storeT P H t a x)
theorem Xr (P:j3)(H:Heap)(t:TypeId)(a x:TV):dP ev (TC P H t a x) (storeT P H t a x):=by
 unfold TC;split
 ·rename_i k m o;split
  ·rename_i ti g cg cs ht hk;split
   ·rename_i hb;refine MP.bind sP λ_ hm=>MP.bind mN λ_ hl=>MP.bind N3 λcs' hc=>MP.ret ?_
    subst hm hc;exact sta ht hk hb hl
   ·exact MP.no
  ·exact MP.no
 ·exact dP.opt _
def Oa (H:Heap)(a:TV)(n:Nat):M TV:=match a with
 |.lQ k m o=>(match H.get k with
  |some (.arr _ _ _ cs)=>br (JB (cs.length=m)) λ_=>dO (.lQ k m (o+n))
  |_=>ja)
 |a=>qF (tq H a n)
theorem TD (H:Heap)(a:TV)(n:Nat):dP ev (Oa H a n) (tq H a n):=by
 unfold Oa;split
 ·rename_i k m o;split
  ·rename_i g cg fz cs hk;refine MP.bind sP λ_ hm=>MP.ret ?_
   simp only[tq,hk,if_pos hm]
  ·exact MP.no
 ·exact dP.opt _
def JL (P:j3)(H:Heap)(s i:Nat)(a:TV):M TV:=match pH P s i with
 |some off=>Oa H a off
 |none=>ja
def Qy (o:Option TV)(d:Nat):Option Nat:=match o with
 |none=>some d
 |some v=>N9 v
theorem C4 {o:Option TV}{d n:Nat}(h:Qy o d=some n):gj o d=some n:=by
 cases o with
 |none=>exact h
 |some v=>exact xS h
theorem Mq {ag:Bool}{sz:Nat}{fs:List Tree}(hu:eP ag sz fs)(h:Nat):((flat fs).map TV.t).take (h*sz)=(flat (fs.take h)).map TV.t:=by
 rw[← List.map_take];congr 1;induction h generalizing fs with
 |zero=>simp[flat]
 | succ n ih=>
  cases fs with
  |nil=>simp[flat]
  |cons e r=>
   have he:e.cells.length=sz:=(hu e List.mem_cons_self).1
   have e1:flat (e::r)=e.cells++flat r:=by simp[flat]
   have e2:flat ((e::r).take (n+1))=e.cells++flat (r.take n):=by simp[flat]
   rw[e1,e2,Nat.succ_mul,Nat.add_comm,← he,List.take_length_add_append,he,ih λx hx=>hu x (List.mem_cons_of_mem _ hx)]
def JM (b:Bool)(P:j3)(H:Heap)(nm:Nm)(t:TypeId)(x:TV)(lo hi mx:Option TV):M tD:=
 let old:M tD:=qF (match A0 b P H nm t x lo hi mx with
  |some r=>some (.val r.1 r.2)
  |none=>match tB P H t x lo hi mx with
   |some (r,ks)=>some (.val r (eO H ks))
   |none=>none)
 match x,mx with
 | .t (.str s),none=>(match bx P t,Qy lo 0,Qy hi s.length with
  |some ti,some l,some h=>(match ti.desc with
   |.string=>br (BJ l h) λ_=>br (BJ h s.length) λ_=>dO (.val (.t (.str ((s.take h).drop l))) [])
   |_=>ja)
  |_,_,_=>ja)
 | .t (.sl es),none=>(match bx P t,Qy lo 0,Qy hi es.length with
  | some ti,some l,some h=>(match ti.desc with
   |.slice elem=>(match bx P elem with
    |some te=>br (JB (kT te.size es=true)) λ_=>br (BJ l h) λ_=>br (BJ h es.length) λ_=>dO (.val (.t (.sl ((es.take h).drop l))) [])
    |none=>ja)
   |_=>ja)
  |_,_,_=>ja)
 | .ref k 0 len,none=>(match b,lo,hi.bind N9 with
  | true,none,some h=>(match bx P t,H.get k with
   | some ti,some (.arr g cg false cs)=>(match ti.desc with
    |.slice elem=>(match bx P elem with
     |some te=>if te.size=cg/\0<cg then br (Xp g.2 cg len cs) λfs=>br (BJ h len) λ_=>dO (.val (.ref nm 0 h) [(k,.dead),(nm,.arr g cg false ((flat (fs.take h)).map .t))]) else ja
     |none=>ja)
    |_=>ja)
   |_,_=>ja)
  |_,_,_=>old)
 |_,_=>old
theorem Ff        (b:Bool)(P:j3)(H:Heap)(nm:Nm)(t:TypeId)(x:TV)(lo hi mx:Option TV):dP ev (JM b P H nm t x lo hi mx) (match A0 b P H nm t x lo hi mx with
 |some r=>some (.val r.1 r.2)
 | none=>match tB P H t x lo hi mx with
   |some (r,ks)=>some (.val r (eO H ks))
   |none=>none):=by
 unfold JM
 simp only
 split
 ·rename_i s;split
  ·rename_i ti l h ht hl hh;have hl':=C4 hl;have I4:=C4 hh;split
   ·rename_i hd;refine MP.bind mN λ_ h1=>MP.bind mN λ_ h2=>MP.ret ?_
    rw[Nc];simp only[tB,ht,hd,hl',I4,if_pos (And.intro h1 h2)];rfl
   ·exact MP.no
  ·exact MP.no
 ·rename_i es;split
  ·rename_i ti l h ht hl hh;have hl':=C4 hl;have I4:=C4 hh;split
   ·rename_i elem hd;split
    ·rename_i te hte;refine MP.bind sP λ_ h0=>MP.bind mN λ_ h1=>MP.bind mN λ_ h2=>MP.ret ?_
     rw[Nc];have e1:Bp H (.t (.sl es))=some es.length:=rfl;have e2:gj none es.length=some es.length:=rfl;simp only[tB,ht,hd,hte,e1,e2,hl',I4,Option.isNone_none,Bool.true_or,if_pos (And.intro h1 (And.intro h2 (Nat.le_refl _))),h0,if_true,Option.isSome_none,Bool.false_and,Wy,Bool.false_eq_true,if_false];rfl
    ·exact MP.no
   ·exact MP.no
  ·exact MP.no
 ·rename_i k len;split
  ·rename_i h hh;split
   ·rename_i ti g cg cs ht hk;split
    ·rename_i elem hd;split
     ·rename_i te hte;split
      ·rename_i hc;refine MP.bind HY λfs hf=>MP.bind mN λ_ h1=>MP.ret ?_
       obtain⟨rfl,rfl,hu⟩:=hf;cases hi with
       |none=>cases hh
       | some hv=>
         have I4:=xS hh
         have h2:kB H k 0 fs.length=some (g,cg,false,(flat fs).map .t):=by
           unfold kB
           simp only[hk]
           rw[if_pos ⟨hc.2,by rw[Nat.zero_add,hu.length]⟩]
         simp only[A0,if_true,Bq,ht,I4,h2,hd,hte,if_pos (And.intro hc.1 h1),Mq hu]
      ·exact MP.no
     ·exact MP.no
    ·exact MP.no
   ·exact MP.no
  ·exact dP.opt _
 ·exact dP.opt _
def A9 (P:j3)(t:TypeId)(es:List (TV×TV×Nat))(k:TV)(ok:Bool):Option TV:=
 match bx P t with
 | some ti=>match ti.desc with
  | .map kt et=>match bx P kt,bx P et with
   | some tk,some te=>
    if yS P es.isEmpty kt k=true then
     match ox P kt tk.desc k es 0,te.zero with
     |some (some (_,v,_)),_=>some (if ok then sD [v,.t (.bool true)] else v)
     |some none,some z=>some (if ok then sD [z,.t (.bool false)] else z)
     |_,_=>none
    else none
   |_,_=>none
  |_=>none
 |none=>none
theorem aac {P:j3}{H:Heap}{t:TypeId}{k:TV}{ok:Bool}{m:Nm}{es:List (TV×TV×Nat)}{c:Nat}(hk:H.get m=some (.map es c)):xu P H t (.map m) k ok=A9 P t es k ok:=by
 unfold xu A9;simp only[mapOf,hk];cases bx P t with
 |none=>rfl
 |some ti=>
  simp only
  cases ti.desc<;>try rfl
  rename_i kt et
  simp only
  cases bx P kt<;>cases bx P et<;>rfl
def aad (P:j3)(H:Heap)(t:TypeId)(x k:TV)(ok:Bool):M TV:=match x with
 |.map m=>(match H.get m with
  |some (.map es _)=>Tz (A9 P t es k ok)
  |_=>ja)
 |x=>qF (xu P H t x k ok)
theorem aae (P:j3)(H:Heap)(t:TypeId)(x k:TV)(ok:Bool):dP ev (aad P H t x k ok) (xu P H t x k ok):=by
 unfold aad;split
 ·split
  ·rename_i hk;refine C2.mono λv hv=> ?_
   rw[aac hk];exact hv
  ·exact MP.no
 ·exact dP.opt _
def aiD (P:j3)(t:TypeId)(es:List (TV×TV×Nat))(c:Nat)(k v:TV):Option (List (TV×TV×Nat)×Nat):=
 match bx P t with
 | some ti=>match ti.desc with
  | .map kt _=>match bx P kt with
   | some tk=>
    if yS P false kt k=true then
     match ox P kt tk.desc k es 0 with
     |some (some (i,_,b))=>some (es.set i (k,v,b),c)
     |some none=>some (es++[(k,v,c)],c+1)
     |none=>none
    else none
   |none=>none
  |_=>none
 |none=>none
theorem alP {P:j3}{H:Heap}{t:TypeId}{k v:TV}{m:Nm}{es:List (TV×TV×Nat)}{c:Nat}(hk:H.get m=some (.map es c)){p:List (TV×TV×Nat)×Nat}(h:aiD P t es c k v=some p):kU P H t (.map m) k v=some [(m,.map p.1 p.2)]:=by
 unfold aiD at h;split at h<;>try (cases h;done)
 rename_i ti ht;split at h<;>try (cases h;done)
 rename_i kt et hd;split at h<;>try (cases h;done)
 rename_i tk U3;split at h<;>try (cases h;done)
 rename_i hc;unfold kU;simp only[ht,hd,hk,U3,if_pos hc];split at h<;>cases h<;>simp_all
def Xs (P:j3)(t:TypeId)(es:List (TV×TV×Nat))(c:Nat)(k:TV):Option (TV×List (TV×TV×Nat)×Nat):=
 match bx P t with
 | some ti=>match ti.desc with
  | .map kt et=>match bx P kt,bx P et with
   | some tk,some te=>
    if yS P false kt k=true then
     match ox P kt tk.desc k es 0,te.zero with
     |some (some (i,v,b)),_=>some (sD [v,.t (.int .i64 b)],es.set i (k,v,b),c)
     |some none,some z=>some (sD [z,.t (.int .i64 c)],es++[(k,z,c)],c+1)
     |_,_=>none
    else none
   |_,_=>none
  |_=>none
 |none=>none
theorem alQ {P:j3}{H:Heap}{t:TypeId}{k:TV}{m:Nm}{es:List (TV×TV×Nat)}{c:Nat}(hk:H.get m=some (.map es c)){p:TV×List (TV×TV×Nat)×Nat}(h:Xs P t es c k=some p):nV P H t (.map m) k=some (p.1,[(m,.map p.2.1 p.2.2)]):=by
 unfold Xs at h;split at h<;>try (cases h;done)
 rename_i ti ht;split at h<;>try (cases h;done)
 rename_i kt et hd;split at h<;>try (cases h;done)
 rename_i tk te U3 hte;split at h<;>try (cases h;done)
 rename_i hc;unfold nV;simp only[ht,hd,hk,U3,hte,if_pos hc];split at h<;>cases h<;>simp_all
def aiE (P:j3)(H:Heap)(t:TypeId)(x k:TV):M tD:=match x with
 |.map m=>(match H.get m with
  |some (.map es c)=>br (aiC (Xs P t es c k)) λp=>dO (.val p.1 [(m,.map p.2.1 p.2.2)])
  |_=>ja)
 |x=>qF ((nV P H t x k).map λp=>.val p.1 p.2)
theorem aeq (P:j3)(H:Heap)(t:TypeId)(x k:TV):dP ev (aiE P H t x k) ((nV P H t x k).map λp=>.val p.1 p.2):=by
 unfold aiE;split
 ·split
  ·rename_i hk;refine MP.bind aen λp hp=>MP.ret ?_
   rw[alQ hk hp];rfl
  ·exact MP.no
 ·exact dP.opt _
def aaf (es:List (TV×TV×Nat))(c:Nat)(n:Int)(v:TV):Option (List (TV×TV×Nat)×Nat):=match sK es n 0 with
 |some i=>match es[i]? with
  |some (k,_,b)=>some (es.set i (k,v,b),c)
  |none=>none
 |none=>none
theorem alR {H:Heap}{v:TV}{kk:IntKind}{n:Int}{m:Nm}{es:List (TV×TV×Nat)}{c:Nat}(hk:H.get m=some (.map es c)){p:List (TV×TV×Nat)×Nat}(h:aaf es c n v=some p):kK H (.map m) (.t (.int kk n)) v=some [(m,.map p.1 p.2)]:=by
 unfold aaf at h;split at h<;>try (cases h;done)
 rename_i i hi;split at h<;>try (cases h;done)
 rename_i k w b he;cases h;unfold kK;simp only[hk,hi,he]
def aiF (H:Heap)(x s v:TV):M (List (Nm×aP)):=match x,s with
 |.map m,.t (.int _ n)=>(match H.get m with
  |some (.map es c)=>br (aem (aaf es c n v)) λp=>dO [(m,.map p.1 p.2)]
  |_=>ja)
 |x,s=>qF (kK H x s v)
theorem aer (H:Heap)(x s v:TV):dP ev (aiF H x s v) (kK H x s v):=by
 unfold aiF;split
 ·split
  ·rename_i hk;refine MP.bind Vj λp hp=>MP.ret ?_
   exact alR hk hp
  ·exact MP.no
 ·exact dP.opt _
section
variable {P:j3}{ty kt et:TypeId}{ti tk te:TI}{s:List UInt8}{es:List (TV×TV×Nat)}
end
def aiG (P:j3)(H:Heap)(t:TypeId)(x k v:TV):M (List (Nm×aP)):=match x with
 |.map m=>(match H.get m with
  |some (.map es c)=>br (aem (aiD P t es c k v)) λp=>dO [(m,.map p.1 p.2)]
  |_=>ja)
 |x=>qF (kU P H t x k v)
theorem aes (P:j3)(H:Heap)(t:TypeId)(x k v:TV):dP ev (aiG P H t x k v) (kU P H t x k v):=by
 unfold aiG;split
 ·split
  ·rename_i hk;refine MP.bind Vj λp hp=>MP.ret ?_
   exact alP hk hp
  ·exact MP.no
 ·exact dP.opt _
def TE (P:j3)(t:TypeId)(x i:TV):M TV:=
 match bx P t,N9 i with
 |some ti,some n=>(match ti.desc,x with
  |.string,.t (.str s)=>br (aiA s n) λb=>dO (.t (.int .u8 b.toNat))
  |_,_=>qF (tA P t x i))
 |_,_=>qF (tA P t x i)
theorem Xt (P:j3)(t:TypeId)(x i:TV):dP ev (TE P t x i) (tA P t x i):=by
 unfold TE;split
 ·rename_i ti n ht hn;have hi:=xS hn;split
  ·rename_i s hd;refine dP.of_eq (dP.bind (y:=λb=>some (.t (.int .u8 b.toNat))) (Z2 s n) λe _=>dP.ret _) ?_;unfold tA;rw[ht,hi];simp only[hd];cases s[n]? <;>rfl
  ·exact dP.opt _
 ·exact dP.opt _
def Xu (m:M TV):M tD:=br m λv=>dO (.val v [])
theorem H7 {m:M TV}{x:Option TV}(h:dP ev m x):dP ev (Xu m) (match Cj x with
 |some (v,u)=>some (.val v u)
 |none=>none):=by
 refine dP.of_eq (dP.bind (y:=λv=>some (.val v [])) h λa _=>dP.ret _) ?_
 cases x<;>rfl
def aiH:TV->Option (List Tree)
 |.t (.sl es)=>some es
 |.qd es=>some es
 |_=>none
theorem aet {v:TV}{es:List Tree}(h:aiH v=some es):Vb v es:=by
 unfold aiH at h;split at h
 ·cases h;exact .inl rfl
 ·cases h;exact .inr rfl
 ·cases h
def aiI ( P:j3)(nm:Nm)(H:Heap)(st xt:TypeId)(s x:TV):M (TV×List (Nm×aP)):=
 match bx P st with
 | some ti=>(match ti.desc with
  | .slice elem=>(match bx P elem,aiH x with
   | some te,some es=>(match te.zero with
    | some z=>if te.size≠0/\z.cells.length=te.size/\te.bytes≠0/\st=xt then
      br (Z0 te.agg te.size es) λb=>match b with
      |false=>qF (lV P nm H st xt s (.t (.sl [])))
      | true=>(match s with
       |.bW=>br (BJ (es.length*te.bytes) gI) λ_=>dO (.ref nm 0 es.length,[(nm,.arr (elem,te.agg) te.size false ((flat es).map .t))])
       |.qd []=>br (BJ (es.length*te.bytes) gI) λ_=>dO (.ref nm 0 es.length,[(nm,.arr (elem,te.agg) te.size false ((flat es).map .t))])
       |.ref k 0 len=>(match H.get k with
        | some (.arr g cg fz cs)=>if g=(elem,te.agg)/\cg=te.size then br (Xp te.agg te.size len cs) λfs=>br (BJ ((len+es.length) *te.bytes) gI) λ_=>dO (.ref k 0 (fs++es).length,[(k,.arr (elem,te.agg) te.size fz ((flat (fs++es)).map .t))])
          else ja
        |_=>ja)
       |_=>ja)
     else ja
    |none=>ja)
   |_,_=>ja)
  |_=>ja)
 |none=>ja
theorem aeu     (C:ez)(nm:Nm)(H:Heap)(st xt:TypeId)(s x:TV):dP ev (aiI C.P nm H st xt s x) (lV C.P nm H st xt s x):=by
 unfold aiI;split
 ·rename_i ti ht;split
  ·rename_i elem hd;split
   ·rename_i te es hte hx;have hv:=aet hx;split
    ·rename_i z hz;split
     ·rename_i hc;obtain⟨c1,c2,c3,rfl⟩:=hc;have hA:Ml C.P st elem te:=⟨⟨ti,ht,hd⟩,hte,z,hz,c1,c2,c3⟩;refine MP.bind Z4 λb hu=> ?_
      cases b with
      | false=>
        obtain rfl:es=[]:=hu
        have e:lV C.P nm H st st s x=lV C.P nm H st st s (.t (.sl [])):=by
          rcases hv with rfl|rfl<;>rfl
        rw[e]
        exact MP.Vi (dP.opt _)
      |true=>
      obtain⟨hu,hne⟩:=hu;simp only;split
      ·refine MP.bind mN λ_ hb=>MP.ret ?_
       exact vk hA (NP hv hu) (by simpa using hne) hu.Av (by simp only[if_pos hb])
      ·refine MP.bind mN λ_ hb=>MP.ret ?_
       refine vk hA (NP hv hu) (by simpa using hne) hu.Av ?_;have e:gH H te.agg te.size (.qd [])=some (0,[]):=rfl;simp only[e,Nat.zero_add,if_pos hb,List.nil_append]
      ·rename_i k len;split
       ·rename_i g cg fz cs hk;split
        ·rename_i hg;obtain⟨rfl,rfl⟩:=hg;refine MP.bind HY λfs hf=>MP.bind mN λ_ hb=>MP.ret ?_
         obtain⟨rfl,rfl,hf⟩:=hf;refine vk hA (NP hv hu) (by simpa using hne) hu.Av ?_;have h2:kB H k 0 fs.length=some ((elem,te.agg),te.size,fz,(flat fs).map .t):=by
          unfold kB;simp only[hk];rw[if_pos ⟨by omega,by rw[Nat.zero_add,hf.length]⟩]
         simp only[h2,hb,and_self,if_true,flat,List.flatMap_append,List.map_append,List.length_append]
        ·exact MP.no
       ·exact MP.no
      ·exact MP.no
     ·exact MP.no
    ·exact MP.no
   ·exact MP.no
  ·exact MP.no
 ·exact MP.no
def orM {α:Type}(a b:M α):M α:=λcl=>match a cl with
 |some r=>some r
 |none=>b cl
theorem aag {α:Type}{a b:M α}{Q:α->Prop}(h:MP ev a Q)(k:MP ev b Q):MP ev (orM a b) Q:=λcl v Fe em hm he=>by
 unfold orM at hm;split at hm
 ·rename_i r hr;cases hm;exact h _ _ _ _ hr he
 ·exact k _ _ _ _ hm he
def aah (P:j3)(H:Heap)(t:TypeId)(k:Nm)(off len:Nat)(i:TV):M TV:=match bx P t,N9 i,H.get k with
 | some ti,some n,some (.arr g cg fz cs)=>(match ti.desc with
  |.slice elem=>(match bx P elem with
   |some te=>if te.size=cg/\0<cg then br (JB ((off+len) *cg=cs.length)) λ_=>br (BJ (n+1) len) λ_=>dO (.lQ k cs.length ((off+n) *cg)) else ja
   |none=>ja)
  |_=>ja)
 |_,_,_=>ja
theorem aev {P:j3}{H:Heap}{t:TypeId}{k:Nm}{off len:Nat}{i:TV}:MP ev (aah P H t k off len i) λv=>fA P H t (.ref k off len) i=some v:=by
 unfold aah;split
 ·rename_i ti n g cg fz cs ht hn hk;have hi:=xS hn;split
  ·rename_i elem hd;split
   ·rename_i te hte;split
    ·rename_i hc;refine MP.bind sP λ_ hp=>MP.bind mN λ_ hl=>MP.ret ?_
     have h2:kB H k off len=some (g,cg,fz,cs):=by
      unfold kB;simp only[hk];rw[if_pos ⟨hc.2,hp⟩]
     unfold fA;rw[ht,hi];simp only[hd,hte,h2,hc.1];rw[if_pos ⟨trivial,hl⟩]
    ·exact MP.no
   ·exact MP.no
  ·exact MP.no
 ·exact MP.no
def BK (P:j3)(H:Heap)(t:TypeId)(x i:TV):M TV:=match x with
 |.ref k off len=>orM (aah P H t k off len i) (xT P H t (.ref k off len) i)
 |x=>xT P H t x i
theorem JN (P:j3)(H:Heap)(t:TypeId)(x i:TV):dP ev (BK P H t x i) (fA P H t x i):=by
 unfold BK;split
 ·exact aag (aev.mono λv hv=>hv) (A8 P H t _ i)
 ·exact A8 P H t _ i
def aai (P:j3)(H:Heap)(t:TypeId)(k:Nm)(off len:Nat)(lv:TV):M tD:=match bx P t,H.get k,N9 lv with
 | some ti,some (.arr g cg fz cs),some l=>(match ti.desc with
  |.slice elem=>(match bx P elem with
   |some te=>if cg=te.size/\0<cg then br (JB ((off+len) *cg=cs.length)) λ_=>br (BJ l len) λ_=>dO (.val (.ref k (off+l) (len - l)) []) else ja
   |none=>ja)
  |_=>ja)
 |_,_,_=>ja
theorem aaj {b:Bool}{P:j3}{H:Heap}{nm:Nm}{t:TypeId}{x lv:TV}{hi mx:Option TV}:A0 b P H nm t x (some lv) hi mx=none:=by
 cases b with
 |false=>rfl
 |true=>
  show Bq P H nm t x (some lv) hi mx=none
  unfold Bq
  split
  · rename_i h;cases h
  · rfl
def Fg (b:Bool)(P:j3)(H:Heap)(nm:Nm)(t:TypeId)(x:TV)(lo hi mx:Option TV):Option tD:=match A0 b P H nm t x lo hi mx with
 |some r=>some (.val r.1 r.2)
 |none=>match tB P H t x lo hi mx with
  |some (r,ks)=>some (.val r (eO H ks))
  |none=>none
theorem aew {b:Bool}{P:j3}{H:Heap}{nm:Nm}{t:TypeId}{k:Nm}{off len:Nat}{lv:TV}:MP ev (aai P H t k off len lv) λr=>Fg b P H nm t (.ref k off len) (some lv) none none=some r:=by
 unfold aai;split
 ·rename_i ti g cg fz cs l ht hk hl;have hl':=xS hl;split
  ·rename_i elem hd;split
   ·rename_i te hte;split
    ·rename_i hc;refine MP.bind sP λ_ hp=>MP.bind mN λ_ h1=>MP.ret ?_
     have h2:kB H k off len=some (g,cg,fz,cs):=by
      unfold kB;simp only[hk];rw[if_pos ⟨hc.2,hp⟩]
     unfold Fg;rw[aaj];have e0:Bp H (.ref k off len)=some len:=rfl;have e1:gj (some lv) 0=some l:=hl';have e2:gj none len=some len:=rfl;simp only[tB,ht,hd,hte,e0,e1,e2,Option.isNone_none,Bool.true_or,h2,hc.1,and_self,if_true];rw[if_pos ⟨h1,Nat.le_refl len⟩];rfl
    ·exact MP.no
   ·exact MP.no
  ·exact MP.no
 ·exact MP.no
def TF (P:j3)(H:Heap)(nm:Nm)(t:TypeId)(k:Nm)(len:Nat)(hv:TV):M tD:=match bx P t,H.get k,N9 hv with
 | some ti,some (.arr g cg false cs),some h=>(match ti.desc with
  |.slice elem=>(match bx P elem with
   |some te=>if te.size=cg/\0<cg then br (JB ((0+len) *cg=cs.length)) λ_=>br (BJ h len) λ_=>br (Z1 (cs.take (h*cg))) λcs'=>dO (.val (.ref nm 0 h) [(k,.dead),(nm,.arr g cg false cs')]) else ja
   |none=>ja)
  |_=>ja)
 |_,_,_=>ja
theorem aak {P:j3}{H:Heap}{nm:Nm}{t:TypeId}{k:Nm}{len:Nat}{hv:TV}:MP ev (TF P H nm t k len hv) λr=>Fg true P H nm t (.ref k 0 len) none (some hv) none=some r:=by
 unfold TF;split
 ·rename_i ti g cg cs h ht hk hh;have I4:=xS hh;split
  ·rename_i elem hd;split
   ·rename_i te hte;split
    ·rename_i hc;refine MP.bind sP λ_ hp=>MP.bind mN λ_ h1=>MP.bind N3 λcs' hq=>MP.ret ?_
     subst hq;have h2:kB H k 0 len=some (g,cg,false,cs):=by
      unfold kB;simp only[hk];rw[if_pos ⟨hc.2,hp⟩]
     unfold Fg;simp only[A0,if_true,Bq,ht,I4,h2,hd,hte,if_pos (And.intro hc.1 h1)]
    ·exact MP.no
   ·exact MP.no
  ·exact MP.no
 ·exact MP.no
def TG (b:Bool)(P:j3)(H:Heap)(nm:Nm)(t:TypeId)(x:TV)(lo hi mx:Option TV):M tD:=match x,lo,hi,mx with
 |.ref k off len,some lv,none,none=>orM (aai P H t k off len lv) (JM b P H nm t (.ref k off len) (some lv) none none)
 |.ref k 0 len,none,some hv,none=>orM (match b with
  |true=>TF P H nm t k len hv
  |false=>ja) (JM b P H nm t (.ref k 0 len) none (some hv) none)
 |x,lo,hi,mx=>JM b P H nm t x lo hi mx
theorem TH (b:Bool)(P:j3)(H:Heap)(nm:Nm)(t:TypeId)(x:TV)(lo hi mx:Option TV):dP ev (TG b P H nm t x lo hi mx) (Fg b P H nm t x lo hi mx):=by
 unfold TG;split
 ·exact aag aew (Ff b P H nm t _ _ _ _)
 ·refine aag ?_ (Ff b P H nm t _ _ _ _);cases b with
  |true=>exact aak
  |false=>exact MP.no
 ·exact Ff b P H nm t _ _ _ _
def TJ (P:j3)(H:Heap)(t:TypeId)(k:Nm)(off len:Nat):M tD:=match bx P t,H.get k with
 | some ti,some (.arr g cg false cs)=>(match ti.desc with
  | .slice elem=>(match bx P elem with
   |some te=>(match te.zero with
    |some z=>if(te.size=cg/\0<cg)/\z.cells.length=te.size/\z.cells.all TV.leaf=true then br (JB ((off+len) *cg=cs.length)) λ_=>br (Z1 (dL cs (off*cg) (rN len z.cells))) λcs'=>dO (.val (.t (.bU [])) [(k,.arr g cg false cs')]) else ja
    |none=>ja)
   |none=>ja)
  |_=>ja)
 |_,_=>ja
theorem aal {P:j3}{H:Heap}{t:TypeId}{k:Nm}{off len:Nat}:MP ev (TJ P H t k off len) λr=>(Br P H t (.ref k off len)).map (λp=>tD.val p.1 p.2)=some r:=by
 unfold TJ;split
 ·rename_i ti g cg cs ht hk;split
  ·rename_i elem hd;split
   ·rename_i te hte;split
    ·rename_i z hz;split
     ·rename_i hc;obtain⟨⟨hc1,cq⟩,bK,gP⟩:=hc;refine MP.bind sP λ_ hp=>MP.bind N3 λcs' hq=>MP.ret ?_
      subst hq;subst hc1;have h2:kB H k off len=some (g,te.size,false,cs):=by
       unfold kB;simp only[hk];rw[if_pos ⟨cq,hp⟩]
      simp only[Br,ht,hd,hte,hz,h2];rw[if_pos ⟨trivial,bK,gP⟩];rfl
     ·exact MP.no
    ·exact MP.no
   ·exact MP.no
  ·exact MP.no
 ·exact MP.no
def Vl (C:ez)(f:FuncId)(H:Heap)(slots:List TV)(t:Nat)(o:Oper):M tD:=
 match o.op with
 |.call {callee:=.value fo,args,argTypes}=>(match lX C slots {callee:=.value fo,args,argTypes} with
  |some (g,atL)=>Z7 H g atL t (Pu C f o)
  |none=>ja)
 |.call {callee:=.invoke recv name,args,argTypes}=>(match HO C H slots recv name args with
  |some (g,atL)=>Z7 H g atL t (Pu C f o)
  |none=>ja)
 |.pick c a b=>(match dw C slots c,dw C slots a,dw C slots b with
  |some (.t (.bool x)),some u,some v=>br (ZZ x) λc=>dO (.val (if c then u else v) [])
  |_,_,_=>ja)
 |.indexAddr ty x i=>(match dw C slots x,dw C slots i with
  |some x,some i=>Xu (BK C.P H ty x i)
  |_,_=>ja)
 |.index ty x i=>(match dw C slots x,dw C slots i with
  |some x,some i=>Xu (TE C.P ty x i)
  |_,_=>ja)
 |.load ty a=>(match dw C slots a with
  |some a=>Xu (Z8 C.P H ty a)
  |_=>ja)
 |.store ty a x=>(match dw C slots a,dw C slots x with
  |some a,some x=>br (TC C.P H ty a x) λu=>dO (.val dh u)
  |_,_=>ja)
 |.fieldAddr s x i=>(match dw C slots x with
  |some a=>Xu (JL C.P H s i a)
  |_=>ja)
 |.slice ty x lo hi mx=>(match dw C slots x,yT C slots lo,yT C slots hi,yT C slots mx with
  |some v,some l,some h,some m=>TG (o.dst.any (C.lW f)) C.P H (.loc [t]) ty v l h m
  |_,_,_,_=>ja)
 |.lookup ty x k ok=>(match dw C slots x,dw C slots k with
  |some x,some k=>Xu (aad C.P H ty x k ok)
  |_,_=>ja)
 |.mapUpdate ty x k v=>(match dw C slots x,dw C slots k,dw C slots v with
  |some x,some k,some v=>br (aiG C.P H ty x k v) λu=>dO (.val dh u)
  |_,_,_=>ja)
 |.mapEntry ty x k=>(match dw C slots x,dw C slots k with
  |some x,some k=>aiE C.P H ty x k
  |_,_=>ja)
 |.entryStore ty x s v=>(match dw C slots x,dw C slots s,dw C slots v with
  |some x,some s,some v=>br (aiF H x s v) λu=>dO (.val dh u)
  |_,_,_=>ja)
 | .call {callee:=.builtin .append,args,argTypes}=>(match args.toList,argTypes.toList with
  | [a,b],[ta,tb]=>(match dw C slots a,dw C slots b with
   |some x,some y=>br (aiI C.P (.loc [t]) H ta tb x y) λp=>dO (.val p.1 p.2)
   |_,_=>ja)
  |_,_=>ja)
 | .call {callee:=.builtin .clear,args,argTypes}=>(match args.toList,argTypes.toList with
  | [a],[ta]=>(match dw C slots a with
   |some (.ref k off len)=>TJ C.P H ta k off len
   |_=>ja)
  |_,_=>ja)
 |.call {callee:=.builtin .max, ..}=>(match bp C pF f H slots t o with
  |some (.val v u)=>br (LB v) λv=>dO (.val v u)
  |_=>ja)
 |.call {callee:=.builtin .min, ..}=>(match bp C pF f H slots t o with
  |some (.val v u)=>br (LB v) λv=>dO (.val v u)
  |_=>ja)
 | .binOp .add ty x y _=>(match dw C slots x,dw C slots y with
  |some (.t (.str a)),some (.t (.str b))=>br (Tz (vK C.P .add ty x y (.t (.str a)) (.t (.str b)))) λv=>dO (.val v [])
  |_,_=>(match bp C pF f H slots t o with
   |some (.val v u)=>br (LB v) λv=>dO (.val v u)
   |_=>ja))
 |.binOp .sub _ _ _ _=>(match bp C pF f H slots t o with
  |some (.val v u)=>br (LB v) λv=>dO (.val v u)
  |_=>ja)
 |.binOp .mul _ _ _ _=>(match bp C pF f H slots t o with
  |some (.val v u)=>br (LB v) λv=>dO (.val v u)
  |_=>ja)
 |.binOp .quo _ _ _ _=>(match bp C pF f H slots t o with
  |some (.val v u)=>br (LB v) λv=>dO (.val v u)
  |_=>ja)
 |.binOp .shr _ _ _ _=>(match bp C pF f H slots t o with
  |some (.val v u)=>br (LB v) λv=>dO (.val v u)
  |_=>ja)
 |.convert _ _ _=>(match bp C pF f H slots t o with
  |some (.val v u)=>br (LB v) λv=>dO (.val v u)
  |_=>ja)
 |.binOp .neq ty x y _=>(match dw C slots x,dw C slots y with
  |some (.t (.agg a)),some (.t (.agg b))=>br (Tz (vK C.P .neq ty x y (.t (.agg a)) (.t (.agg b)))) λv=>dO (.val v [])
  |_,_=>qF (bp C pF f H slots t o))
 |.binOp .eql ty x y _=>(match dw C slots x,dw C slots y with
  |some (.t (.agg a)),some (.t (.agg b))=>br (Tz (vK C.P .eql ty x y (.t (.agg a)) (.t (.agg b)))) λv=>dO (.val v [])
  |_,_=>qF (bp C pF f H slots t o))
 |_=>qF (bp C pF f H slots t o)
theorem Qz (H:Heap)(slots:List TV)(t:Nat)(o:Oper):dP ev (Vl C f H slots t o) (bp C ev f H slots t o):=by
 unfold Vl;split
 ·rename_i fo args ats ho;unfold bp;rw[ho];simp only;split
  ·rename_i g atL hc;rw[hc];exact Qx _ _ _ _ _
  ·exact dP.no
 ·rename_i fo nm args ats ho;unfold bp;rw[ho];simp only;split
  ·rename_i g atL hc;rw[hc];exact Qx _ _ _ _ _
  ·exact dP.no
 ·rename_i c a b ho;split
  ·rename_i x u v h1 h2 h3;refine dP.of_eq (dP.bind (y:=λc=>some (.val (if c then u else v) [])) (JC x) λc _=>dP.ret _) ?_;unfold bp;rw[ho];simp only[evalOp,ho,h1,h2,h3];rfl
  ·exact dP.no
 ·rename_i ty x i ho;split
  ·rename_i a b h1 h2;refine dP.of_eq (H7 (JN C.P H ty a b)) ?_;unfold bp;rw[ho];simp only[evalOp,ho,h1,h2];rfl
  ·exact dP.no
 ·rename_i ty x i ho;split
  ·rename_i a b h1 h2;refine dP.of_eq (H7 (Xt C.P ty a b)) ?_;unfold bp;rw[ho];simp only[evalOp,ho,h1,h2];rfl
  ·exact dP.no
 ·rename_i ty a ho;split
  ·rename_i x h1;refine dP.of_eq (H7 (Z9 C.P H ty x)) ?_;unfold bp;rw[ho];simp only[evalOp,ho,h1];rfl
  ·exact dP.no
 ·rename_i ty a x ho;split
  ·rename_i u v h1 h2;refine dP.of_eq (dP.bind (y:=λq=>some (.val dh q)) (Xr C.P H ty u v) λq _=>dP.ret _) ?_;unfold bp;rw[ho];simp only[evalOp,ho,h1,h2,A1];cases storeT C.P H ty u v<;>rfl
  ·exact dP.no
 ·rename_i s x i ho;split
  ·rename_i a h1;refine MP.bind (P:=λv=>∃off,pH C.P s i=some off/\tq H a off=some v) ?_ λv hv=>MP.ret ?_
   ·unfold JL;split
    ·rename_i off h2;exact(MP.Vi (TD H a off)).mono λv hv=>⟨off,h2,hv⟩
    ·exact MP.no
   ·obtain⟨off,h2,h3⟩:=hv;unfold pH at h2;split at h2<;>try (simp at h2;done)
    rename_i ti L6;split at h2<;>try (simp at h2;done)
    rename_i fs hfs;split at h2<;>try (simp at h2;done)
    rename_i fd hfd;split at h2<;>try (simp at h2;done)
    rename_i tf YS;split at h2<;>try (simp at h2;done)
    rename_i hz;simp at h2;subst h2;unfold bp;rw[ho];simp only[evalOp,ho,h1,L6,hfs,hfd,YS,if_neg hz,h3,Cj,Option.map_some]
  ·exact dP.no
 ·rename_i ty x lo hi mx ho;split
  ·rename_i v l h m h1 h2 h3 h4;refine dP.of_eq (TH (o.dst.any (C.lW f)) C.P H (.loc [t]) ty v l h m) ?_;unfold bp Fg;rw[ho];simp only[evalOp,ho,h1,h2,h3,h4];cases A0 (o.dst.any (C.lW f)) C.P H (.loc [t]) ty v l h m with
   |some r=>rfl
   | none=>
     simp only
     cases tB C.P H ty v l h m<;>rfl
  ·exact dP.no
 ·rename_i ty x k ok ho;split
  ·rename_i a b h1 h2;refine dP.of_eq (H7 (aae C.P H ty a b ok)) ?_;unfold bp;rw[ho];simp only[evalOp,ho,h1,h2];rfl
  ·exact dP.no
 ·rename_i ty x k v ho;split
  ·rename_i a b c h1 h2 h3;refine dP.of_eq (dP.bind (y:=λq=>some (.val dh q)) (aes C.P H ty a b c) λq _=>dP.ret _) ?_;unfold bp;rw[ho];simp only[evalOp,ho,h1,h2,h3,A1];cases kU C.P H ty a b c<;>rfl
  ·exact dP.no
 ·rename_i ty x k ho;split
  ·rename_i a b h1 h2;refine dP.of_eq (aeq C.P H ty a b) ?_;unfold bp;rw[ho];simp only[evalOp,ho,h1,h2];cases nV C.P H ty a b<;>rfl
  ·exact dP.no
 ·rename_i ty x s v ho;split
  ·rename_i a b c h1 h2 h3;refine dP.of_eq (dP.bind (y:=λq=>some (.val dh q)) (aer H a b c) λq _=>dP.ret _) ?_;unfold bp;rw[ho];simp only[evalOp,ho,h1,h2,h3,A1];cases kK H a b c<;>rfl
  ·exact dP.no
 ·rename_i args ats ho;split
  ·rename_i a b ta tb ha hta;split
   ·rename_i x y hx hy;refine dP.of_eq (dP.bind (y:=λp=>some (.val p.1 p.2)) (aeu C (.loc [t]) H ta tb x y) λp _=>dP.ret _) ?_;unfold bp;rw[ho];have h1:kL C slots args.toList=some [x,y]:=by rw[ha];simp only[kL,hx,hy]
    have h2:mZ C (.loc [t]) H .append [ta,tb] [x,y]=lV C.P (.loc [t]) H ta tb x y:=by delta mZ;rfl
    simp only[evalOp,ho,h1,hta,h2];cases lV C.P (.loc [t]) H ta tb x y<;>rfl
   ·exact dP.no
  ·exact dP.no
 ·rename_i args ats ho;split
  ·rename_i a ta ha hta;split
   ·rename_i k off len hx;refine dP.of_eq aal ?_;unfold bp;rw[ho];have h1:kL C slots args.toList=some [.ref k off len]:=by rw[ha];simp only[kL,hx]
    have h2:mZ C (.loc [t]) H .clear [ta] [.ref k off len]=Br C.P H ta (.ref k off len):=by delta mZ;rfl
    simp only[evalOp,ho,h1,hta,h2];cases Br C.P H ta (.ref k off len)<;>rfl
   ·exact dP.no
  ·exact dP.no
 ·rename_i atL ats ho;have e:bp C pF f H slots t o=bp C ev f H slots t o:=by
   unfold bp;rw[ho]
  split
  ·rename_i v u h;refine dP.of_eq (dP.bind (y:=λv=>some (.val v u)) (rC v) λc _=>dP.ret _) ?_;rw[← e,h];rfl
  ·exact dP.no
 ·rename_i atL ats ho;have e:bp C pF f H slots t o=bp C ev f H slots t o:=by
   unfold bp;rw[ho]
  split
  ·rename_i v u h;refine dP.of_eq (dP.bind (y:=λv=>some (.val v u)) (rC v) λc _=>dP.ret _) ?_;rw[← e,h];rfl
  ·exact dP.no
 ·rename_i ty x y r2 ho;have e:bp C pF f H slots t o=bp C ev f H slots t o:=by
   unfold bp;rw[ho]
  split
  ·rename_i a b h1 h2;refine dP.of_eq (dP.bind (y:=λv=>some (.val v [])) C2 λv _=>dP.ret _) ?_;unfold bp;rw[ho];simp only[evalOp,ho,h1,h2,Cj];cases vK C.P .add ty x y (.t (.str a)) (.t (.str b))<;>rfl
  ·split
   ·rename_i v u h;refine dP.of_eq (dP.bind (y:=λv=>some (.val v u)) (rC v) λc _=>dP.ret _) ?_;rw[← e,h];rfl
   ·exact dP.no
 ·rename_i ty x y r2 ho;have e:bp C pF f H slots t o=bp C ev f H slots t o:=by
   unfold bp;rw[ho]
  split
  ·rename_i v u h;refine dP.of_eq (dP.bind (y:=λv=>some (.val v u)) (rC v) λc _=>dP.ret _) ?_;rw[← e,h];rfl
  ·exact dP.no
 ·rename_i ty x y r2 ho;have e:bp C pF f H slots t o=bp C ev f H slots t o:=by
   unfold bp;rw[ho]
  split
  ·rename_i v u h;refine dP.of_eq (dP.bind (y:=λv=>some (.val v u)) (rC v) λc _=>dP.ret _) ?_;rw[← e,h];rfl
  ·exact dP.no
 ·rename_i ty x y r2 ho;have e:bp C pF f H slots t o=bp C ev f H slots t o:=by
   unfold bp;rw[ho]
  split
  ·rename_i v u h;refine dP.of_eq (dP.bind (y:=λv=>some (.val v u)) (rC v) λc _=>dP.ret _) ?_;rw[← e,h];rfl
  ·exact dP.no
 ·rename_i ty x y r2 ho;have e:bp C pF f H slots t o=bp C ev f H slots t o:=by
   unfold bp;rw[ho]
  split
  ·rename_i v u h;refine dP.of_eq (dP.bind (y:=λv=>some (.val v u)) (rC v) λc _=>dP.ret _) ?_;rw[← e,h];rfl
  ·exact dP.no
 ·rename_i ty x y ho;have e:bp C pF f H slots t o=bp C ev f H slots t o:=by
   unfold bp;rw[ho]
  split
  ·rename_i v u h;refine dP.of_eq (dP.bind (y:=λv=>some (.val v u)) (rC v) λc _=>dP.ret _) ?_;rw[← e,h];rfl
  ·exact dP.no
 ·rename_i ty x y r2 ho;split
  ·rename_i a b h1 h2;refine dP.of_eq (dP.bind (y:=λv=>some (.val v [])) C2 λv _=>dP.ret _) ?_;unfold bp;rw[ho];simp only[evalOp,ho,h1,h2,Cj];cases vK C.P .neq ty x y (.t (.agg a)) (.t (.agg b))<;>rfl
  ·have e:bp C pF f H slots t o=bp C ev f H slots t o:=by
    unfold bp;rw[ho]
   rw[← e];exact dP.opt _
 ·rename_i ty x y r2 ho;split
  ·rename_i a b h1 h2;refine dP.of_eq (dP.bind (y:=λv=>some (.val v [])) C2 λv _=>dP.ret _) ?_;unfold bp;rw[ho];simp only[evalOp,ho,h1,h2,Cj];cases vK C.P .eql ty x y (.t (.agg a)) (.t (.agg b))<;>rfl
  ·have e:bp C pF f H slots t o=bp C ev f H slots t o:=by
    unfold bp;rw[ho]
   rw[← e];exact dP.opt _
 ·rename_i h1 h2 h3 h4 h5 h6 h7 h8 h9 h10 h11 h12 h13 Pk Oc h16 h17 h18 h19 h20 h21 h22 h23 h24 h25;have e:bp C pF f H slots t o=bp C ev f H slots t o:=by
   unfold bp;split
   ·rfl
   ·rename_i fo args ats ho;exact absurd ho (h1 fo args ats)
   ·rename_i r nm args ats ho;exact absurd ho (h2 r nm args ats)
   ·rfl
  rw[← e];exact dP.opt _
def aex (C:ez)(f:FuncId)(ops:Array Oper):List Oper->St->M (aS×St)
 | [],st=>dO (.normal,st)
 | o::r,st=>br (HZ ops st.slots o) λw=>match w with
  |false=>aex C f ops r {st with slots:=ey st.slots o.dst dh,tick:=st.tick+1}
  |true=>br (Vl C f st.H st.slots st.tick o) λres=>match res with
   |.val v u=>aex C f ops r {slots:=ey st.slots o.dst v,H:=st.H.eY u,tick:=st.tick+1}
   |.panic v u l=>dO (.panic v,{st with H:=(st.H.yG l).eY u,tick:=st.tick+1})
theorem Od (ops:Array Oper):∀(l:List Oper) (st:St),dP ev (aex C f ops l st) (Hg C ev f ops l st)
 | [],st=>dP.ret _
 | o ::r,st=>by
   refine dP.of_eq (dP.bind (y:=λw=>match w with
     |false=>Hg C ev f ops r {st with slots:=ey st.slots o.dst dh,tick:=st.tick+1}
     | true=>(bp C ev f st.H st.slots st.tick o).bind λres=>match res with
       |.val v u=>Hg C ev f ops r {slots:=ey st.slots o.dst v,H:=st.H.eY u,tick:=st.tick+1}
       |.panic v u l=>some (.panic v,{st with H:=(st.H.yG l).eY u,tick:=st.tick+1})) (JD ops st.slots o) λw _=> ?_) ?_
   · cases w with
     |false=>exact Od ops r _
     | true=>
       refine dP.bind (Qz st.H st.slots st.tick o) λres _=> ?_
       cases res with
       |val v u=>exact Od ops r _
       |panic v u l=>exact dP.ret _
   · rw[ Hg]
     cases eT ops st.slots o with
     |none=>rfl
     | some w=>
       cases w with
       |false=>rfl
       | true=>
         show(bp C ev f st.H st.slots st.tick o).bind _=_
         cases bp C ev f st.H st.slots st.tick o with
         |none=>rfl
         |some res=>cases res<;>rfl
def aam (bs:List Nat)(i:Nat):Option Nat->Bool
 |some j=>iC bs j i
 |none=>false
def QA (C:ez)(ev:bt)(f:FuncId)(ops:Array Oper)(t0 i:Nat)(o:Oper)(s:xw)(uJ:Option Nat):Option Rec:=
 (eT ops s.slots o).bind λw=>match w with
  |false=>some ⟨[],.unwanted⟩
  | true=>(SJ C s.H s.slots o).bind λfp=>(bp C ev f (oD s.H fp) s.slots (t0+i) o).bind λres=>match res with
   |.val v u=>some ⟨fp,.val v u⟩
   |.panic v u l=>match uJ with
    |some _=>none
    |none=>some ⟨fp,.panic v u l⟩
theorem aiJ (ops:Array Oper)(bs:List Nat)(t0 i:Nat)(o:Oper)(s:xw)(uJ:Option Nat):YF C ev f ops bs t0 i o s uJ=bif aam bs i uJ then some ⟨[],.Aj⟩ else QA C ev f ops t0 i o s uJ:=by
 unfold YF QA;simp only[xN,Jv];have e:(match eT ops s.slots o with
  |none=>none
  |some false=>some ⟨[],.unwanted⟩
  | some true=>
   match SJ C s.H s.slots o with
   |none=>none
   | some fp=>
    match bp C ev f (oD s.H fp) s.slots (t0+i) o with
    |none=>none
    |some (.val v u)=>some ⟨fp,.val v u⟩
    |some (.panic v u l)=>match uJ with
     |some _=>none
     |none=>some ⟨fp,.panic v u l⟩:Option Rec)=QA C ev f ops t0 i o s uJ:=by
  unfold QA
  cases eT ops s.slots o with
  |none=>rfl
  | some w=>
   cases w with
   |false=>rfl
   | true=>
    simp only[Option.bind_some]
    cases SJ C s.H s.slots o with
    |none=>rfl
    |some fp=>
     simp only[Option.bind_some]
     cases bp C ev f (oD s.H fp) s.slots (t0+i) o with
     |none=>rfl
     |some res=>cases res<;>rfl
 unfold QA at e;cases uJ with
 |none=>exact e
 |some j=>
  show(match iC bs j i with|true=>_|false=>_)=bif iC bs j i then _ else _
  cases iC bs j i with
  |true=>rfl
  |false=>exact e
def fpO (C:ez)(H:Heap)(slots:List TV)(o:Oper):M (List Nm):=match o.op with
 |.call {callee:=.value fo,args,argTypes}=>(match lX C slots {callee:=.value fo,args,argTypes} with
  |some (_,atL)=>zu H iI [] (TV.kV atL)
  |none=>ja)
 |.call {callee:=.invoke recv name,args,argTypes}=>(match dw C slots recv,kL C slots args.toList with
  |some v,some atL=>zu H iI [] (v.names++TV.kV atL)
  |_,_=>ja)
 |_=>qF (SJ C H slots o)
theorem alS {H:Heap}{slots:List TV}{o:Oper}:MP ev (fpO C H slots o) λfp=>SJ C H slots o=some fp:=by
 unfold fpO;split
 ·rename_i fo args ats ho;split
  ·rename_i g atL hc;refine(wK _ _ _).mono λS hS=> ?_
   unfold SJ;rw[ho];simp only[hc];exact hS.1
  ·exact MP.no
 ·rename_i recv name args ats ho;split
  ·rename_i v atL h1 h2;refine(wK _ _ _).mono λS hS=> ?_
   unfold SJ;rw[ho];simp only[h1,h2];exact hS.1
  ·exact MP.no
 ·exact MP.Vi (dP.opt _)
def aiK (C:ez)(f:FuncId)(ops:Array Oper)(bs:List Nat)(t0 i:Nat)(o:Oper)(s:xw)(uJ:Option Nat):M Rec:=
 match aam bs i uJ with
 |true=>dO ⟨[],.Aj⟩
 |false=>br (HZ ops s.slots o) λw=>match w with
  |false=>dO ⟨[],.unwanted⟩
  | true=>br (fpO C s.H s.slots o) λfp=>br (Vl C f (oD s.H fp) s.slots (t0+i) o) λres=>match res with
    |.val v u=>dO ⟨fp,.val v u⟩
    |.panic v u l=>match uJ with
     |some _=>ja
     |none=>dO ⟨fp,.panic v u l⟩
theorem aey (ops:Array Oper)(bs:List Nat)(t0 i:Nat)(o:Oper)(s:xw)(uJ:Option Nat):dP ev (aiK C f ops bs t0 i o s uJ) (YF C ev f ops bs t0 i o s uJ):=by
 rw[aiJ];unfold aiK;cases aam bs i uJ with
 |true=>exact dP.ret _
 | false=>
  refine dP.bind (JD ops s.slots o) λw _=> ?_
  cases w with
  |false=>exact dP.ret _
  | true=>
   simp only
   refine dP.bind alS λfp _=> ?_
   refine dP.bind (Qz _ _ _ _) λres _=> ?_
   cases res with
   |val v u=>exact dP.ret _
   |panic v u l=>
    cases uJ with
    |none=>exact dP.ret _
    |some _=>exact dP.no
def aan (C:ez)(f:FuncId)(ops:Array Oper)(bs:List Nat)(t0:Nat):Nat->List Oper->xw->Option Nat->M (List Rec)
 |_,[],_,_=>dO []
 |i,o::r,s,uJ=>br (aiK C f ops bs t0 i o s uJ) λrec=>br (aan C f ops bs t0 (i+1) r (s.after o rec.res) (mh i uJ rec.res)) λrs=>dO (rec::rs)
theorem QB (ops:Array Oper)(bs:List Nat)(t0:Nat):∀(l:List Oper) (i:Nat) (s:xw) (uJ:Option Nat),dP ev (aan C f ops bs t0 i l s uJ) (Hj C ev f ops bs t0 i l s uJ)
 | [],i,s,uJ=>dP.ret _
 | o::r,i,s,uJ=>by
  refine dP.of_eq (dP.bind (aey ops bs t0 i o s uJ) λrec _=>dP.bind (y:=λrs=>some (rec::rs)) (QB ops bs t0 r (i+1) (s.after o rec.res) (mh i uJ rec.res)) λrs _=>dP.ret _) ?_
  rw[Hj]
  cases YF C ev f ops bs t0 i o s uJ with
  |none=>rfl
  |some rec=>
   simp only[Option.bind_some]
   cases Hj C ev f ops bs t0 (i+1) r (s.after o rec.res) (mh i uJ rec.res)<;>rfl
noncomputable def TK (C:ez)(ops:Array Oper)(st:St)(recs:List Rec)(i:Nat)(x:Oper)(rx ry:Rec):Option Prop:=match x.op with
 | .lookup t m k ok=>(match rx.fp,rx.res,ry.res with
  | [nm],.val v [],.val _ [(nm',.map es _)]=>if nm=nm' then(match dw C (kM (x.looksAt ops) 0 (jt ops.toList recs (s0 st) (λ_=>true) i).slots) m,dw C (kM (x.looksAt ops) 0 (jt ops.toList recs (s0 st) (λ_=>true) i).slots) k with
   |some (.map n2),some kv=>if n2=nm then some (A9 C.P t es kv ok=some v) else none
   |_,_=>none) else none
  |_,_,_=>none)
 |_=>none
theorem Xv {st:St}{ops:Array Oper}{recs:List Rec}{i:Nat}{x:Oper}{rx ry:Rec}{p:Prop}(h:TK C ops st recs i x rx ry=some p)(hp:p):Zb C ev f ops st recs i x rx ry:=by
 unfold TK at h;split at h
 ·rename_i t m k ok hx;split at h
  ·rename_i nm v w nm' es c h1 h2 h3;split at h
   ·rename_i hn;subst hn;split at h
    ·rename_i n2 kv h4 h5;split at h
     ·rename_i hn2;subst hn2;cases h;refine⟨_,_,_,_,h1,h2,h3, ?_⟩;have hg:Heap.get [(n2,aP.map es c)] n2=some (.map es c):=if_pos rfl;unfold bp;rw[hx];simp only[evalOp,hx,h4,h5,aac hg,hp,Cj,Option.map_some]
     ·cases h
    ·cases h
   ·cases h
  ·cases h
 ·cases h
noncomputable def aao (C:ez)(ops:Array Oper)(st:St)(recs:List Rec)(bs:List Nat)(i j:Nat):M Unit:=match ops.toList[i]?,ops.toList[j]?,recs[i]?,recs[j]? with
 | some x,some y,some rx,some ry=>(match iC bs i j||vL ops x y rx ry with
  |true=>dO ()
  |false=>(match mo ops x y,TK C ops st recs i x rx ry with
   |true,some p=>JB p
   |_,_=>ja))
 |_,_,_,_=>dO ()
noncomputable def aap (C:ez)(ops:Array Oper)(st:St)(recs:List Rec)(bs:List Nat):Nat->Nat->M Unit
 |0,_=>dO ()
 |i+1,j=>br (aao C ops st recs bs i j) λ_=>aap C ops st recs bs i j
noncomputable def aaq (C:ez)(ops:Array Oper)(st:St)(recs:List Rec)(bs:List Nat):Nat->M Unit
 |0=>dO ()
 |j+1=>br (aap C ops st recs bs j j) λ_=>aaq C ops st recs bs j
def TL (C:ez)(ev:bt)(f:FuncId)(ops:Array Oper)(st:St)(recs:List Rec)(i j:Nat):Prop:=∀(x y:Oper) (rx ry:Rec),ops.toList[i]?=some x->ops.toList[j]?=some y->recs[i]?=some rx->recs[j]?=some ry->
 iC (nI ops.toList []) i j=true\/vL ops x y rx ry=true\/(mo ops x y=true/\Zb C ev f ops st recs i x rx ry)
theorem aar {ops:Array Oper}{st:St}{recs:List Rec}{i j:Nat}:MP ev (aao C ops st recs (nI ops.toList []) i j) λ_=>TL C ev f ops st recs i j:=by
 unfold aao;split
 ·rename_i x y rx ry h1 h2 h3 h4;split
  ·rename_i hb;refine MP.ret λx' y' rx' ry' e1 e2 e3 e4=> ?_
   rw[h1] at e1;rw[h2] at e2;rw[h3] at e3;rw[h4] at e4;cases e1;cases e2;cases e3;cases e4;exact(Bool.or_eq_true _ _▸hb).imp (λh=>h) .inl
  ·split
   ·rename_i p hs hp;refine sP.mono λ_ hpp x' y' rx' ry' e1 e2 e3 e4=> ?_
    rw[h1] at e1;rw[h2] at e2;rw[h3] at e3;rw[h4] at e4;cases e1;cases e2;cases e3;cases e4;exact .inr (.inr ⟨hs,Xv hp hpp⟩)
   ·exact MP.no
 ·rename_i hn;exact MP.ret λx y rx ry e1 e2 e3 e4=>absurd e4 (hn x y rx ry e1 e2 e3)
theorem QC {ops:Array Oper}{st:St}{recs:List Rec}{j:Nat}:∀(n:Nat),MP ev (aap C ops st recs (nI ops.toList []) n j) λ_=>∀i,i<n->TL C ev f ops st recs i j
 |0=>MP.ret λi hi=>by omega
 | n +1=>MP.bind aar λ_ h1=>(QC n).mono λ_ h2 i hi=>by
   rcases Nat.lt_or_ge i n with h|h
   · exact h2 i h
   · have:i=n:=by omega
     subst this;exact h1
theorem QD {ops:Array Oper}{st:St}{recs:List Rec}:∀(n:Nat),MP ev (aaq C ops st recs (nI ops.toList []) n) λ_=>∀j,j<n->∀i,i<j->TL C ev f ops st recs i j
 |0=>MP.ret λj hj=>by omega
 | n +1=>MP.bind (QC n) λ_ h1=>(QD n).mono λ_ h2 j hj=>by
   rcases Nat.lt_or_ge j n with h|h
   · exact h2 j h
   · have:j=n:=by omega
     subst this;exact h1
noncomputable def QE (C:ez)(f:FuncId)(ops:Array Oper)(st:St):M (aS×St):=
 br (aan C f ops (nI ops.toList []) st.tick 0 ops.toList {slots:=st.slots,H:=st.H} none) λrecs=>match xy 0 ops.toList with
  |true=>(match nW ops ops.toList recs (nI ops.toList []) ops.toList recs 0 with
   |true=>dO (W9 ops st recs)
   |false=>br (aaq C ops st recs (nI ops.toList []) ops.size) λ_=>dO (W9 ops st recs))
  |false=>ja
theorem TM (hm:C.P.prog.follows .mixedOrders=true)(aK:aD C ev){ops:Array Oper}{st:St}{id:Nat}:MP ev (QE C f ops st) λp=>∀Q,Q p.1 p.2->AW C (.region id ops true) st Q:=
 MP.bind (MP.Vi (QB _ _ _ _ _ _ _)) λrecs Mc=>by
  split
  ·rename_i hb;split
   ·rename_i hf;exact MP.ret λQ hq G0 w0 G w a h0 hs hst=>BA hm aK Mc (λi j x y rx ry hij hx hy CN hry=>(U4 hf hij hx hy CN hry).imp (λh=>h) .inl) hb rfl hst λex a' w' hg=>⟨_,_,hq,Good.comp hs rfl hg⟩
   ·refine MP.bind (QD ops.size) λ_ hf=>MP.ret λQ hq G0 w0 G w a h0 hs hst=>BA hm aK Mc (λi j x y rx ry hij hx hy CN hry=>hf j (by
     have:=(List.getElem?_eq_some_iff.1 hy).1;simpa using this) i hij x y rx ry hx hy CN hry) hb rfl hst λex a' w' hg=>⟨_,_,hq,Good.comp hs rfl hg⟩
  ·exact MP.no
def Vm (C:ez)(f:FuncId):Code->St->M (aS×St)
 |.skip,st=>dO (.normal,st)
 |.label _,st=>dO (.normal,st)
 |.region _ ops draw,st=>match draw with
  |true=>QE C f ops st
  |false=>aex C f ops ops.toList st
 |.exit id,st=>dO (.exit id,st)
 |.ret,st=>dO (.ret,st)
 |_,_=>ja
theorem aez (hm:C.P.prog.follows .mixedOrders=true)(aK:aD C ev):∀(c:Code) (st:St),MP ev (Vm C f c st) λp=>∀Q,Q p.1 p.2->AW C c st Q:=by
 have ev':∀{c:Code} {st:St} {m:M (aS×St)},dP ev m (evalCode C ev f 0 c st)->MP ev m λp=>∀Q,Q p.1 p.2->AW C c st Q:=λh=>(MP.Vi h).mono λp hp Q hq=>AW.eval hm aK hp hq
 intro c st;cases c with
 |skip=>exact ev' (dP.ret _)
 |label l=>exact ev' (dP.ret _)
 |region id ops draw=>
  cases draw with
  |true=>exact TM hm aK
  |false=>exact ev' (Od ops ops.toList st)
 |exit id=>exact ev' (dP.ret _)
 |ret=>exact ev' (dP.ret _)
 |_=>exact MP.no
theorem zw {P:Program}{c:Code}{R R':Exit->Act->World->Prop}(h:∀ex a w,R ex a w->R' ex a w):∀(n:Nat) {a:Act} {w:World},Code.rounds P c R n a w->Code.rounds P c R' n a w
 |0,_,_,h0=>h0
 |n+1,a,w,h1=>by
  rw[rounds_succ] at h1 ⊢
  refine wp_mono h1 λex a' w' hx=> ?_
  cases ex<;>first|exact zw h n hx|exact h _ _ _ hx
def Pm (C:ez)(b:Code)(n:Nat)(st:St)(Q:aS->St->Prop):Prop:=∀(G0:Gh) (w0:World) (G:Gh) (w:World) (a a1:Act),(∀p,¬G0.dom (.loc p))->ei G0 w0 G w->a1.defers=a.defers->yO C G w st a1->
 Code.rounds C.P b (λex a' w'=>∃e st',Q e st'/\Good C G0 w0 a e st' ex a' w') n a1 w
theorem Pm.mono {b:Code}{n:Nat}{st:St}{Q Q':aS->St->Prop}(h:Pm C b n st Q)(k:∀e s,Q e s->Q' e s):Pm C b n st Q':=λG0 w0 G w a a1 h0 hs hd hst=>zw (λ_ _ _ ⟨e,s,hq,hg⟩=>⟨e,s,k e s hq,hg⟩) n (h G0 w0 G w a a1 h0 hs hd hst)
theorem Pm.loop {b:Code}{n:Nat}{st:St}{Q:aS->St->Prop}(h:Pm C b n st Q):AW C (.loop b) st Q:=λG0 w0 G w a h0 hs hst=>wp_loop_rounds n (h G0 w0 G w a a h0 hs rfl hst)
def alT (C:ez)(b:Code)(n:Nat)(Q:aS->St->Prop):aS->St->Prop
 |.normal,s=>Pm C b n s Q
 |e,s=>Q e s
theorem Pm.succ {b:Code}{n:Nat}{st:St}{Q:aS->St->Prop}(h:AW C b st (alT C b n Q)):Pm C b (n+1) st Q:=by
 intro G0 w0 G w a a1 h0 hs hd hst;rw[rounds_succ];refine wp_mono (h G0 w0 G w a1 h0 hs hst) λex a2 w2 ⟨e,st1,hq,hg⟩=> ?_
 cases e with
 |normal=>
  obtain⟨rfl,hd2,G1,hs1,jk⟩:=hg.nM
  exact hq G0 w0 G1 w2 a a2 h0 hs1 (hd2.trans hd) jk
 |exit id=>exact gM (hg.gL (by simp)) ⟨_,_,hq,Good.Jk hd hg⟩
 |ret=>exact gM (hg.gL (by simp)) ⟨_,_,hq,Good.Jk hd hg⟩
 |panic v=>exact gM (hg.gL (by simp)) ⟨_,_,hq,Good.Jk hd hg⟩
inductive Fr where
 |c (x:Code)
 |b (id:Nat)
 |x (b:Code) (n:Nat)
def KE (C:ez)(Q:aS->St->Prop):List Fr->aS->St->Prop
 | [],e,s=>Q e s
 |.c x::K,.normal,s=>AW C x s (KE C Q K)
 |.c _::K,.exit i,s=>KE C Q K (.exit i) s
 |.c _::K,.ret,s=>KE C Q K .ret s
 |.c _::K,.panic v,s=>KE C Q K (.panic v) s
 |.b id::K,.exit i,s=>if i=id then KE C Q K .normal s else KE C Q K (.exit i) s
 |.b _::K,.normal,s=>KE C Q K .normal s
 |.b _::K,.ret,s=>KE C Q K .ret s
 |.b _::K,.panic v,s=>KE C Q K (.panic v) s
 |.x b n::K,.normal,s=>Pm C b n s (KE C Q K)
 |.x _ _::K,.exit i,s=>KE C Q K (.exit i) s
 |.x _ _::K,.ret,s=>KE C Q K .ret s
 |.x _ _::K,.panic v,s=>KE C Q K (.panic v) s
theorem KE.seq {Q:aS->St->Prop}{a b:Code}{K:List Fr}{s:St}(h:KE C Q (.c a:: .c b::K) .normal s):KE C Q (.c (.seq a b)::K) .normal s:=by
 refine AW.seq (AW.mono h λe s' h=> ?_);cases e with
 |normal=>exact h
 |_=>exact h
theorem KE.block {Q:aS->St->Prop}{id:Nat}{x:Code}{K:List Fr}{s:St}(h:KE C Q (.c x:: .b id::K) .normal s):KE C Q (.c (.block id x)::K) .normal s:=by
 refine AW.block (AW.mono h λe s' h=> ?_);cases e with
 |exit i=>exact h
 |_=>exact h
theorem KE.cond {Q:aS->St->Prop}{c:Operand}{a b:Code}{K:List Fr}{s:St}{q:Bool}(hc:dw C s.slots c=some (.t (.bool q)))(h:KE C Q (.c (cond q a b)::K) .normal s):KE C Q (.c (.cond c a b)::K) .normal s:=by
 cases q with
 |true=>exact AW.cond hc (λ_=>h) λe=>by cases e
 |false=>exact AW.cond hc (λe=>by cases e) λ_=>h
theorem KE.round {Q:aS->St->Prop}{b:Code}{n:Nat}{K:List Fr}{s:St}(h:KE C Q (.c b:: .x b n::K) .normal s):Pm C b (n+1) s (KE C Q K):=Pm.succ (AW.mono h λe s' h=>by cases e<;>exact h)
theorem KE.rounds {Q:aS->St->Prop}{b:Code}{n:Nat}{K:List Fr}{s:St}(h:KE C Q (.x b n::K) .normal s):KE C Q (.c (.loop b)::K) .normal s:=Pm.loop h
def xU:Code->Option Nat
 |.seq a b=>(xU a).or (xU b)
 |.cond _ a b=>(xU a).or (xU b)
 |.block _ c=>xU c
 |.loop c=>xU c
 |.region id _ _=>some id
 |_=>none
def isIn (l:List Nat):Option Nat->Bool
 |some r=>l.any (Nat.beq r)
 |none=>false
def goK (C:ez)(f:FuncId)(once:List Nat)(stop:Nat):Nat->List Fr->aS->St->M (List Fr×aS×St)
 |0,_,_,_=>ja
 |_+1,[],e,s=>dO ([],e,s)
 | n+1,.x b i::K,e,s=>match e with
  |.normal=>(match i with
   |0=>ja
   |i+1=>goK C f once stop n (.c b:: .x b i::K) .normal s)
  |e=>goK C f once stop n K e s
 | n+1,.b id::K,e,s=>match e with
  |.exit i=>(match Nat.beq i id with
   |true=>goK C f once stop n K .normal s
   |false=>goK C f once stop n K (.exit i) s)
  |e=>goK C f once stop n K e s
 | n+1,.c x::K,e,s=>match e with
  | .normal=>(match x with
   |.seq a b=>goK C f once stop n (.c a:: .c b::K) .normal s
   |.block id x=>goK C f once stop n (.c x:: .b id::K) .normal s
   |.loop x=>(match isIn once (xU x) with
    |true=>goK C f once stop n (.x x 40::K) .normal s
    |false=>dO (.c (.loop x)::K,.normal,s))
   |.cond c a b=>(match dw C s.slots c with
    |some (.t (.bool q))=>br (ZZ q) λq=>goK C f once stop n (.c (cond q a b)::K) .normal s
    |_=>ja)
   |.region id ops d=>(match Nat.beq id stop with
    |true=>dO (.c (.region id ops d)::K,.normal,s)
    |false=>br (Vm C f (.region id ops d) s) λp=>goK C f once stop n K p.1 p.2)
   |x=>br (Vm C f x s) λp=>goK C f once stop n K p.1 p.2)
  |e=>goK C f once stop n K e s
theorem rS (hm:C.P.prog.follows .mixedOrders=true)(aK:aD C ev){once:List Nat}{stop:Nat}:∀(n:Nat) (K:List Fr) (e:aS) (s:St),MP ev (goK C f once stop n K e s) λp=>∀Q,KE C Q p.1 p.2.1 p.2.2->KE C Q K e s:=by
 intro n;induction n with
 |zero=>intro K e s;exact MP.no
 | succ n ih =>
   intro K e s
   have code:∀(x:Code) (K:List Fr),MP ev (br (Vm C f x s) λp=>goK C f once stop n K p.1 p.2) λp=>∀Q,KE C Q p.1 p.2.1 p.2.2->KE C Q (.c x::K) .normal s:=λx K=>
     MP.bind (aez hm aK x s) λp hx=>(ih K p.1 p.2).mono λq hq Q hk=>hx _ (hq Q hk)
   cases K with
   |nil=>exact MP.ret λQ h=>h
   | cons fr K=>
     cases fr with
     | x b i=>
       cases e with
       | normal=>
         cases i with
         |zero=>exact MP.no
         |succ i=>exact(ih (.c b:: .x b i::K) .normal s).mono λq hq Q hk=>KE.round (hq Q hk)
       |exit i=>exact ih K (.exit i) s
       |ret=>exact ih K .ret s
       |panic v=>exact ih K (.panic v) s
     | b id=>
       cases e with
       | exit i=>
         cases hb:Nat.beq i id with
         | true=>
           simp only[goK,hb]
           refine(ih K .normal s).mono λq hq Q hk=> ?_
           show if i=id then _ else _
           rw[if_pos (Nat.eq_of_beq_eq_true hb)]
           exact hq Q hk
         | false=>
           simp only[goK,hb]
           refine(ih K (.exit i) s).mono λq hq Q hk=> ?_
           show if i=id then _ else _
           rw[if_neg (Nat.ne_of_beq_eq_false hb)]
           exact hq Q hk
       |normal=>exact ih K .normal s
       |ret=>exact ih K .ret s
       |panic v=>exact ih K (.panic v) s
     | c x =>
       cases e with
       |exit i=>exact ih K (.exit i) s
       |ret=>exact ih K .ret s
       |panic v=>exact ih K (.panic v) s
       | normal=>
         cases x with
         |seq a b=>exact(ih (.c a:: .c b::K) .normal s).mono λq hq Q hk=>KE.seq (hq Q hk)
         |block id x=>exact(ih (.c x:: .b id::K) .normal s).mono λq hq Q hk=>KE.block (hq Q hk)
         | loop x=>
           simp only[goK]
           split
           · exact(ih (.x x 40::K) .normal s).mono λq hq Q hk=>KE.rounds (hq Q hk)
           · exact MP.ret λQ h=>h
         | cond c a b=>
           simp only[goK]
           split
           · rename_i q hc
             refine MP.bind (MP.Vi (JC q)) λq' hq'=>(ih (.c (cond q' a b)::K) .normal s).mono λr hr Q hk=> ?_
             cases hq'
             exact KE.cond hc (hr Q hk)
           · exact MP.no
         | region id ops d=>
           simp only[goK]
           split
           · exact MP.ret λQ h=>h
           · exact code _ _
         |skip=>exact code .skip K
         |rangeFunc a b c d=>exact code (.rangeFunc a b c d) K
         |exit i=>exact code (.exit i) K
         |scope b=>exact code (.scope b) K
         |label l=>exact code (.label l) K
         |goto l=>exact code (.goto l) K
         |ret=>exact code .ret K
         |refuse w=>exact code (.refuse w) K
end ops
abbrev Ob (ev:bt):={c:Cl // c.holds ev}
def rq {α:Type}:Nat->α->List α->List α
 |0,_,l=>l
 |n+1,a,l=>a::rq n a l
abbrev vals {ev:bt}(l:List (Ob ev)):List Cl:=l.map (·.1)
section obs
variable {ev:bt}
abbrev oT:Ob ev:=⟨.b true true,rfl⟩
abbrev oF:Ob ev:=⟨.b false false,rfl⟩
abbrev oB {x c:Bool}(h:x=c):Ob ev:=⟨.b x c,h⟩
abbrev oC {g:FuncId}{atL:List TV}{os:List aP}{x:bh}(h:ev g atL os=some x):Ob ev:=⟨.r g atL os x,h⟩
abbrev oE {l:List Tree}{i:Nat}{x:Tree}(h:l[i]?=some x):Ob ev:=⟨.e l i x,h⟩
abbrev oY {l:List UInt8}{i:Nat}{x:UInt8}(h:l[i]?=some x):Ob ev:=⟨.y l i x,h⟩
abbrev oV {x y:TV}(h:x=y):Ob ev:=⟨.v x y,h⟩
abbrev oN {o:aP}(h:∀σ,o.rn σ=some o):Ob ev:=⟨.n o,h⟩
theorem oa (l:List (Ob ev)):∀c∈vals l,c.holds ev:=λc hc=>by
 obtain⟨o,_,rfl⟩:=List.mem_map.1 hc;exact o.2
abbrev oU (ag:Bool)(sz:Nat)(es:List Tree)(h:eP ag sz es)(hn:es≠ []):Ob ev:=⟨.u ag sz es,h,hn⟩
abbrev oW (ag:Bool)(sz:Nat)(fs:List Tree)(h:eP ag sz fs):Ob ev:=⟨.w ag sz fs fs.length ((flat fs).map .t),rfl,rfl,h⟩
abbrev oA (a:Nat)(h:a<=70368744177664):Ob ev:=⟨.l a gI,h⟩
abbrev oZ:Ob ev:=⟨.z,trivial⟩
abbrev oQ (l:List Tree):Ob ev:=⟨.pp (((flat l).map TV.t).length=((flat l).map TV.t).length),rfl⟩
abbrev oP {p:Prop}(h:p):Ob ev:=⟨.pp p,h⟩
abbrev oO {x:Option TV}{v:TV}(h:x=some v):Ob ev:=⟨.po x v,h⟩
abbrev oK {x y:List TV}(h:x=y):Ob ev:=⟨.pc x y,h⟩
abbrev oM {x:Option (List (TV×TV×Nat)×Nat)}{y:List (TV×TV×Nat)}{c:Nat}(h:x=some (y,c)):Ob ev:=⟨.pm x y c,h⟩
abbrev oX (ag:Bool)(sz:Nat)(fs:List Tree)(len:Nat)(hl:len=fs.length)(h:eP ag sz fs):Ob ev:=⟨.w ag sz fs len ((flat fs).map .t),rfl,hl,h⟩
abbrev oH {l:List Tree}{i:Nat}{x:Tree}(h:l[i]?=some x):Ob ev:=⟨.l (i+1) l.length,(List.getElem?_eq_some_iff.1 h).1⟩
abbrev H8 (a b:Nat)(h:a+b<9223372036854775808):Ob ev:=⟨.v (.t (.int .i64 (IntKind.i64.wrap ((a:Int)+(b:Int))))) (.t (.int .i64 ((a+b:Nat):Int))),by
 show TV.t _=TV.t _;rw[wrap64 (by omega) (by omega)];rfl⟩
abbrev oJ {x:Option (TV×List (TV×TV×Nat)×Nat)}{v:TV}{y:List (TV×TV×Nat)}{c:Nat}(h:x=some (v,y,c)):Ob ev:=⟨.pe x v y c,h⟩
abbrev oR (a b:Nat)(h:a<=b):Ob ev:=⟨.l a b,h⟩
theorem zx {sz:Nat}{es:List Tree}{i j m:Nat}{e:Tree}(hu:∀e∈es,e.cells.length=sz)(he:es[i]?=some e)(hj:j+m<=sz):i*sz+j+m<=((flat es).map TV.t).length:=by
 have hi:i<es.length:=(List.getElem?_eq_some_iff.1 he).1;rw[List.length_map,fB hu];have:(i+1) *sz<=es.length*sz:=Nat.mul_le_mul_right _ hi;rw[Nat.succ_mul] at this;omega
theorem Vn {ag:Bool}{sz:Nat}{es:List Tree}(h:eP ag sz es):kT sz es=true:=by
 cases es with
 |nil=>rfl
 |cons e r=>simp only[kT,(h e List.mem_cons_self).1,BEq.rfl]
abbrev oS (n:Nat)(h:1<=n)(h2:n<9223372036854775807):Ob ev:=⟨.v (.t (.int .i64 (IntKind.i64.wrap ((n:Int) - 1)))) (.t (.int .i64 ((n - 1:Nat):Int))),by
 show TV.t _=TV.t _;rw[wrap64 (by omega) (by omega),show((n - 1:Nat):Int)=(n:Int) - 1 by omega]⟩
abbrev oG (k:IntKind)(a b:Int):Ob ev:=⟨.v (.t (.int k (if b>a then b else a))) (.t (.int k (max a b))),by
 show TV.t _=TV.t _;rw[show(if b>a then b else a)=max a b from by rw[Int.max_def];split<;>split<;>omega]⟩
abbrev oL (k:IntKind)(a b:Int):Ob ev:=⟨.v (.t (.int k (if b<a then b else a))) (.t (.int k (min a b))),by
 show TV.t _=TV.t _;rw[show(if b<a then b else a)=min a b from by rw[Int.min_def];split<;>split<;>omega]⟩
abbrev oI (n:Nat)(h:n<9223372036854775807):Ob ev:=⟨.v (.t (.int .i64 (IntKind.i64.wrap ((n:Int)+1)))) (.t (.int .i64 ((n+1:Nat):Int))),by
 show TV.t _=TV.t _;rw[wrap64 (by omega) (by omega)];rfl⟩
end obs
def Vo (S:List Nm)(slots:List TV):List Nat->Option (List (Nat×TV))
 | []=>some []
 | i::r=>match slots[i]?,Vo S slots r with
  |some v,some l=>(match v.rn (P6 S) with
   |some v=>some ((i,v)::l)
   |none=>none)
  |_,_=>none
def Vp (S:List Nm)(H:Heap):List Nm->M Heap
 | []=>dO []
 |k::r=>match H.get k,P6 S k with
  |some o,some k'=>br (rnO (P6 S) o) λo=>br (Vp S H r) λh=>dO ((k',o)::h)
  |_,_=>ja
def GF (n:Nat)(S ks:List Nm)(live:List Nat)(T:Nat)(s:St):M St:=
 match Nat.beq s.slots.length n&&S.all Nm.jf&&decide S.Nodup&&S.all (λk=>(s.H.get k).isSome)&&Nat.ble S.length T,Vo S s.slots live with
 |true,some sp=>br (Vp S s.H ks) λH=>dO ⟨eD n sp,H,T⟩
 |_,_=>ja
section norm
variable {ev:bt}{C:ez}
theorem QF {S:List Nm}{slots:List TV}:∀{live:List Nat} {sp:List (Nat×TV)},Vo S slots live=some sp->∀i,look sp i=.any\/∃v,slots[i]?=some v/\v.rn (P6 S)=some (look sp i)
 | [],sp,h,i=>by cases h;exact .inl rfl
 | j ::r,sp,h,i=>by
   simp only[Vo] at h
   split at h
   · rename_i v l h1 h2
     split at h
     · rename_i v' h3
       cases h
       rw[qB]
       by_cases e:i=j
       · subst e;rw[if_pos rfl];exact .inr ⟨v,h1,h3⟩
       · rw[if_neg e];exact QF h2 i
     · cases h
   · cases h
theorem QG {S:List Nm}{H:Heap}:∀{ks:List Nm},MP ev (Vp S H ks) λH'=>Ji (P6 S) H H'
 | []=>MP.ret trivial
 | k ::r=>by
   simp only[Vp]
   split
   · rename_i o k' h1 h2
     exact MP.bind TA λo' ho=>MP.bind (QG (ks:=r)) λh hh=>MP.ret ⟨⟨k,o,h1,h2,.inl ho⟩,hh⟩
   · exact MP.no
theorem Vq {σ:Nm->Option Nm}:∀{xs ys:List TV},xs.length=ys.length->(∀(i:Nat) (y:TV),ys[i]?=some y->y=TV.any\/∃x:TV,xs[i]?=some x/\x.rn σ=some y)->uN σ xs ys
 | [],[],_,_=>trivial
 | x ::xs,y::ys,hl,h=>by
   refine⟨?_,Vq (by simpa using hl) λi y hy=> ?_⟩
   · rcases h 0 y rfl with e|⟨x',e1,e2⟩
     · exact .inl e
     · cases e1;exact .inr e2
   · rcases h (i+1) y (by simpa using hy) with e|⟨x',e1,e2⟩
     · exact .inl e
     · exact .inr ⟨x',by simpa using e1,e2⟩
 | [],_::_,hl,_=>by simp at hl
 |_::_,[],hl,_=>by simp at hl
theorem wL {n:Nat}{S ks:List Nm}{live:List Nat}{T:Nat}{s:St}:MP ev (GF n S ks live T s) λs2=>Re C s s2:=by
 unfold GF;split
 ·rename_i sp hb hs;refine MP.bind QG λH' h1=>MP.ret ?_
  simp only[Bool.and_eq_true] at hb;obtain⟨⟨⟨⟨b1,b2⟩,b3⟩,b4⟩,b5⟩:=hb;have hn:=Nat.eq_of_beq_eq_true b1;obtain⟨slots,H,t⟩:=s;refine Re.mk S (Vq (by rw[jc];exact hn) λi y hy=> ?_) h1 (of_decide_eq_true b3) b2 (λk hk=>List.all_eq_true.1 b4 k hk) (Nat.le_of_ble_eq_true b5);have hi:i<n:=by have:=(List.getElem?_eq_some_iff.1 hy).1;simpa [jc] using this
  rw[rR hi] at hy;cases hy;exact QF hs i
 ·exact MP.no
end norm
section rules
variable {ev:bt}{C:ez}{f:FuncId}{R:Type}
theorem AX.frames {c:Code}{st:St}{Q:R->aS->St->Prop}(h:∃r,KE C (Q r) [.c c] .normal st):AX C c st Q:=h.imp λ_ h=>AW.mono h λ_ _ h=>h
def aiL (H:Heap)(v:TV):M (TV×List Nm):=match N4 v with
 |true=>br (Xq H ji v) λp=>dO (.t p.1,p.2)
 |false=>dO (match sF H ji v with
  |some (x,ks)=>(.t x,ks)
  |none=>(v,[]))
theorem aeA {H:Heap}{v:TV}:MP ev (aiL H v) λp=>(∃x ks,sF H ji v=some (x,ks)/\p=(.t x,ks))\/(sF H ji v=none/\p=(v,[])):=by
 unfold aiL;split
 ·exact MP.bind (N6 H ji v) λp hp=>MP.ret (.inl ⟨p.1,p.2,hp,rfl⟩)
 ·refine MP.ret ?_;cases h:sF H ji v with
  |none=>exact .inr ⟨rfl,rfl⟩
  |some q=>exact .inl ⟨q.1,q.2,rfl,rfl⟩
def H9 (C:ez)(fn:Func)(n:Nat)(st:St):M bh:=
 match l5 C st fn.results.toList with
 |none=>ja
 |some vs=>br (aiL st.H (Ct vs)) λp=>match tE (st.H.eY (eO st.H p.2)) 0 n with
  |none=>ja
  |some os=>br (N8 os) λl=>br (zu (st.H.eY (eO st.H p.2)) iI [] (p.1.names++l)) λR=>qF ((o4 (st.H.eY (eO st.H p.2)) R).map λh=>.ret p.1 os h)
theorem Mr {fn:Func}{n:Nat}{st:St}:MP ev (H9 C fn n st) λr=>finish C fn n st=some r:=by
 unfold H9;split
 ·exact MP.no
 ·rename_i vs hv;refine MP.bind aeA λp hp=> ?_
  split
  ·exact MP.no
  ·rename_i os ho;refine MP.bind JG λl hl=>MP.bind (wK _ _ _) λR hR=>(MP.Vi (dP.opt _)).mono λr hr=> ?_
   have h1:=hR.1;rw[← hl] at h1;unfold finish;rcases hp with ⟨x,ks,h2,rfl⟩|⟨h2,rfl⟩
   ·simp only at ho h1 hr;simp only[hv,h2,ho,h1];exact hr
   ·simp only at ho h1 hr;simp only[hv,h2,ho,h1];exact hr
def Oe (C:ez)(fn:Func)(m:Nat)(p:List Fr×aS×St):M bh:=match p with
 |([],.normal,s)=>H9 C fn m s
 |([],.ret,s)=>H9 C fn m s
 |([],.panic v,s)=>(match v.names.any Nm.jf with
  |false=>dO (.panic v (uY s.H 0 m))
  |true=>ja)
 |_=>ja
theorem aeB {fn:Func}{m:Nat}{p:List Fr×aS×St}:MP ev (Oe C fn m p) λr=>KE C (q8 C fn m r) p.1 p.2.1 p.2.2:=by
 unfold Oe;split
 ·exact Mr.mono λr h=>.inl h
 ·exact Mr.mono λr h=>.inl h
 ·split
  ·rename_i hv;exact MP.ret ⟨hv,rfl⟩
  ·exact MP.no
 ·exact MP.no
theorem aiM (hm:C.P.prog.follows .mixedOrders=true)(aK:aD C ev){fn:Func}{once:List Nat}{m n:Nat}{r:bh}{K:List Fr}{e:aS}{s:St}(obs:List (Ob ev))(h:br (goK C f once 100000 n K e s) (Oe C fn m) (vals obs)=some (r,[],vals obs)):KE C (q8 C fn m r) K e s:=
 MP.bind (rS hm aK n K e s) (λp hp=>aeB.mono λr hr=>hp _ hr) _ _ _ _ h (oa obs)
theorem alU (hm:C.P.prog.follows .mixedOrders=true)(aK:aD C ev){fn:Func}{once:List Nat}{m n:Nat}{K:List Fr}{e:aS}{s:St}{β:Type}(sh:bh->Option β)(mk:β->bh)(hmk:∀r b,sh r=some b->r=mk b)(obs:List (Ob ev))
 (h1:((br (goK C f once 100000 n K e s) (Oe C fn m) (vals obs)).map λp=>p.2)=some ([],vals obs))(h2:((br (goK C f once 100000 n K e s) (Oe C fn m) (vals obs)).bind λp=>sh p.1).isSome=true):∃b,KE C (q8 C fn m (mk b)) K e s:=by
 cases h:br (goK C f once 100000 n K e s) (Oe C fn m) (vals obs) with
 |none=>rw[h] at h1;cases h1
 | some p=>
  obtain⟨r,q⟩:=p
  rw[h] at h1 h2
  simp only[Option.map_some,Option.some.injEq] at h1
  subst h1
  cases hb:sh r with
  |none=>simp[hb] at h2
  |some b=>
   refine⟨b, ?_⟩
   rw[← hmk r b hb]
   exact aiM hm aK obs h
def JO (n:Nat)(S ks:List Nm)(live:List Nat)(T:Nat)(p:List Fr×aS×St):M St:=match p with
 |([],.normal,s)=>GF n S ks live T s
 |_=>ja
theorem Xw {n T:Nat}{S ks:List Nm}{live:List Nat}{p:List Fr×aS×St}:MP ev (JO n S ks live T p) λs2=>KE C (λe s=>e=.normal/\Re C s s2) p.1 p.2.1 p.2.2:=by
 unfold JO;split
 ·exact wL.mono λs2 h=>⟨rfl,h⟩
 ·exact MP.no
theorem aas (hm:C.P.prog.follows .mixedOrders=true)(aK:aD C ev){once:List Nat}{n k T:Nat}{S ks:List Nm}{live:List Nat}{s2:St}{K:List Fr}{e:aS}{s:St}(obs:List (Ob ev))(h:br (goK C f once 100000 n K e s) (JO k S ks live T) (vals obs)=some (s2,[],vals obs)):
 KE C (λe s=>e=.normal/\Re C s s2) K e s:=
 MP.bind (rS hm aK n K e s) (λp hp=>Xw.mono λr hr=>hp _ hr) _ _ _ _ h (oa obs)
def GG (p:Code->Bool):Code->List Fr->Option (Code×List Fr)
 |.seq a b,K=>(GG p a (.c b::K)).or (GG p b K)
 |.cond _ a b,K=>(GG p a K).or (GG p b K)
 |.block id c,K=>GG p c (.b id::K)
 |.loop c,K=>match p (.loop c) with
  |true=>some (c,K)
  |false=>GG p c []
 |x,K=>match p x with
  |true=>some (x,K)
  |false=>none
def aeC (r:Nat):Code->Bool
 |.loop c=>match xU c with
  |some i=>Nat.beq i r
  |none=>false
 |_=>false
def alV (r:Nat):Code->Bool
 |.region id _ _=>Nat.beq id r
 |_=>false
def j6 (B:Code)(r:Nat):Code×List Fr:=(GG (aeC r) B []).getD (.skip,[])
def alW (B:Code)(r:Nat):Code×List Fr:=(GG (alV r) B []).getD (.skip,[])
def Vr (n:Nat)(S ks:List Nm)(live:List Nat)(T:Nat)(p:List Fr×aS×St):M ((Code×List Fr)×St):=match p with
 |(.c (.loop b)::K,.normal,s)=>br (GF n S ks live T s) λs=>dO ((b,K),s)
 |_=>ja
theorem aat {n T:Nat}{S ks:List Nm}{live:List Nat}{p:List Fr×aS×St}:MP ev (Vr n S ks live T p) λq=>∃s,p=(.c (.loop q.1.1)::q.1.2,.normal,s)/\Re C s q.2:=by
 unfold Vr;split
 ·exact MP.bind wL λs2 h=>MP.ret ⟨_,rfl,h⟩
 ·exact MP.no
theorem alX (hm:C.P.prog.follows .mixedOrders=true)(aK:aD C ev){α:Type}(st:α->St)(ok:α->Prop)(μ:α->Nat)(x0:α){once:List Nat}{n k T:Nat}{S ks:List Nm}{live:List Nat}{K:List Fr}{e:aS}{s:St}{Q:R->aS->St->Prop}(L:Code×List Fr)(obs:List (Ob ev))
 (h:br (goK C f once 100000 n K e s) (Vr k S ks live T) (vals obs)=some ((L,st x0),[],vals obs))(h0:ok x0)
 (hs:∀x,ok x->∃o,KE C (xR C st (λy=>ok y/\μ y<μ x) (λr=>KE C (Q r) L.2) o) [.c L.1] .normal (st x)):∃r,KE C (Q r) K e s:=by
 have key:∃p:List Fr×aS×St,(∀Q,KE C Q p.1 p.2.1 p.2.2->KE C Q K e s)/\∃s,p=(.c (.loop L.1)::L.2,.normal,s)/\Re C s (st x0):=
  MP.bind (rS hm aK n K e s) (λp hp=>aat.mono λq hq=>show ∃p:List Fr×aS×St,(∀Q,KE C Q p.1 p.2.1 p.2.2->KE C Q K e s)/\∃s,p=(.c (.loop q.1.1)::q.1.2,.normal,s)/\Re C s q.2 from⟨p,hp,hq⟩) _ _ _ _ h (oa obs)
 obtain⟨p,hp,s',rfl,Lz⟩:=key
 obtain⟨r,hr⟩:=AX.loop (C:=C) (Q:=λr=>KE C (Q r) L.2) st ok μ x0 Lz h0 λx hx=>AX.frames (hs x hx)
 exact⟨r,hp _ hr⟩
abbrev GoR:=Option ((List Fr×aS×St)×List Cl×List Cl)
def exOf (r:GoR):aS:=match r with
 |some ((_,e,_),_,_)=>e
 |none=>.normal
def stOf (r:GoR):St:=match r with
 |some ((_,_,s),_,_)=>s
 |none=>⟨[],[],0⟩
def QH (r:GoR):Option (List Cl×List Cl):=match r with
 |some (([],.exit _,_),c,e)=>some (c,e)
 |some (([],.ret,_),c,e)=>some (c,e)
 |some (([],.panic _,_),c,e)=>some (c,e)
 |_=>none
theorem alY (hm:C.P.prog.follows .mixedOrders=true)(aK:aD C ev){α:Type}{st:α->St}{P:α->Prop}{Q:R->aS->St->Prop}{once:List Nat}{n:Nat}{K:List Fr}{e:aS}{s:St}(obs:List (Ob ev))(h:QH (goK C f once 100000 n K e s (vals obs))=some ([],vals obs))
 (k:∃r,Q r (exOf (goK C f once 100000 n K e s (vals obs))) (stOf (goK C f once 100000 n K e s (vals obs)))):∃o,KE C (xR C st P Q o) K e s:=by
 have hv:=oa obs
 obtain⟨r,hr⟩:=k
 refine⟨.inr r, ?_⟩
 cases hg:goK C f once 100000 n K e s (vals obs) with
 |none=>rw[hg] at h;cases h
 | some q=>
  obtain⟨⟨K',e',s'⟩,c,em⟩:=q
  rw[hg] at h hr
  cases K' with
  |cons=>cases h
  |nil=>
   cases e' with
   |normal=>cases h
   |exit i=>cases h;exact rS hm aK _ _ _ _ _ _ _ _ hg hv _ hr
   |ret=>cases h;exact rS hm aK _ _ _ _ _ _ _ _ hg hv _ hr
   |panic v=>cases h;exact rS hm aK _ _ _ _ _ _ _ _ hg hv _ hr
def atO (n:Nat)(S ks:List Nm)(live:List Nat)(T:Nat)(p:List Fr×aS×St):M ((Code×List Fr)×St):=match p with
 |(.c x::K,.normal,s)=>br (GF n S ks live T s) λs=>dO ((x,K),s)
 |_=>ja
theorem aiN {n T:Nat}{S ks:List Nm}{live:List Nat}{p:List Fr×aS×St}:MP ev (atO n S ks live T p) λq=>∃s,p=(.c q.1.1::q.1.2,.normal,s)/\Re C s q.2:=by
 unfold atO;split
 ·exact MP.bind wL λs2 h=>MP.ret ⟨_,rfl,h⟩
 ·exact MP.no
theorem kAt (hm:C.P.prog.follows .mixedOrders=true)(aK:aD C ev)(B:Code)(stop:Nat){once:List Nat}{n k T:Nat}{S ks:List Nm}{live:List Nat}{K:List Fr}{e:aS}{s:St}{Q:R->aS->St->Prop}{x:Code}{K':List Fr}(hL:alW B stop=(x,K'))(s2:St)(obs:List (Ob ev))
 (h:br (goK C f once stop n K e s) (atO k S ks live T) (vals obs)=some ((alW B stop,s2),[],vals obs))(k:AX C x s2 λr=>KE C (Q r) K'):∃r,KE C (Q r) K e s:=by
 rw[hL] at h
 have key:∃p:List Fr×aS×St,(∀Q,KE C Q p.1 p.2.1 p.2.2->KE C Q K e s)/\∃s,p=(.c x::K',.normal,s)/\Re C s s2:=
  MP.bind (rS hm aK n K e s) (λp hp=>aiN.mono λq hq=>show ∃p:List Fr×aS×St,(∀Q,KE C Q p.1 p.2.1 p.2.2->KE C Q K e s)/\∃s,p=(.c q.1.1::q.1.2,.normal,s)/\Re C s q.2 from⟨p,hp,hq⟩) _ _ _ _ h (oa obs)
 obtain⟨p,hp,s',rfl,Lz⟩:=key
 obtain⟨r,hr⟩:=k
 exact⟨r,hp _ (AW.re Lz hr)⟩
def aeD (n:Nat)(S ks:List Nm)(live:List Nat)(T:Nat)(p:List Fr×aS×St):M (aS×St):=match p with
 |([],.normal,s)=>br (GF n S ks live T s) λs=>dO (.normal,s)
 |([],.ret,s)=>br (GF n S ks live T s) λs=>dO (.ret,s)
 |_=>ja
theorem aeE {n T:Nat}{S ks:List Nm}{live:List Nat}{p:List Fr×aS×St}:MP ev (aeD n S ks live T p) λq=>(q.1=.normal\/q.1=.ret)/\∃s,p=([],q.1,s)/\Re C s q.2:=by
 unfold aeD;split
 ·exact MP.bind wL λs2 h=>MP.ret ⟨.inl rfl,_,rfl,h⟩
 ·exact MP.bind wL λs2 h=>MP.ret ⟨.inr rfl,_,rfl,h⟩
 ·exact MP.no
def SA (C:ez)(Q:aS->St->Prop):aS->St->Prop:=λe s=>Q e s\/((e=.normal\/e=.ret\/∃i,e=.exit i)/\∃s2,Re C s s2/\Q e s2)
theorem Vs {Q:aS->St->Prop}{G0:Gh}{w0 w':World}{a a':Act}{ex:Exit}(h0:∀p,¬G0.dom (.loc p)):(∃e st',SA C Q e st'/\Good C G0 w0 a e st' ex a' w')->∃e st',Q e st'/\Good C G0 w0 a e st' ex a' w':=by
 rintro ⟨e,st',hq,hg⟩;rcases hq with hq|⟨he,s2,Lz,hq⟩
 ·exact⟨e,st',hq,hg⟩
 ·rcases he with rfl|rfl|⟨i,rfl⟩
  ·obtain⟨G1,hs1,hd,e1,jk⟩:=hg;obtain⟨G2,hs2,qz⟩:=Lz G0 w0 G1 w' a' h0 hs1 jk;exact⟨.normal,s2,hq,G2,hs2,hd,e1,qz⟩
  ·obtain⟨G1,hs1,hd,e1,jk⟩:=hg;obtain⟨G2,hs2,qz⟩:=Lz G0 w0 G1 w' a' h0 hs1 jk;exact⟨.ret,s2,hq,G2,hs2,hd,e1,qz⟩
  ·obtain⟨G1,hs1,hd,e1,jk⟩:=hg;obtain⟨G2,hs2,qz⟩:=Lz G0 w0 G1 w' a' h0 hs1 jk;exact⟨.exit i,s2,hq,G2,hs2,hd,e1,qz⟩
theorem AW.rD {c:Code}{st:St}{Q:aS->St->Prop}(h:AW C c st (SA C Q)):AW C c st Q:=λG0 w0 G w a h0 hs hst=>wp_mono (h G0 w0 G w a h0 hs hst) λex a' w' hp=>Vs h0 hp
theorem Pm.rD {b:Code}{n:Nat}{st:St}{Q:aS->St->Prop}(h:Pm C b n st (SA C Q)):Pm C b n st Q:=λG0 w0 G w a a1 h0 hs hd hst=>zw (λ_ _ _ hp=>Vs h0 hp) n (h G0 w0 G w a a1 h0 hs hd hst)
theorem KE.C5 {Q:aS->St->Prop}:∀{K:List Fr} {e:aS} {s:St},KE C (SA C Q) K e s->SA C (KE C Q K) e s
 | [],_,_,h=>h
 |.c x::K,.normal,s,h=>.inl (AW.rD (AW.mono h λ_ _ h=>KE.C5 h))
 |.c _::K,.exit i,s,h=>KE.C5 (K:=K) h
 |.c _::K,.ret,s,h=>KE.C5 (K:=K) h
 |.c _::K,.panic v,s,h=>KE.C5 (K:=K) h
 | .b id::K,.exit i,s,h=>by
   by_cases e:i=id
   · have h:KE C (SA C Q) K .normal s:=by
       have h:(if i=id then KE C (SA C Q) K .normal s else KE C (SA C Q) K (.exit i) s):=h
       rwa [if_pos e] at h
     rcases KE.C5 h with h|⟨_,s2,Lz,h⟩
     · exact .inl (show(if i=id then KE C Q K .normal s else KE C Q K (.exit i) s) by rwa [if_pos e])
     · exact .inr ⟨.inr (.inr ⟨i,rfl⟩),s2,Lz,show(if i=id then KE C Q K .normal s2 else KE C Q K (.exit i) s2) by rwa [if_pos e]⟩
   · have h:KE C (SA C Q) K (.exit i) s:=by
       have h:(if i=id then KE C (SA C Q) K .normal s else KE C (SA C Q) K (.exit i) s):=h
       rwa [if_neg e] at h
     rcases KE.C5 h with h|⟨_,s2,Lz,h⟩
     · exact .inl (show(if i=id then KE C Q K .normal s else KE C Q K (.exit i) s) by rwa [if_neg e])
     · exact .inr ⟨.inr (.inr ⟨i,rfl⟩),s2,Lz,show(if i=id then KE C Q K .normal s2 else KE C Q K (.exit i) s2) by rwa [if_neg e]⟩
 |.b _::K,.normal,s,h=>KE.C5 (K:=K) h
 |.b _::K,.ret,s,h=>KE.C5 (K:=K) h
 |.b _::K,.panic v,s,h=>KE.C5 (K:=K) h
 |.x _ _::K,.normal,s,h=>.inl (Pm.rD (Pm.mono h λ_ _ h=>KE.C5 (K:=K) h))
 |.x _ _::K,.exit i,s,h=>KE.C5 (K:=K) h
 |.x _ _::K,.ret,s,h=>KE.C5 (K:=K) h
 |.x _ _::K,.panic v,s,h=>KE.C5 (K:=K) h
def C6:List Fr->aS->Bool
 | [],_=>false
 |.c _::_,.normal=>true
 |.c _::K,e=>C6 K e
 |.b id::K,.exit i=>if i=id then C6 K .normal else C6 K (.exit i)
 |.b _::K,e=>C6 K e
 |.x _ _::_,.normal=>false
 |.x _ _::K,e=>C6 K e
theorem KE.rD {Q:aS->St->Prop}:∀{K:List Fr} {e:aS} {s:St},C6 K e=true->KE C (SA C Q) K e s->KE C Q K e s
 | [],_,_,hd,_=>by cases hd
 |.c x::K,.normal,s,_,h=>AW.rD (AW.mono h λ_ _ h=>KE.C5 h)
 |.c _::K,.exit i,s,hd,h=>KE.rD (K:=K) hd h
 |.c _::K,.ret,s,hd,h=>KE.rD (K:=K) hd h
 |.c _::K,.panic v,s,hd,h=>KE.rD (K:=K) hd h
 |.b id::K,.exit i,s,hd,h=>by
  have h:(if i=id then KE C (SA C Q) K .normal s else KE C (SA C Q) K (.exit i) s):=h
  have hd:(if i=id then C6 K .normal else C6 K (.exit i))=true:=hd
  show(if i=id then KE C Q K .normal s else KE C Q K (.exit i) s)
  by_cases e:i=id
  · rw[if_pos e] at h hd ⊢;exact KE.rD hd h
  · rw[if_neg e] at h hd ⊢;exact KE.rD hd h
 |.b _::K,.normal,s,hd,h=>KE.rD (K:=K) hd h
 |.b _::K,.ret,s,hd,h=>KE.rD (K:=K) hd h
 |.b _::K,.panic v,s,hd,h=>KE.rD (K:=K) hd h
 |.x _ _::_,.normal,_,hd,_=>by cases hd
 |.x _ _::K,.exit i,s,hd,h=>KE.rD (K:=K) hd h
 |.x _ _::K,.ret,s,hd,h=>KE.rD (K:=K) hd h
 |.x _ _::K,.panic v,s,hd,h=>KE.rD (K:=K) hd h
theorem aiO (hm:C.P.prog.follows .mixedOrders=true)(aK:aD C ev){once:List Nat}{n k T:Nat}{S ks:List Nm}{live:List Nat}{K:List Fr}{e:aS}{s:St}{Q:R->aS->St->Prop}(e2:aS)(s2:St)(obs:List (Ob ev))(hd:C6 K e=true)
 (h:br (goK C f once 100000 n K e s) (aeD k S ks live T) (vals obs)=some ((e2,s2),[],vals obs))(k:∃r,Q r e2 s2):∃r,KE C (Q r) K e s:=by
 have key:∀Q,Q e2 s2->KE C (SA C Q) K e s:=
  MP.bind (rS hm aK n K e s) (λp hp=>aeE.mono λq hq=>show ∀Q:aS->St->Prop,Q q.1 q.2->KE C (SA C Q) K e s fromλQ hk=>hp _ (by
   obtain⟨he,s',e1,Lz⟩:=hq;rw[e1];exact .inr ⟨he.elim .inl λh=>.inr (.inl h),q.2,Lz,hk⟩)) _ _ _ _ h (oa obs)
 exact k.imp λr hr=>KE.rD hd (key _ hr)
theorem aM (b:Bool):b=true\/b=false:=by cases b<;>simp
theorem kF (hm:C.P.prog.follows .mixedOrders=true)(aK:aD C ev){fn:Func}{m:Nat}{r:bh}{K:List Fr}{e:aS}{s:St}(obs:List (Ob ev))(h:br (goK C 0 [] 100000 3000 K e s) (Oe C fn m) (vals obs)=some (r,[],vals obs)):KE C (q8 C fn m r) K e s:=aiM hm aK obs h
theorem kO (hm:C.P.prog.follows .mixedOrders=true)(aK:aD C ev){α:Type}{st:α->St}{P:α->Prop}{Q:R->aS->St->Prop}{K:List Fr}{e:aS}{s:St}(obs:List (Ob ev))(h:QH (goK C 0 [] 100000 3000 K e s (vals obs))=some ([],vals obs))
 (k:∃r,Q r (exOf (goK C 0 [] 100000 3000 K e s (vals obs))) (stOf (goK C 0 [] 100000 3000 K e s (vals obs)))):∃o,KE C (xR C st P Q o) K e s:=alY hm aK obs h k
theorem elt (l:List Tree)(i:Nat)(h:i<l.length):∃e,l[i]?=some e:=⟨_,List.getElem?_eq_getElem h⟩
def JP:Code->List Fr->List Fr
 |.seq a b,K=>JP a (.c b::K)
 |.block id c,K=>JP c (.b id::K)
 |x,K=>.c x::K
theorem BL:∀(a:Code) (K:List Fr),∃x F,JP a K=.c x::F
 |.seq a b,K=>BL a (.c b::K)
 |.block id c,K=>BL c (.b id::K)
 |.region _ _ _,_=>⟨_,_,rfl⟩
 |.cond _ _ _,_=>⟨_,_,rfl⟩
 |.loop _,_=>⟨_,_,rfl⟩
 |.rangeFunc _ _ _ _,_=>⟨_,_,rfl⟩
 |.exit _,_=>⟨_,_,rfl⟩
 |.scope _,_=>⟨_,_,rfl⟩
 |.label _,_=>⟨_,_,rfl⟩
 |.goto _,_=>⟨_,_,rfl⟩
 |.ret,_=>⟨_,_,rfl⟩
 |.refuse _,_=>⟨_,_,rfl⟩
 |.skip,_=>⟨_,_,rfl⟩
def JQ (r:Nat):Code->List Fr->Option ((Code×Code)×List Fr)
 |.seq a b,K=>match isIn [r] (xU b) with
  |true=>some ((a,b),K)
  |false=>(JQ r a (.c b::K)).or (JQ r b K)
 |.cond _ a b,K=>(JQ r a K).or (JQ r b K)
 |.block id c,K=>JQ r c (.b id::K)
 |.loop c,_=>JQ r c []
 |_,_=>none
def aeF (B:Code)(r:Nat):(Code×Code)×List Fr:=(JQ r B []).getD ((.skip,.skip),[])
theorem KE.uN {Q Q':aS->St->Prop}{G:List Fr}(hq:∀e s,Q e s->KE C Q' G e s):∀{F:List Fr} {e:aS} {s:St},KE C Q F e s->KE C Q' (F++G) e s
 | [],e,s,h=>hq e s h
 |.c x::F,.normal,s,h=>AW.mono (show AW C x s (KE C Q F) from h) λ_ _ h=>KE.uN hq h
 |.c _::F,.exit i,s,h=>KE.uN hq (F:=F) h
 |.c _::F,.ret,s,h=>KE.uN hq (F:=F) h
 |.c _::F,.panic v,s,h=>KE.uN hq (F:=F) h
 |.b id::F,.exit i,s,h=>by
  have h:(if i=id then KE C Q F .normal s else KE C Q F (.exit i) s):=h
  show(if i=id then KE C Q' (F++G) .normal s else KE C Q' (F++G) (.exit i) s)
  by_cases e:i=id
  · rw[if_pos e] at h ⊢;exact KE.uN hq h
  · rw[if_neg e] at h ⊢;exact KE.uN hq h
 |.b _::F,.normal,s,h=>KE.uN hq (F:=F) h
 |.b _::F,.ret,s,h=>KE.uN hq (F:=F) h
 |.b _::F,.panic v,s,h=>KE.uN hq (F:=F) h
 |.x _ _::F,.normal,s,h=>Pm.mono h λ_ _ h=>KE.uN hq (F:=F) h
 |.x _ _::F,.exit i,s,h=>KE.uN hq (F:=F) h
 |.x _ _::F,.ret,s,h=>KE.uN hq (F:=F) h
 |.x _ _::F,.panic v,s,h=>KE.uN hq (F:=F) h
def aau (n:Nat)(S ks:List Nm)(live:List Nat)(T:Nat)(p:List Fr×aS×St):M (List Fr×St):=match p with
 |(K,.normal,s)=>br (GF n S ks live T s) λs=>dO (K,s)
 |_=>ja
theorem aav {n T:Nat}{S ks:List Nm}{live:List Nat}{p:List Fr×aS×St}:MP ev (aau n S ks live T p) λq=>∃s,p=(q.1,.normal,s)/\Re C s q.2:=by
 unfold aau;split
 ·exact MP.bind wL λs2 h=>MP.ret ⟨_,rfl,h⟩
 ·exact MP.no
theorem Vt (hm:C.P.prog.follows .mixedOrders=true)(aK:aD C ev){α:Type}(st:α->St)(ok:α->Prop)(stop:Nat){once:List Nat}{n k T:Nat}{S ks:List Nm}{live:List Nat}{K:List Fr}{e:aS}{s:St}{Q:R->aS->St->Prop}(L:(Code×Code)×List Fr)(s0:St)(obs:List (Ob ev))
 (h:br (goK C f once stop n K e s) (aau k S ks live T) (vals obs)=some ((JP L.1.1 []++ .c L.1.2::L.2,s0),[],vals obs))
 (h1:∃o,KE C (xR C st ok (λr=>KE C (Q r) (.c L.1.2::L.2)) o) (JP L.1.1 []) .normal s0)
 (h2:∀x,ok x->∃r,KE C (Q r) (.c L.1.2::L.2) .normal (st x)):∃r,KE C (Q r) K e s:=by
 have key:∃p:List Fr×aS×St,(∀Q,KE C Q p.1 p.2.1 p.2.2->KE C Q K e s)/\∃s,p=(JP L.1.1 []++ .c L.1.2::L.2,.normal,s)/\Re C s s0:=
  MP.bind (rS hm aK n K e s) (λp hp=>aav.mono λq hq=>show ∃p:List Fr×aS×St,(∀Q,KE C Q p.1 p.2.1 p.2.2->KE C Q K e s)/\∃s,p=(q.1,.normal,s)/\Re C s q.2 from⟨p,hp,hq⟩) _ _ _ _ h (oa obs)
 obtain⟨p,hp,s',rfl,Lz⟩:=key
 have fin:∃r,KE C (Q r) (JP L.1.1 []++ .c L.1.2::L.2) .normal s0:=by
  obtain⟨o,ho⟩:=h1;cases o with
  |inl y=>
   obtain⟨r,hr⟩:=h2 y.1 y.2
   refine⟨r,KE.uN (λe s hq=> ?_) ho⟩
   obtain⟨rfl,Lz⟩:=hq
   exact AW.re Lz hr
  |inr r=>
   refine⟨r,KE.uN (λe s hq=> ?_) ho⟩
   cases e with
   |normal=>exact False.elim hq
   |exit i=>exact hq
   |ret=>exact hq
   |panic v=>exact hq
 obtain⟨r,hr⟩:=fin
 refine⟨r,hp _ ?_⟩
 obtain⟨x,F,hF⟩:=BL L.1.1 []
 rw[hF] at hr ⊢
 exact AW.re Lz hr
end rules
attribute [irreducible] goK KE stOf exOf
end Go.Abs
noncomputable section
namespace Go.Abs
open Go
def KM (K:Tree->Prop)(es:List (TV×TV×Nat)):Prop:=∀e∈es,∃(x:Tree) (n:Int) (b:Nat),K x/\e=(.t x,.t (.int .i64 n),b)
theorem KM.nil {K:Tree->Prop}:KM K []:=λ_ h=>by cases h
structure KEq (P:j3)(kt:TypeId)(d:TypeDesc)(K:Tree->Prop):Prop where
 same:∀x,K x->Pq P kt d (.t x) (.t x)=some true/\∃u,l9 (.t x)=some u/\Instr.sameBits 10000 u u=true
 other:∀x y,K x->K y->x≠y->Pq P kt d (.t x) (.t y)=some false
 ok:∀x b,K x->yS P b kt (.t x)=true
open Classical in
def jr:List (TV×TV×Nat)->Tree->Nat->Option (Nat×TV×Nat)
 | [],_,_=>none
 |(k,v,b)::r,x,i=>if k=.t x then some (i,v,b) else jr r x (i+1)
theorem Og {P:j3}{kt:TypeId}{d:TypeDesc}{K:Tree->Prop}(h:KEq P kt d K){x:Tree}(hx:K x):∀{es:List (TV×TV×Nat)},KM K es->∀i,ox P kt d (.t x) es i=some (jr es x i)
 | [],_,i=>rfl
 | e ::es,hs,i=>by
   obtain⟨y,n,b,hy,rfl⟩:=hs e List.mem_cons_self
   unfold ox jr
   by_cases hxy:x=y
   · subst hxy
     obtain⟨h1,u,h2,h3⟩:=h.same x hx
     simp only[h1,h2,h3,if_true]
   · rw[h.other x y hx hy hxy]
     have:¬(TV.t y=TV.t x):=λe=>hxy (TV.t.inj e).symm
     rw[if_neg this]
     exact Og h hx (λe he=>hs e (List.mem_cons_of_mem _ he)) (i+1)
theorem AA {K:Tree->Prop}{x:Tree}:∀{es:List (TV×TV×Nat)},KM K es->∀i j v b,jr es x i=some (j,v,b)->i<=j/\es[j - i]?=some (.t x,v,b)/\∃n:Int,v=.t (.int .i64 n)
 | [],_,_,_,_,_,h=>by cases h
 | e ::es,hs,i,j,v,b,h=>by
   obtain⟨y,n,b',hy,rfl⟩:=hs e List.mem_cons_self
   unfold jr at h
   split at h
   · rename_i e1
     cases h
     rw[Nat.sub_self]
     exact⟨Nat.le_refl _,by rw[e1];rfl,n,rfl⟩
   · obtain⟨h1,h2,h3⟩:=AA (λe he=>hs e (List.mem_cons_of_mem _ he)) (i+1) j v b h
     refine⟨by omega, ?_,h3⟩
     rw[show j - i=(j - (i+1))+1 by omega]
     exact h2
def kZ (es:List (TV×TV×Nat))(x:Tree):Int:=match jr es x 0 with
 |some (_,.t (.int _ n),_)=>n
 |_=>0
def nN (es:List (TV×TV×Nat))(c:Nat)(x:Tree)(n:Int):List (TV×TV×Nat):=match jr es x 0 with
 |some (i,_,b)=>es.set i (.t x,.t (.int .i64 n),b)
 |none=>es++[(.t x,.t (.int .i64 n),c)]
def uK (es:List (TV×TV×Nat))(c:Nat)(x:Tree):Nat:=match jr es x 0 with
 |some _=>c
 |none=>c+1
section
variable {P:j3}{ty kt et:TypeId}{ti tk te:TI}{K:Tree->Prop}{x:Tree}{es:List (TV×TV×Nat)}
theorem wM (ht:P.ty ty=some ti)(hd:ti.desc=.map kt et)(hk:P.ty kt=some tk)(he:P.ty et=some te)(hez:te.zero=some (.t (.int .i64 0)))(hK:KEq P kt tk.desc K)(hS:KM K es)(hx:K x):
 A9 P ty es (.t x) false=some (.t (.int .i64 (kZ es x))):=by
 have h:=Og hK hx hS 0
 have h2:=AA hS 0 (x:=x)
 unfold kZ
 cases hf:jr es x 0 with
 |none=>
  rw[hf] at h
  simp only[A9,bx,ht,hd,hk,he,hK.ok x _ hx,if_true,h,hez,Bool.false_eq_true,if_false]
 |some p=>
  obtain⟨j,v,b⟩:=p
  rw[hf] at h
  obtain⟨_,_,n,rfl⟩:=h2 j v b hf
  simp only[A9,bx,ht,hd,hk,he,hK.ok x _ hx,if_true,h,hez,Bool.false_eq_true,if_false]
end
theorem iV {K:Tree->Prop}{es:List (TV×TV×Nat)}(h:KM K es){x:Tree}(hx:K x)(c:Nat)(n:Int):KM K (nN es c x n):=by
 unfold nN;split
 ·rename_i i v b hf;intro e he;rcases List.mem_or_eq_of_mem_set he with he|he
  ·exact h e he
  ·exact⟨x,n,b,hx,he⟩
 ·intro e he;rcases List.mem_append.1 he with he|he
  ·exact h e he
  ·simp only[List.mem_singleton] at he;exact⟨x,n,c,hx,he⟩
open Classical in
theorem Fh {y x:Tree}{v:TV}{c:Nat}:∀{es:List (TV×TV×Nat)} (i:Nat),jr (es++[(.t x,v,c)]) y i=match jr es y i with
    |some p=>some p
    |none=>if x=y then some (i+es.length,v,c) else none
  | [],i=>by
    simp only[List.nil_append,jr,List.length_nil,Nat.add_zero]
    by_cases h:x=y
    · rw[if_pos h,if_pos (by rw[h])]
    · rw[if_neg h,if_neg (λe=>h (TV.t.inj e))]
  | e ::es,i=>by
    obtain⟨k,w,b⟩:=e
    simp only[List.cons_append,jr]
    split
    · rfl
    · rw[Fh (i+1)]
      simp only[List.length_cons]
      rw[show i+1+es.length=i+(es.length+1) by omega]
theorem yy {y x:Tree}(hxy:x≠y){v:TV}{b:Nat}:∀{es:List (TV×TV×Nat)} (i j:Nat) (w:TV) (b':Nat),es[j]?=some (.t x,w,b')->jr (es.set j (.t x,v,b)) y i=jr es y i
 | [],_,_,_,_,h=>by simp at h
 |e::es,i,0,w,b',h=>by
  simp only[List.getElem?_cons_zero,Option.some.injEq] at h
  subst h
  have hne:¬(TV.t x=TV.t y):=λe=>hxy (TV.t.inj e)
  simp only[List.set_cons_zero,jr,if_neg hne]
 |e::es,i,j+1,w,b',h=>by
  obtain⟨k,w0,b0⟩:=e
  simp only[List.set_cons_succ,jr]
  rw[yy hxy (i+1) j w b' (by simpa using h)]
theorem zy {x:Tree}{v:TV}{b:Nat}:∀{es:List (TV×TV×Nat)} (i j:Nat) (w:TV) (b':Nat),jr es x i=some (i+j,w,b')->jr (es.set j (.t x,v,b)) x i=some (i+j,v,b)
 | [],_,_,_,_,h=>by cases h
 | e ::es,i,j,w,b',h=>by
   obtain⟨k,w0,b0⟩:=e
   unfold jr at h
   split at h
   · rename_i hk
     have:j=0:=by
       simp only[Option.some.injEq,Prod.mk.injEq] at h
       omega
     subst this
     simp only[List.set_cons_zero,jr,if_true,Nat.add_zero]
   · rename_i hk
     cases j with
     | zero=>
       exfalso
       have:∀(l:List (TV×TV×Nat)) (a q:Nat) (u:TV) (z:Nat),jr l x a=some (q,u,z)->a<=q:=by
         intro l
         induction l with
         |nil=>intro a q u z h;cases h
         | cons e r ih=>
           obtain⟨k1,w1,b1⟩:=e
           intro a q u z h
           unfold jr at h
           split at h
           · cases h;exact Nat.le_refl _
           · have:=ih _ _ _ _ h;omega
       have:=this _ _ _ _ _ h
       omega
     | succ j=>
       simp only[List.set_cons_succ,jr,if_neg hk]
       rw[show i+(j+1)=i+1+j by omega] at h ⊢
       exact zy (i+1) j w b' h
theorem BM {K:Tree->Prop}{es:List (TV×TV×Nat)}(h:KM K es)(x:Tree)(c:Nat)(n:Int):kZ (nN es c x n) x=n:=by
 unfold kZ nN;cases hf:jr es x 0 with
 |some p=>
  obtain⟨i,v,b⟩:=p
  simp only
  rw[show jr (es.set i (.t x,.t (.int .i64 n),b)) x 0=some (0+i,.t (.int .i64 n),b) from zy 0 i v b (by rw[Nat.zero_add];exact hf)]
 |none=>
  simp only
  rw[Fh 0,hf]
  simp
theorem GH {K:Tree->Prop}{es:List (TV×TV×Nat)}(h:KM K es){x y:Tree}(hxy:x≠y)(c:Nat)(n:Int):kZ (nN es c x n) y=kZ es y:=by
 unfold kZ nN;cases hf:jr es x 0 with
 |some p=>
  obtain⟨i,v,b⟩:=p
  obtain⟨_,h2,_⟩:=AA h 0 i v b hf
  rw[Nat.sub_zero] at h2
  simp only
  rw[yy hxy 0 i v b h2]
 |none=>
  simp only
  rw[Fh 0]
  cases jr es y 0 with
  |some p=>rfl
  |none=>simp only[if_neg hxy]
theorem wN {P:j3}{ty kt et:TypeId}{ti tk te:TI}{K:Tree->Prop}{x:Tree}{es:List (TV×TV×Nat)}(ht:P.ty ty=some ti)(hd:ti.desc=.map kt et)(hk:P.ty kt=some tk)(he:P.ty et=some te)(hez:te.zero=some (.t (.int .i64 0)))(hK:KEq P kt tk.desc K)(hS:KM K es)(hx:K x)(c:Nat):
 A9 P ty (nN es c x (kZ es x)) (.t x) false=some (.t (.int .i64 (kZ es x))):=by
 rw[wM ht hd hk he hez hK (iV hS hx c _) hx,BM hS]
def KB (es:List (TV×TV×Nat))(c:Nat):Prop:=(es.map (·.2.2)).Nodup/\∀e∈es,e.2.2<c
theorem KB.nil:KB [] 0:=⟨List.nodup_nil,λ_ h=>by cases h⟩
def stM (es:List (TV×TV×Nat))(c:Nat)(x:Tree):Nat:=match jr es x 0 with
 |some (_,_,b)=>b
 |none=>c
theorem KB.up {K:Tree->Prop}{es:List (TV×TV×Nat)}{c:Nat}(h:KB es c)(hS:KM K es)(x:Tree)(n:Int):KB (nN es c x n) (uK es c x):=by
 unfold nN uK;cases hf:jr es x 0 with
 | some p=>
   obtain⟨i,v,b⟩:=p
   obtain⟨_,h2,_⟩:=AA hS 0 i v b hf
   rw[Nat.sub_zero] at h2
   obtain⟨hi,h3⟩:=List.getElem?_eq_some_iff.1 h2
   have e:(es.set i (.t x,.t (.int .i64 n),b)).map (·.2.2)=es.map (·.2.2):=by
     rw[List.map_set]
     have:(es.map (·.2.2))[i]'(by simpa using hi)=b:=by rw[List.getElem_map,h3]
     conv=>lhs;rw[show((TV.t x,TV.t (.int .i64 n),b):TV×TV×Nat).2.2=(es.map (·.2.2))[i]'(by simpa using hi) from this.symm]
     exact List.set_getElem_self _
   refine⟨by rw[e];exact h.1,λy hy=> ?_⟩
   rcases List.mem_or_eq_of_mem_set hy with hy|hy
   · exact h.2 y hy
   · have:=h.2 _ (List.mem_of_getElem? h2)
     rw[hy];exact this
 | none=>
   refine⟨?_,λy hy=> ?_⟩
   · rw[List.map_append]
     refine List.nodup_append.2 ⟨h.1,by simp,λa ha b hb=> ?_⟩
     simp only[List.map_cons,List.map_nil,List.mem_singleton] at hb
     subst hb
     obtain⟨e,he,rfl⟩:=List.mem_map.1 ha
     have:=h.2 e he
     omega
   · rcases List.mem_append.1 hy with hy|hy
     · have:=h.2 y hy;show _<c+1;omega
     · simp only[List.mem_singleton] at hy;rw[hy];exact Nat.lt_succ_self c
theorem BN:∀{es:List (TV×TV×Nat)} {i:Nat} {e:TV×TV×Nat} (q:Nat),(es.map (·.2.2)).Nodup->es[i]?=some e->sK es (e.2.2:Int) q=some (q+i)
 | [],_,_,_,_,h=>by simp at h
 |(k,v,b)::r,0,e,q,hn,h=>by
  simp only[List.getElem?_cons_zero,Option.some.injEq] at h
  subst h
  simp only[sK,if_true,Nat.add_zero]
 |(k,v,b)::r,i+1,e,q,hn,h=>by
  have h':r[i]?=some e:=by simpa using h
  simp only[List.map_cons,List.nodup_cons] at hn
  have hne:¬((b:Int)=(e.2.2:Int)):=λx=>hn.1 (List.mem_map.2 ⟨e,List.mem_of_getElem? h',by omega⟩)
  simp only[sK,if_neg hne]
  rw[BN (q+1) hn.2 h',show q+1+i=q+(i+1) by omega]
section
variable {P:j3}{ty kt et:TypeId}{ti tk te:TI}{K:Tree->Prop}{x:Tree}{es:List (TV×TV×Nat)}
theorem C7 (ht:P.ty ty=some ti)(hd:ti.desc=.map kt et)(hk:P.ty kt=some tk)(he:P.ty et=some te)(hez:te.zero=some (.t (.int .i64 0)))(hK:KEq P kt tk.desc K)(hS:KM K es)(hx:K x)(c:Nat):
 Xs P ty es c (.t x)=some (.t (.bU [.int .i64 (kZ es x),.int .i64 (stM es c x)]),nN es c x (kZ es x),uK es c x):=by
 have h:=Og hK hx hS 0
 have h2:=AA hS 0 (x:=x)
 unfold kZ nN uK stM
 cases hf:jr es x 0 with
 |none=>
  rw[hf] at h
  simp only[Xs,bx,ht,hd,hk,he,hK.ok x _ hx,if_true,h,hez]
  rfl
 |some p=>
  obtain⟨j,v,b⟩:=p
  rw[hf] at h
  obtain⟨_,_,n,rfl⟩:=h2 j v b hf
  simp only[Xs,bx,ht,hd,hk,he,hK.ok x _ hx,if_true,h,hez]
  rfl
end
theorem C8 {K:Tree->Prop}{x:Tree}{es:List (TV×TV×Nat)}{c:Nat}(hS:KM K es)(hB:KB es c)(n0 n:Int):
 aaf (nN es c x n0) (uK es c x) (stM es c x:Nat) (.t (.int .i64 n))=some (nN es c x n,uK es c x):=by
 have hB2:=(hB.up hS x n0).1
 unfold aaf
 cases hf:jr es x 0 with
 |some p=>
  obtain⟨i,v,b⟩:=p
  obtain⟨_,h2,_⟩:=AA hS 0 i v b hf
  rw[Nat.sub_zero] at h2
  have hi:=(List.getElem?_eq_some_iff.1 h2).1
  have e1:∀m:Int,nN es c x m=es.set i (.t x,.t (.int .i64 m),b):=λm=>by unfold nN;rw[hf]
  have e2:stM es c x=b:=by unfold stM;rw[hf]
  have h3:(nN es c x n0)[i]?=some (.t x,.t (.int .i64 n0),b):=by rw[e1,List.getElem?_set_self (by simpa using hi)]
  have h4:=BN 0 hB2 h3
  rw[Nat.zero_add] at h4
  rw[e2,h4]
  simp only[h3]
  rw[e1,e1,List.set_set]
 |none=>
  have e1:∀m:Int,nN es c x m=es++[(.t x,.t (.int .i64 m),c)]:=λm=>by unfold nN;rw[hf]
  have e2:stM es c x=c:=by unfold stM;rw[hf]
  have h3:(nN es c x n0)[es.length]?=some (.t x,.t (.int .i64 n0),c):=by rw[e1];simp
  have h4:=BN 0 hB2 h3
  rw[Nat.zero_add] at h4
  rw[e2,h4]
  simp only[h3]
  rw[e1,e1]
  simp
theorem alZ {σ:Nm->Option Nm}{K:Tree->Prop}{es:List (TV×TV×Nat)}{c:Nat}(h:KM K es):aP.rn σ (.map es c)=some (.map es c):=by
 have:YE σ es=some es:=by
  induction es with
  |nil=>rfl
  |cons e r ih=>
   obtain⟨x,n,b,_,rfl⟩:=h e List.mem_cons_self
   simp only[YE,TV.rn,ih λe he=>h e (List.mem_cons_of_mem _ he)]
 simp only[aP.rn,this,Option.map_some]
end Go.Abs
end
