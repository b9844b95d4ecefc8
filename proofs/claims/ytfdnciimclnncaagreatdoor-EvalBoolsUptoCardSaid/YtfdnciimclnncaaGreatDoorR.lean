/- Whole paths by the kernel: the interpreter asks for what it cannot tell (truths, answers of calls, elements of lists), and what it was told is proved beside. -/
import Derived.Test.YtfdnciimclnncaaGreatDoorQ
set_option linter.unusedVariables false
set_option linter.unusedSimpArgs false
noncomputable section
namespace Go.Abs
open Go
inductive Cl where
 |b (x c:Bool)
 |r (g:FuncId) (atM:List TV) (os:List aO) (x:br)
 |e (l:List Tree) (i:Nat) (x:Tree)
 |y (s:List UInt8) (i:Nat) (x:UInt8)
 |v (x y:TV)
 |n (o:aO)
 |z
 |u (ag:Bool) (sz:Nat) (es:List Tree)
 |w (ag:Bool) (sz:Nat) (fs:List Tree) (len:Nat) (cs:List TV)
 |l (a b:Nat)
 |pp (p:Prop)
 |po (x:Option TV) (v:TV)
 |pc (x y:List TV)
 |pm (x:Option (List (TV×TV×Nat)×Nat)) (y:List (TV×TV×Nat)) (c:Nat)
 |pe (x:Option (TV×List (TV×TV×Nat)×Nat)) (v:TV) (y:List (TV×TV×Nat)) (c:Nat)
def Cl.holds (ev:bt):Cl->Prop
 |.b p q=>p=q
 |.r g atM os q=>ev g atM os=some q
 |.e k i q=>k[i]?=some q
 |.y k i q=>k[i]?=some q
 |.v p q=>p=q
 |.n o=>∀σ,o.rn σ=some o
 |.z=>True
 |.u ag sz es=>eP ag sz es/\es≠ []
 |.w ag sz fs len cs=>cs=(flat fs).map TV.t/\len=fs.length/\eP ag sz fs
 |.l p q=>p<=q
 |.pp p=>p
 |.po p q=>p=some q
 |.pc p q=>p=q
 |.pm p q d=>p=some (q,d)
 |.pe p k q d=>p=some (k,q,d)
abbrev M (α:Type):=List Cl->Option (α×List Cl×List Cl)
section monad
variable {α β:Type}{ev:bt}
def dP (a:α):M α:=λcl=>some (a,cl,[])
def iY:M α:=λ_=>none
def qz (x:Option α):M α:=λcl=>match x with
 |some a=>some (a,cl,[])
 |none=>none
def bq (m:M α)(k:α->M β):M β:=λcl=>match m cl with
 |some (a,cl1,e1)=>(match k a cl1 with
  |some (b,cl2,e2)=>some (b,cl2,e1++e2)
  |none=>none)
 |none=>none
def ZM (x:Bool):M Bool:=λcl=>match cl with
 |.b _ c::r=>some (c,r,[.b x c])
 |_=>none
def ad7 (l:List Tree)(i:Nat):M Tree:=λcl=>match cl with
 |.e _ _ x::r=>some (x,r,[.e l i x])
 |_=>none
def aio (s:List UInt8)(i:Nat):M UInt8:=λcl=>match cl with
 |.y _ _ x::r=>some (x,r,[.y s i x])
 |_=>none
def aip (g:FuncId)(atM:List TV)(os:List aO):M br:=λcl=>match cl with
 |.r _ _ _ x::r=>some (x,r,[.r g atM os x])
 |_=>none
def Lh (v:TV):M TV:=λcl=>match cl with
 |.v _ y::r=>some (y,r,[.v v y])
 |.z::r=>some (v,r,[.z])
 |_=>none
def ZN (ag:Bool)(sz:Nat)(es:List Tree):M Bool:=λcl=>match cl with
 |.u _ _ _::r=>some (true,r,[.u ag sz es])
 |.pp _::r=>some (false,r,[.pp (es=[])])
 |_=>none
def Xe (ag:Bool)(sz:Nat)(len:Nat)(cs:List TV):M (List Tree):=λcl=>match cl with
 |.w _ _ fs _ _::r=>some (fs,r,[.w ag sz fs len cs])
 |_=>none
def BG (a b:Nat):M Unit:=λcl=>match cl with
 |.l _ _::r=>some ((),r,[.l a b])
 |_=>none
def Jl (p:Prop):M Unit:=λcl=>match cl with
 |.pp _::r=>some ((),r,[.pp p])
 |_=>none
def Tl (x:Option TV):M TV:=λcl=>match cl with
 |.po _ v::r=>some (v,r,[.po x v])
 |_=>none
def ZO (x:List TV):M (List TV):=λcl=>match cl with
 |.pc _ y::r=>some (y,r,[.pc x y])
 |_=>none
def ad8 (x:Option (List (TV×TV×Nat)×Nat)):M (List (TV×TV×Nat)×Nat):=λcl=>match cl with
 |.pm _ y c::r=>some ((y,c),r,[.pm x y c])
 |_=>none
def aiq (x:Option (TV×List (TV×TV×Nat)×Nat)):M (TV×List (TV×TV×Nat)×Nat):=λcl=>match cl with
 |.pe _ v y c::r=>some ((v,y,c),r,[.pe x v y c])
 |_=>none
def dQ (ev:bt)(m:M α)(x:Option α):Prop:=∀cl a E4 em,m cl=some (a,E4,em)->(∀c∈em,c.holds ev)->x=some a
theorem dQ.ret (a:α):dQ ev (dP a) (some a):=λcl b E4 em h _=>by cases h;rfl
theorem dQ.no {x:Option α}:dQ ev iY x:=λcl b E4 em h _=>by cases h
theorem dQ.opt (x:Option α):dQ ev (qz x) x:=λcl b E4 em h _=>by
 cases x with
 |none=>cases h
 |some a=>cases h;rfl
theorem dQ.bind {m:M α}{x:Option α}{k:α->M β}{y:α->Option β}(hm:dQ ev m x)(hk:∀a,x=some a->dQ ev (k a) (y a)):dQ ev (bq m k) (x.bind y):=λcl b E4 em h he=>by
 unfold bq at h;split at h
 ·rename_i a cl1 e1 h1;split at h
  ·rename_i b' cl2 e2 h2;cases h;have hx:=hm _ _ _ _ h1 λc hc=>he c (List.mem_append_left _ hc)
   rw[hx];exact hk a hx _ _ _ _ h2 λc hc=>he c (List.mem_append_right _ hc)
  ·cases h
 ·cases h
theorem dQ.of_eq {m:M α}{x y:Option α}(h:dQ ev m x)(e:x=y):dQ ev m y:=e▸h
theorem Jm (x:Bool):dQ ev (ZM x) (some x):=λcl a E4 em h he=>by
 unfold ZM at h;split at h
 ·cases h;have:=he _ (List.mem_singleton_self _);exact congrArg some this
 ·cases h
theorem Qe (l:List Tree)(i:Nat):dQ ev (ad7 l i) l[i]?:=λcl a E4 em h he=>by
 unfold ad7 at h;split at h
 ·cases h;exact he _ (List.mem_singleton_self _)
 ·cases h
theorem ZP (s:List UInt8)(i:Nat):dQ ev (aio s i) s[i]?:=λcl a E4 em h he=>by
 unfold aio at h;split at h
 ·cases h;exact he _ (List.mem_singleton_self _)
 ·cases h
theorem ZQ (g:FuncId)(atM:List TV)(os:List aO):dQ ev (aip g atM os) (ev g atM os):=λcl a E4 em h he=>by
 unfold aip at h;split at h
 ·cases h;exact he _ (List.mem_singleton_self _)
 ·cases h
theorem q5 (v:TV):dQ ev (Lh v) (some v):=λcl a E4 em h he=>by
 unfold Lh at h;split at h
 ·cases h;have:=he _ (List.mem_singleton_self _);exact congrArg some this
 ·cases h;rfl
 ·cases h
def MP (ev:bt)(m:M α)(P:α->Prop):Prop:=∀cl a E4 em,m cl=some (a,E4,em)->(∀c∈em,c.holds ev)->P a
theorem MP.ret {a:α}{P:α->Prop}(h:P a):MP ev (dP a) P:=λcl b E4 em hm _=>by cases hm;exact h
theorem MP.no {P:α->Prop}:MP ev iY P:=λcl b E4 em h _=>by cases h
theorem MP.U6 {m:M α}{x:Option α}(h:dQ ev m x):MP ev m λa=>x=some a:=h
theorem MP.mono {m:M α}{P Q:α->Prop}(h:MP ev m P)(k:∀a,P a->Q a):MP ev m Q:=λcl a E4 em hm he=>k a (h cl a E4 em hm he)
theorem MP.bind {m:M α}{P:α->Prop}{k:α->M β}{Q:β->Prop}(hm:MP ev m P)(hk:∀a,P a->MP ev (k a) Q):MP ev (bq m k) Q:=λcl b E4 em h he=>by
 unfold bq at h;split at h
 ·rename_i a cl1 e1 h1;split at h
  ·rename_i b' cl2 e2 h2;cases h;exact hk a (hm _ _ _ _ h1 λc hc=>he c (List.mem_append_left _ hc)) _ _ _ _ h2 λc hc=>he c (List.mem_append_right _ hc)
  ·cases h
 ·cases h
theorem ZR {ag:Bool}{sz:Nat}{es:List Tree}:MP ev (ZN ag sz es) λb=>cond b (eP ag sz es/\es≠ []) (es=[]):=λcl a E4 em h he=>by
 unfold ZN at h;split at h
 ·cases h;exact he _ (List.mem_singleton_self _)
 ·cases h;exact he _ (List.mem_singleton_self _)
 ·cases h
theorem HI {ag:Bool}{sz len:Nat}{cs:List TV}:MP ev (Xe ag sz len cs) λfs=>cs=(flat fs).map TV.t/\len=fs.length/\eP ag sz fs:=λcl a E4 em h he=>by
 unfold Xe at h;split at h
 ·cases h;exact he _ (List.mem_singleton_self _)
 ·cases h
theorem mI {x y:Nat}:MP ev (BG x y) λ_=>x<=y:=λcl a E4 em h he=>by
 unfold BG at h;split at h
 ·cases h;exact he _ (List.mem_singleton_self _)
 ·cases h
theorem sG {p:Prop}:MP ev (Jl p) λ_=>p:=λcl a E4 em h he=>by
 unfold Jl at h;split at h
 ·cases h;exact he _ (List.mem_singleton_self _)
 ·cases h
theorem CX {x:Option TV}:MP ev (Tl x) λv=>x=some v:=λcl a E4 em h he=>by
 unfold Tl at h;split at h
 ·cases h;exact he _ (List.mem_singleton_self _)
 ·cases h
theorem NJ {x:List TV}:MP ev (ZO x) λy=>x=y:=λcl a E4 em h he=>by
 unfold ZO at h;split at h
 ·cases h;exact he _ (List.mem_singleton_self _)
 ·cases h
theorem U7 {x:Option (List (TV×TV×Nat)×Nat)}:MP ev (ad8 x) λy=>x=some y:=λcl a E4 em h he=>by
 unfold ad8 at h;split at h
 ·cases h;exact he _ (List.mem_singleton_self _)
 ·cases h
theorem ad9 {x:Option (TV×List (TV×TV×Nat)×Nat)}:MP ev (aiq x) λy=>x=some y:=λcl a E4 em h he=>by
 unfold aiq at h;split at h
 ·cases h;exact he _ (List.mem_singleton_self _)
 ·cases h
end monad
section ops
variable {ev:bt}{C:ey}{f:FuncId}
def HJ (ops:Array Oper)(slots:List TV)(o:Oper):M Bool:=
 match o.guard with
 |none=>dP true
 | some (j,want)=>match(ops[j]?).bind (·.dst) with
  |none=>dP false
  |some d=>match slots[d]? with
   |some (.t (.bool b))=>bq (ZM b) λc=>dP (c==want)
   |some (.t (.cF []))=>dP false
   |none=>dP false
   |_=>iY
theorem Jn (ops:Array Oper)(slots:List TV)(o:Oper):dQ ev (HJ ops slots o) (eT ops slots o):=by
 unfold HJ eT;cases o.guard with
 |none=>exact dQ.ret _
 | some p=>
  obtain⟨j,want⟩:=p
  simp only
  cases (ops[j]?).bind (·.dst) with
  |none=>exact dQ.ret _
  |some d=>
   simp only
   generalize slots[d]?=z
   split
   · exact dQ.bind (x:=some _) (y:=λc=>some (c==want)) (Jm _) λc _=>dQ.ret _
   · exact dQ.ret _
   · exact dQ.ret _
   · exact dQ.no
mutual
def NK:TV->Bool
 |.ref _ _ _=>true
 |.agg cs=>hasRefs cs
 |.cF cs=>hasRefs cs
 |.iface _ v=>NK v
 |_=>false
def hasRefs:List TV->Bool
 | []=>false
 |v::r=>NK v||hasRefs r
end
def U8 (g:TV->M (Tree×List Nm)):List TV->M (List Tree×List Nm)
 | []=>dP ([],[])
 |v::r=>bq (g v) λp=>bq (U8 g r) λq=>dP (p.1::q.1,p.2++q.2)
def Xf (H:Heap):Nat->TV->M (Tree×List Nm)
 |0,v=>qz (su H 0 v)
 | n+1,v=>match v with
  |.ref k 0 len=>(match H.get k with
   |some (.arr g cc fz cs)=>if 0<cc then bq (Xe g.2 cc len cs) λfs=>dP (.sl fs,[k]) else iY
   |_=>iY)
  |.agg cs=>bq (U8 (Xf H n) cs) λp=>dP (.agg p.1,p.2)
  |.cF cs=>bq (U8 (Xf H n) cs) λp=>dP (.cF p.1,p.2)
  |v=>qz (su H (n+1) v)
theorem NL {g:TV->M (Tree×List Nm)}{g':TV->Option (Tree×List Nm)}(h:∀v,MP ev (g v) λp=>g' v=some p):∀(l:List TV),MP ev (U8 g l) λp=>Ck g' l=some p
 | []=>MP.ret rfl
 |v::r=>MP.bind (h v) λp hp=>MP.bind (NL h r) λq hq=>MP.ret (by simp only[Ck,hp,hq])
theorem NM (H:Heap):∀(n:Nat) (v:TV),MP ev (Xf H n v) λp=>su H n v=some p
 |0,v=>MP.U6 (dQ.opt _)
 | n + 1,v=>by
   unfold Xf
   split
   · rename_i k len
     split
     · rename_i g cc fz cs hk
       split
       · rename_i hz
         refine MP.bind HI λfs hf=>MP.ret ?_
         obtain⟨rfl,rfl,hu⟩:=hf
         obtain⟨g1,g2⟩:=g
         exact UY hk hu hz rfl
       · exact MP.no
     · exact MP.no
   · rename_i cs
     exact MP.bind (NL (NM H n) cs) λp hp=>MP.ret (by simp only[su,hp])
   · rename_i cs
     exact MP.bind (NL (NM H n) cs) λp hp=>MP.ret (by simp only[su,hp])
   · exact MP.U6 (dQ.opt _)
def Jo (H:Heap):List TV->M (List TV×List Nm)
 | []=>dP ([],[])
 | v::r=>bq (Jo H r) λp=>match NK v with
  |true=>bq (Xf H jh v) λq=>dP (.t q.1::p.1,q.2++p.2)
  |false=>dP (match su H jh v with
   |some (x,k)=>(.t x::p.1,k++p.2)
   |none=>(v::p.1,p.2))
theorem Jp (H:Heap):∀(l:List TV),MP ev (Jo H l) λp=>ot H l=p
 | []=>MP.ret rfl
 | v ::r=>by
   refine MP.bind (Jp H r) λp hp=> ?_
   split
   · refine MP.bind (NM H jh v) λq hq=>MP.ret ?_
     simp only[ot,hp,hq]
   · refine MP.ret ?_
     simp only[ot,hp]
     cases su H jh v<;>rfl
def aea:aO->Bool
 |.arr _ _ _ _=>true
 |.map _ _=>true
 |_=>false
def aeb (o:aO):M aO:=λcl=>match cl with
 |.n _::r=>some (o,r,[.n o])
 |_=>none
theorem Qf {o:aO}:MP ev (aeb o) λo'=>o'=o/\∀σ,o.rn σ=some o:=λcl a E4 em h he=>by
 unfold aeb at h;split at h
 ·cases h;exact⟨rfl,he _ (List.mem_singleton_self _)⟩
 ·cases h
def rnO (σ:Nm->Option Nm)(o:aO):M aO:=match aea o with
 |true=>aeb o
 |false=>qz (o.rn σ)
theorem Tm {σ:Nm->Option Nm}{o:aO}:MP ev (rnO σ o) λo'=>o.rn σ=some o':=by
 unfold rnO;split
 ·exact Qf.mono λo' h=>by rw[h.1];exact h.2 σ
 ·exact MP.U6 (dQ.opt _)
mutual
theorem qA:∀{v v':TV},v.rn (λ_=>none)=some v'->v.names=[]
 |.t _,_,_=>rfl
 |.any,_,_=>rfl
 |.bX,_,_=>rfl
 |.pZ _,_,_=>rfl
 |.lM _ _,_,_=>rfl
 |.ref _ _ _,_,h=>by simp[TV.rn] at h
 |.ptr _ _,_,h=>by simp[TV.rn] at h
 |.lK _ _ _,_,h=>by simp[TV.rn] at h
 |.map _,_,h=>by simp[TV.rn] at h
 | .agg cs,_,h=>by
   simp only[TV.rn,Option.map_eq_some_iff] at h
   obtain⟨a,h,_⟩:=h
   simp only[TV.names,mo h]
 | .cF cs,_,h=>by
   simp only[TV.rn,Option.map_eq_some_iff] at h
   obtain⟨a,h,_⟩:=h
   simp only[TV.names,mo h]
 | .iface _ v,_,h=>by
   simp only[TV.rn,Option.map_eq_some_iff] at h
   obtain⟨a,h,_⟩:=h
   simp only[TV.names,qA h]
 | .fn _ fs cs,_,h=>by
   simp only[TV.rn] at h
   split at h
   · rename_i h1 h2
     simp only[TV.names,mo h1,mo h2,List.append_nil]
   · cases h
theorem mo:∀{l l':List TV},TV.yF (λ_=>none) l=some l'->TV.kT l=[]
 | [],_,_=>rfl
 | v ::r,_,h=>by
   simp only[TV.yF] at h
   split at h
   · rename_i h1 h2
     simp only[TV.kT,qA h1,mo h2,List.append_nil]
   · cases h
end
theorem Gr:∀{es es':List (TV×TV×Nat)},Yr (λ_=>none) es=some es'->MY es=[]
 | [],_,_=>rfl
 | (k,v,b)::r,_,h=>by
   simp only[Yr] at h
   split at h
   · rename_i h1 h2 h3
     simp only[MY,qA h1,qA h2,Gr h3,List.append_nil]
   · cases h
theorem aO.qA {o:aO}(h:o.rn (λ_=>none)=some o):o.names=[]:=by
 cases o with
 |cells ty cs=>
  simp only[aO.rn,Option.map_eq_some_iff] at h
  obtain⟨a,h,_⟩:=h
  exact mo h
 |arr g e fz cs=>
  simp only[aO.rn,Option.map_eq_some_iff] at h
  obtain⟨a,h,_⟩:=h
  exact mo h
 |map es c=>
  simp only[aO.rn,Option.map_eq_some_iff] at h
  obtain⟨a,h,_⟩:=h
  exact Gr h
 |dead=>rfl
def NN (o:aO):M (List Nm):=match aea o with
 |true=>bq (aeb o) λ_=>dP []
 |false=>dP o.names
def ahf (o:aO):Prop:=aea o=true->∀σ,o.rn σ=some o
theorem Qg {o:aO}:MP ev (NN o) λl=>o.names=l/\ahf o:=by
 unfold NN;split
 ·exact MP.bind Qf λ_ h=>MP.ret ⟨aO.qA (h.2 _),λ_=>h.2⟩
 ·rename_i hb;exact MP.ret ⟨rfl,λh=>by rw[hb] at h;cases h⟩
def NP:List aO->M (List Nm)
 | []=>dP []
 |o::r=>bq (NN o) λl=>bq (NP r) λl2=>dP (l++l2)
theorem Jq:∀{os:List aO},MP ev (NP os) λl=>os.flatMap aO.names=l
 | []=>MP.ret rfl
 |o::r=>MP.bind Qg λl h=>MP.bind Jq λl2 h2=>MP.ret (by rw[List.flatMap_cons,h.1,h2])
def zj (H:Heap):Nat->List Nm->List Nm->M (List Nm)
 |_,done,[]=>dP done
 |0,_,_=>iY
 | n+1,done,k::todo=>match decide (k∈done) with
  |true=>zj H n done todo
  |false=>(match H.get k with
   |some o=>bq (NN o) λl=>zj H n (done++[k]) (todo++l)
   |none=>iY)
def Tn (H:Heap)(k:Nm):Prop:=∀o,H.get k=some o->ahf o
theorem wA {H:Heap}:∀(n:Nat) (done todo:List Nm),MP ev (zj H n done todo) λS=>reach H n done todo=some S/\((∀k∈done,Tn H k)->∀k∈S,Tn H k)
 |0,done,[]=>MP.ret ⟨rfl,λh=>h⟩
 |n+1,done,[]=>MP.ret ⟨rfl,λh=>h⟩
 |0,_,_::_=>MP.no
 | n + 1,done,k::todo=>by
   unfold zj reach
   split
   · rename_i hd
     rw[if_pos (of_decide_eq_true hd)]
     exact wA n done todo
   · rename_i hd
     rw[if_neg (of_decide_eq_false hd)]
     split
     · rename_i o ho
       refine MP.bind Qg λl hl=>(wA n (done++[k]) (todo++l)).mono λS hS=>⟨by simp only[ho,hl.1];exact hS.1,λh=>hS.2 λk' hk'=> ?_⟩
       rcases List.mem_append.1 hk' with hk'|hk'
       · exact h k' hk'
       · rw[List.mem_singleton.1 hk']
         intro o' ho'
         rw[ho] at ho'
         cases ho'
         exact hl.2
     · exact MP.no
def rnB (σ:Nm->Option Nm)(o:aO):Option aO:=match aea o with
 |true=>some o
 |false=>o.rn σ
def HK (H:Heap)(S:List Nm):List Nm->Option (List aO)
 | []=>some []
 |k::r=>match H.get k,HK H S r with
  |some o,some os=>(rnB (LA S) o).map (· ::os)
  |_,_=>none
theorem Jr {H:Heap}{S:List Nm}:∀{l:List Nm},(∀k∈l,Tn H k)->HK H S l=jK H S l
 | [],_=>rfl
 | k::r,h=>by
  simp only[HK,jK,Jr λk' hk'=>h k' (List.mem_cons_of_mem _ hk')]
  cases ho:H.get k with
  |none=>rfl
  | some o=>
   have e:rnB (LA S) o=o.rn (LA S):=by
    unfold rnB
    split
    · rename_i hb;exact(h k List.mem_cons_self o ho hb _).symm
    · rfl
   cases jK H S r with
   |none=>rfl
   |some os=>simp only[e]
def ZS (H:Heap)(keep:Bool)(args:List TV):M (List TV×List Nm):=match keep with
 |true=>dP (args,[])
 |false=>Jo H args
theorem ZT {H:Heap}{keep:Bool}{args:List TV}:MP ev (ZS H keep args) λp=>Pb H keep args=p:=by
 cases keep with
 |true=>exact MP.ret rfl
 |false=>exact Jp H args
def L9 (H1:Heap)(args:List TV):M (List Nm×List TV×List aO):=bq (zj H1 iH [] (TV.kT args)) λS=>
 if S.Nodup then(match TV.yF (LA S) args,HK H1 S S with
  |some atM,some os=>dP (S,atM,os)
  |_,_=>iY) else iY
theorem Qh {H1:Heap}{args:List TV}:MP ev (L9 H1 args) λq=>reach H1 iH [] (TV.kT args)=some q.1/\q.1.Nodup/\TV.yF (LA q.1) args=some q.2.1/\jK H1 q.1 q.1=some q.2.2:=
 MP.bind (wA _ _ _) λS hS=>by
  split
  ·rename_i hn;split
   ·rename_i atM os h1 h2;exact MP.ret ⟨hS.1,hn,h1,by rw[← Jr (hS.2 λk hk=>by cases hk)];exact h2⟩
   ·exact MP.no
  ·exact MP.no
def Js (S:List Nm)(t:Nat):List Nm->List aO->M Heap
 | [],[]=>dP []
 |k::r,o::os=>bq (rnO (nB S t) o) λo=>bq (Js S t r os) λh=>dP ((k,o)::h)
 |_,_=>iY
theorem Jt {S:List Nm}{t:Nat}:∀{l:List Nm} {os:List aO},MP ev (Js S t l os) λh=>ki S t l os=some h
 | [],[]=>MP.ret rfl
 |k::r,o::os=>MP.bind Tm λo' h1=>MP.bind Jt λh h2=>MP.ret (by simp only[ki,h1,h2])
 | [],_::_=>MP.no
 |_::_,[]=>MP.no
def CY (S:List Nm)(t:Nat):Heap->M Heap
 | []=>dP []
 |(k,o)::r=>match nB S t k with
  |some k=>bq (rnO (nB S t) o) λo=>bq (CY S t r) λh=>dP ((k,o)::h)
  |none=>iY
theorem Ju {S:List Nm}{t:Nat}:∀{l:Heap},MP ev (CY S t l) λh=>kj S t l=some h
 | []=>MP.ret rfl
 | (k,o)::r=>by
   unfold CY
   split
   · rename_i k' hk
     exact MP.bind Tm λo' h1=>MP.bind Ju λh h2=>MP.ret (by simp only[kj,hk,h1,h2])
   · exact MP.no
def ZU (H:Heap)(g:FuncId)(args:List TV)(t:Nat)(keep:Bool):M s7:=bq (ZS H keep args) λp=>bq (L9 (H.eY (eO H p.2)) p.1) λq=>bq (aip g q.2.1 q.2.2) λx=>match x with
 |.ret v os' news=>bq (qz (v.rn (nB q.1 t))) λv=>bq (Js q.1 t q.1 os') λh=>bq (CY q.1 t news) λh'=>dP (.val v ((eO H p.2).filter (λr=> !(q.1.contains r.1))++h++h'))
 |.panic v os'=>bq (qz (v.rn (nB q.1 t))) λv=>bq (qz (ou q.1 t q.1 os')) λh=>dP (.panic v ((eO H p.2).filter (λr=> !(q.1.contains r.1))++h.1) h.2)
theorem Qi (H:Heap)(g:FuncId)(args:List TV)(t:Nat)(keep:Bool):dQ ev (ZU H g args t keep) (uM ev H g args t keep):=by
 refine MP.bind ZT λp hp=>MP.bind Qh λq hq=>MP.bind (MP.U6 (ZQ g q.2.1 q.2.2)) λx hx=> ?_
 obtain⟨h1,h2,h3,h4⟩:=hq;obtain⟨p1,p2⟩:=p;simp only at h1 h3 h4;split
 ·refine MP.bind (MP.U6 (dQ.opt _)) λv h5=>MP.bind Jt λh h6=>MP.bind Ju λh' h7=>MP.ret ?_
  unfold uM;rw[hp];simp only[h1,if_pos h2,h3,h4,hx,h5,h6,h7]
 ·refine MP.bind (MP.U6 (dQ.opt _)) λv h5=>MP.bind (MP.U6 (dQ.opt _)) λh h6=>MP.ret ?_
  unfold uM;rw[hp];simp only[h1,if_pos h2,h3,h4,hx,h5,h6]
def NQ:TV->Option Nat
 |.t (.int _ (.ofNat n))=>some n
 |_=>none
theorem xG {v:TV}{n:Nat}(h:NQ v=some n):iA v=some n:=by
 unfold NQ at h;split at h
 ·cases h;simp[iA]
 ·cases h
def xH (P:jY)(H:Heap)(t:TypeId)(x i:TV):M TV:=
 match bx P t,NQ i with
 | some ti,some n=>(match ti.desc,x with
  |.slice elem,.t (.sl es)=>(match bx P elem with
   |some te=>bq (ad7 es n) λe=>qz (if e.cells.length=te.size then some (.lM e.cells 0) else none)
   |none=>iY)
  |.slice elem,.pZ es=>(match bx P elem with
   |some te=>bq (ad7 es n) λe=>qz (if e.cells.length=te.size then some (.lM e.cells 0) else none)
   |none=>iY)
  |.slice elem,.ref k 0 len=>(match bx P elem,H.get k with
   |some te,some (.arr g cc _ cs)=>if te.size=cc/\0<cc then bq (Xe g.2 cc len cs) λ_=>bq (BG (n+1) len) λ_=>dP (.lK k cs.length (n*cc)) else iY
   |_,_=>iY)
  |_,_=>qz (fu P H t x i))
 |_,_=>qz (fu P H t x i)
theorem A4 (P:jY)(H:Heap)(t:TypeId)(x i:TV):dQ ev (xH P H t x i) (fu P H t x i):=by
 unfold xH;split
 ·rename_i ti n ht hn;have hi:=xG hn;split
  ·rename_i elem es hd;split
   ·rename_i te hte;refine dQ.of_eq (dQ.bind (Qe es n) λe _=>dQ.opt _) ?_;unfold fu;rw[ht,hi];simp only[hd,hte];cases es[n]? <;>rfl
   ·exact dQ.no
  ·rename_i elem es hd;split
   ·rename_i te hte;refine dQ.of_eq (dQ.bind (Qe es n) λe _=>dQ.opt _) ?_;unfold fu;rw[ht,hi];simp only[hd,hte];cases es[n]? <;>rfl
   ·exact dQ.no
  ·rename_i elem k len hd;split
   ·rename_i te g cc fz cs hte hk;split
    ·rename_i hc;obtain⟨hc,hz⟩:=hc;refine MP.bind HI λfs hf=>MP.bind mI λ_ hl=>MP.ret ?_
     obtain⟨rfl,rfl,hu⟩:=hf;have h2:kz H k 0 fs.length=some (g,cc,fz,(flat fs).map .t):=by
      unfold kz;simp only[hk];rw[if_pos ⟨hz,by rw[Nat.zero_add,hu.length]⟩]
     unfold fu;rw[ht,hi];simp only[hd,hte,h2,hc,Nat.zero_add];rw[if_pos ⟨trivial,hl⟩]
    ·exact MP.no
   ·exact MP.no
  ·exact dQ.opt _
 ·exact dQ.opt _
def ZV (P:jY)(H:Heap)(t:TypeId)(a:TV):M TV:=match a with
 |.lK k m o=>(match bx P t,H.get k with
  |some ti,some (.arr _ _ _ cs)=>bq (Jl (cs.length=m)) λ_=>Tl (partT ti.agg ti.size cs o)
  |_,_=>iY)
 |a=>qz (loadT P H t a)
theorem ZW (P:jY)(H:Heap)(t:TypeId)(a:TV):dQ ev (ZV P H t a) (loadT P H t a):=by
 unfold ZV;split
 ·rename_i k m o;split
  ·rename_i ti g cc fz cs ht hk;refine MP.bind sG λ_ hm=>CX.mono λv hv=> ?_
   subst hm;simp only[loadT,ht,wV,hk,if_true];exact hv
  ·exact MP.no
 ·exact dQ.opt _
def Tp (P:jY)(H:Heap)(t:TypeId)(a x:TV):M (List (Nm×aO)):=match a with
 | .lK k m o=>(match bx P t,H.get k with
  |some ti,some (.arr g cc false cs)=>(match decide (x.cells.length=ti.size)&&x.cells.all TV.leaf with
   |true=>bq (Jl (cs.length=m)) λ_=>bq (BG (o+ti.size) cs.length) λ_=>bq (ZO (dN cs o x.cells)) λcs'=>dP [(k,.arr g cc false cs')]
   |false=>iY)
  |_,_=>iY)
 |a=>qz (storeT P H t a x)
theorem Xg (P:jY)(H:Heap)(t:TypeId)(a x:TV):dQ ev (Tp P H t a x) (storeT P H t a x):=by
 unfold Tp;split
 ·rename_i k m o;split
  ·rename_i ti g cc cs ht hk;split
   ·rename_i hb;refine MP.bind sG λ_ hm=>MP.bind mI λ_ hl=>MP.bind NJ λcs' hc=>MP.ret ?_
    subst hm hc;exact sta ht hk hb hl
   ·exact MP.no
  ·exact MP.no
 ·exact dQ.opt _
def NR (H:Heap)(a:TV)(n:Nat):M TV:=match a with
 |.lK k m o=>(match H.get k with
  |some (.arr _ _ _ cs)=>bq (Jl (cs.length=m)) λ_=>dP (.lK k m (o+n))
  |_=>iY)
 |a=>qz (sZ H a n)
theorem Tq (H:Heap)(a:TV)(n:Nat):dQ ev (NR H a n) (sZ H a n):=by
 unfold NR;split
 ·rename_i k m o;split
  ·rename_i g cc fz cs hk;refine MP.bind sG λ_ hm=>MP.ret ?_
   simp only[sZ,hk,if_pos hm]
  ·exact MP.no
 ·exact dQ.opt _
def Jv (P:jY)(H:Heap)(s i:Nat)(a:TV):M TV:=match pn P s i with
 |some off=>NR H a off
 |none=>iY
def Qj (o:Option TV)(d:Nat):Option Nat:=match o with
 |none=>some d
 |some v=>NQ v
theorem CZ {o:Option TV}{d n:Nat}(h:Qj o d=some n):gi o d=some n:=by
 cases o with
 |none=>exact h
 |some v=>exact xG h
theorem Ma {ag:Bool}{sz:Nat}{fs:List Tree}(hu:eP ag sz fs)(h:Nat):((flat fs).map TV.t).take (h*sz)=(flat (fs.take h)).map TV.t:=by
 rw[← List.map_take];congr 1;induction h generalizing fs with
 |zero=>simp[flat]
 | succ n ih=>
  cases fs with
  |nil=>simp[flat]
  |cons e r=>
   have he:e.cells.length=sz:=(hu e List.mem_cons_self).1
   have e1:flat (e::r)=e.cells++flat r:=by simp[flat]
   have e2:flat ((e::r).take (n+1))=e.cells++flat (r.take n):=by simp[flat]
   rw[e1,e2,Nat.succ_mul,Nat.add_comm,← he,List.take_length_add_append,he,ih λx hx=>hu x (List.mem_cons_of_mem _ hx)]
def Jw (b:Bool)(P:jY)(H:Heap)(nm:Nm)(t:TypeId)(x:TV)(lo hi mx:Option TV):M s7:=
 let old:M s7:=qz (match AR b P H nm t x lo hi mx with
  |some r=>some (.val r.1 r.2)
  |none=>match s5 P H t x lo hi mx with
   |some (r,ks)=>some (.val r (eO H ks))
   |none=>none)
 match x,mx with
 | .t (.str s),none=>(match bx P t,Qj lo 0,Qj hi s.length with
  |some ti,some l,some h=>(match ti.desc with
   |.string=>bq (BG l h) λ_=>bq (BG h s.length) λ_=>dP (.val (.t (.str ((s.take h).drop l))) [])
   |_=>iY)
  |_,_,_=>iY)
 | .t (.sl es),none=>(match bx P t,Qj lo 0,Qj hi es.length with
  | some ti,some l,some h=>(match ti.desc with
   |.slice elem=>(match bx P elem with
    |some te=>bq (Jl (kR te.size es=true)) λ_=>bq (BG l h) λ_=>bq (BG h es.length) λ_=>dP (.val (.t (.sl ((es.take h).drop l))) [])
    |none=>iY)
   |_=>iY)
  |_,_,_=>iY)
 | .ref k 0 len,none=>(match b,lo,hi.bind NQ with
  | true,none,some h=>(match bx P t,H.get k with
   | some ti,some (.arr g cc false cs)=>(match ti.desc with
    |.slice elem=>(match bx P elem with
     |some te=>if te.size=cc/\0<cc then bq (Xe g.2 cc len cs) λfs=>bq (BG h len) λ_=>dP (.val (.ref nm 0 h) [(k,.dead),(nm,.arr g cc false ((flat (fs.take h)).map .t))]) else iY
     |none=>iY)
    |_=>iY)
   |_,_=>iY)
  |_,_,_=>old)
 |_,_=>old
theorem E5        (b:Bool)(P:jY)(H:Heap)(nm:Nm)(t:TypeId)(x:TV)(lo hi mx:Option TV):dQ ev (Jw b P H nm t x lo hi mx) (match AR b P H nm t x lo hi mx with
 |some r=>some (.val r.1 r.2)
 | none=>match s5 P H t x lo hi mx with
   |some (r,ks)=>some (.val r (eO H ks))
   |none=>none):=by
 unfold Jw
 simp only
 split
 ·rename_i s;split
  ·rename_i ti l h ht hl hh;have hl':=CZ hl;have IF:=CZ hh;split
   ·rename_i hd;refine MP.bind mI λ_ h1=>MP.bind mI λ_ h2=>MP.ret ?_
    rw[MV];simp only[s5,ht,hd,hl',IF,if_pos (And.intro h1 h2)];rfl
   ·exact MP.no
  ·exact MP.no
 ·rename_i es;split
  ·rename_i ti l h ht hl hh;have hl':=CZ hl;have IF:=CZ hh;split
   ·rename_i elem hd;split
    ·rename_i te hte;refine MP.bind sG λ_ h0=>MP.bind mI λ_ h1=>MP.bind mI λ_ h2=>MP.ret ?_
     rw[MV];have e1:Bk H (.t (.sl es))=some es.length:=rfl;have e2:gi none es.length=some es.length:=rfl;simp only[s5,ht,hd,hte,e1,e2,hl',IF,Option.isNone_none,Bool.true_or,if_pos (And.intro h1 (And.intro h2 (Nat.le_refl _))),h0,if_true,Option.isSome_none,Bool.false_and,Wn,Bool.false_eq_true,if_false];rfl
    ·exact MP.no
   ·exact MP.no
  ·exact MP.no
 ·rename_i k len;split
  ·rename_i h hh;split
   ·rename_i ti g cc cs ht hk;split
    ·rename_i elem hd;split
     ·rename_i te hte;split
      ·rename_i hc;refine MP.bind HI λfs hf=>MP.bind mI λ_ h1=>MP.ret ?_
       obtain⟨rfl,rfl,hu⟩:=hf;cases hi with
       |none=>cases hh
       | some hv=>
         have IF:=xG hh
         have h2:kz H k 0 fs.length=some (g,cc,false,(flat fs).map .t):=by
           unfold kz
           simp only[hk]
           rw[if_pos ⟨hc.2,by rw[Nat.zero_add,hu.length]⟩]
         simp only[AR,if_true,Bl,ht,IF,h2,hd,hte,if_pos (And.intro hc.1 h1),Ma hu]
      ·exact MP.no
     ·exact MP.no
    ·exact MP.no
   ·exact MP.no
  ·exact dQ.opt _
 ·exact dQ.opt _
def A5 (P:jY)(t:TypeId)(es:List (TV×TV×Nat))(k:TV)(ok:Bool):Option TV:=
 match bx P t with
 | some ti=>match ti.desc with
  | .map kt et=>match bx P kt,bx P et with
   | some tk,some te=>
    if yM P es.isEmpty kt k=true then
     match oq P kt tk.desc k es 0,te.zero with
     |some (some (_,v,_)),_=>some (if ok then sj [v,.t (.bool true)] else v)
     |some none,some z=>some (if ok then sj [z,.t (.bool false)] else z)
     |_,_=>none
    else none
   |_,_=>none
  |_=>none
 |none=>none
theorem ZX {P:jY}{H:Heap}{t:TypeId}{k:TV}{ok:Bool}{m:Nm}{es:List (TV×TV×Nat)}{c:Nat}(hk:H.get m=some (.map es c)):wX P H t (.map m) k ok=A5 P t es k ok:=by
 unfold wX A5;simp only[mapOf,hk];cases bx P t with
 |none=>rfl
 |some ti=>
  simp only
  cases ti.desc<;>try rfl
  rename_i kt et
  simp only
  cases bx P kt<;>cases bx P et<;>rfl
def ZY (P:jY)(H:Heap)(t:TypeId)(x k:TV)(ok:Bool):M TV:=match x with
 |.map m=>(match H.get m with
  |some (.map es _)=>Tl (A5 P t es k ok)
  |_=>iY)
 |x=>qz (wX P H t x k ok)
theorem ZZ (P:jY)(H:Heap)(t:TypeId)(x k:TV)(ok:Bool):dQ ev (ZY P H t x k ok) (wX P H t x k ok):=by
 unfold ZY;split
 ·split
  ·rename_i hk;refine CX.mono λv hv=> ?_
   rw[ZX hk];exact hv
  ·exact MP.no
 ·exact dQ.opt _
def air (P:jY)(t:TypeId)(es:List (TV×TV×Nat))(c:Nat)(k v:TV):Option (List (TV×TV×Nat)×Nat):=
 match bx P t with
 | some ti=>match ti.desc with
  | .map kt _=>match bx P kt with
   | some tk=>
    if yM P false kt k=true then
     match oq P kt tk.desc k es 0 with
     |some (some (i,_,b))=>some (es.set i (k,v,b),c)
     |some none=>some (es++[(k,v,c)],c+1)
     |none=>none
    else none
   |none=>none
  |_=>none
 |none=>none
theorem alN {P:jY}{H:Heap}{t:TypeId}{k v:TV}{m:Nm}{es:List (TV×TV×Nat)}{c:Nat}(hk:H.get m=some (.map es c)){p:List (TV×TV×Nat)×Nat}(h:air P t es c k v=some p):kS P H t (.map m) k v=some [(m,.map p.1 p.2)]:=by
 unfold air at h;split at h<;>try (cases h;done)
 rename_i ti ht;split at h<;>try (cases h;done)
 rename_i kt et hd;split at h<;>try (cases h;done)
 rename_i tk UQ;split at h<;>try (cases h;done)
 rename_i hc;unfold kS;simp only[ht,hd,hk,UQ,if_pos hc];split at h<;>cases h<;>simp_all
def Xh (P:jY)(t:TypeId)(es:List (TV×TV×Nat))(c:Nat)(k:TV):Option (TV×List (TV×TV×Nat)×Nat):=
 match bx P t with
 | some ti=>match ti.desc with
  | .map kt et=>match bx P kt,bx P et with
   | some tk,some te=>
    if yM P false kt k=true then
     match oq P kt tk.desc k es 0,te.zero with
     |some (some (i,v,b)),_=>some (sj [v,.t (.int .i64 b)],es.set i (k,v,b),c)
     |some none,some z=>some (sj [z,.t (.int .i64 c)],es++[(k,z,c)],c+1)
     |_,_=>none
    else none
   |_,_=>none
  |_=>none
 |none=>none
theorem alO {P:jY}{H:Heap}{t:TypeId}{k:TV}{m:Nm}{es:List (TV×TV×Nat)}{c:Nat}(hk:H.get m=some (.map es c)){p:TV×List (TV×TV×Nat)×Nat}(h:Xh P t es c k=some p):nP P H t (.map m) k=some (p.1,[(m,.map p.2.1 p.2.2)]):=by
 unfold Xh at h;split at h<;>try (cases h;done)
 rename_i ti ht;split at h<;>try (cases h;done)
 rename_i kt et hd;split at h<;>try (cases h;done)
 rename_i tk te UQ hte;split at h<;>try (cases h;done)
 rename_i hc;unfold nP;simp only[ht,hd,hk,UQ,hte,if_pos hc];split at h<;>cases h<;>simp_all
def ais (P:jY)(H:Heap)(t:TypeId)(x k:TV):M s7:=match x with
 |.map m=>(match H.get m with
  |some (.map es c)=>bq (aiq (Xh P t es c k)) λp=>dP (.val p.1 [(m,.map p.2.1 p.2.2)])
  |_=>iY)
 |x=>qz ((nP P H t x k).map λp=>.val p.1 p.2)
theorem aec (P:jY)(H:Heap)(t:TypeId)(x k:TV):dQ ev (ais P H t x k) ((nP P H t x k).map λp=>.val p.1 p.2):=by
 unfold ais;split
 ·split
  ·rename_i hk;refine MP.bind ad9 λp hp=>MP.ret ?_
   rw[alO hk hp];rfl
  ·exact MP.no
 ·exact dQ.opt _
def Z0 (es:List (TV×TV×Nat))(c:Nat)(n:Int)(v:TV):Option (List (TV×TV×Nat)×Nat):=match sB es n 0 with
 |some i=>match es[i]? with
  |some (k,_,b)=>some (es.set i (k,v,b),c)
  |none=>none
 |none=>none
theorem alP {H:Heap}{v:TV}{kk:IntKind}{n:Int}{m:Nm}{es:List (TV×TV×Nat)}{c:Nat}(hk:H.get m=some (.map es c)){p:List (TV×TV×Nat)×Nat}(h:Z0 es c n v=some p):kI H (.map m) (.t (.int kk n)) v=some [(m,.map p.1 p.2)]:=by
 unfold Z0 at h;split at h<;>try (cases h;done)
 rename_i i hi;split at h<;>try (cases h;done)
 rename_i k w b he;cases h;unfold kI;simp only[hk,hi,he]
def ait (H:Heap)(x s v:TV):M (List (Nm×aO)):=match x,s with
 |.map m,.t (.int _ n)=>(match H.get m with
  |some (.map es c)=>bq (ad8 (Z0 es c n v)) λp=>dP [(m,.map p.1 p.2)]
  |_=>iY)
 |x,s=>qz (kI H x s v)
theorem aed (H:Heap)(x s v:TV):dQ ev (ait H x s v) (kI H x s v):=by
 unfold ait;split
 ·split
  ·rename_i hk;refine MP.bind U7 λp hp=>MP.ret ?_
   exact alP hk hp
  ·exact MP.no
 ·exact dQ.opt _
section
variable {P:jY}{ty kt et:TypeId}{ti tk te:TI}{s:List UInt8}{es:List (TV×TV×Nat)}
end
def aiu (P:jY)(H:Heap)(t:TypeId)(x k v:TV):M (List (Nm×aO)):=match x with
 |.map m=>(match H.get m with
  |some (.map es c)=>bq (ad8 (air P t es c k v)) λp=>dP [(m,.map p.1 p.2)]
  |_=>iY)
 |x=>qz (kS P H t x k v)
theorem aee (P:jY)(H:Heap)(t:TypeId)(x k v:TV):dQ ev (aiu P H t x k v) (kS P H t x k v):=by
 unfold aiu;split
 ·split
  ·rename_i hk;refine MP.bind U7 λp hp=>MP.ret ?_
   exact alN hk hp
  ·exact MP.no
 ·exact dQ.opt _
def Tr (P:jY)(t:TypeId)(x i:TV):M TV:=
 match bx P t,NQ i with
 |some ti,some n=>(match ti.desc,x with
  |.string,.t (.str s)=>bq (aio s n) λb=>dP (.t (.int .u8 b.toNat))
  |_,_=>qz (s4 P t x i))
 |_,_=>qz (s4 P t x i)
theorem Xi (P:jY)(t:TypeId)(x i:TV):dQ ev (Tr P t x i) (s4 P t x i):=by
 unfold Tr;split
 ·rename_i ti n ht hn;have hi:=xG hn;split
  ·rename_i s hd;refine dQ.of_eq (dQ.bind (y:=λb=>some (.t (.int .u8 b.toNat))) (ZP s n) λe _=>dQ.ret _) ?_;unfold s4;rw[ht,hi];simp only[hd];cases s[n]? <;>rfl
  ·exact dQ.opt _
 ·exact dQ.opt _
def Xj (m:M TV):M s7:=bq m λv=>dP (.val v [])
theorem HM {m:M TV}{x:Option TV}(h:dQ ev m x):dQ ev (Xj m) (match Ch x with
 |some (v,u)=>some (.val v u)
 |none=>none):=by
 refine dQ.of_eq (dQ.bind (y:=λv=>some (.val v [])) h λa _=>dQ.ret _) ?_
 cases x<;>rfl
def aiv:TV->Option (List Tree)
 |.t (.sl es)=>some es
 |.pZ es=>some es
 |_=>none
theorem aef {v:TV}{es:List Tree}(h:aiv v=some es):UZ v es:=by
 unfold aiv at h;split at h
 ·cases h;exact .inl rfl
 ·cases h;exact .inr rfl
 ·cases h
def aiw ( P:jY)(nm:Nm)(H:Heap)(st xt:TypeId)(s x:TV):M (TV×List (Nm×aO)):=
 match bx P st with
 | some ti=>(match ti.desc with
  | .slice elem=>(match bx P elem,aiv x with
   | some te,some es=>(match te.zero with
    | some z=>if te.size≠0/\z.cells.length=te.size/\te.bytes≠0/\st=xt then
      bq (ZN te.agg te.size es) λb=>match b with
      |false=>qz (lR P nm H st xt s (.t (.sl [])))
      | true=>(match s with
       |.bX=>bq (BG (es.length*te.bytes) gI) λ_=>dP (.ref nm 0 es.length,[(nm,.arr (elem,te.agg) te.size false ((flat es).map .t))])
       |.pZ []=>bq (BG (es.length*te.bytes) gI) λ_=>dP (.ref nm 0 es.length,[(nm,.arr (elem,te.agg) te.size false ((flat es).map .t))])
       |.ref k 0 len=>(match H.get k with
        | some (.arr g cc fz cs)=>if g=(elem,te.agg)/\cc=te.size then bq (Xe te.agg te.size len cs) λfs=>bq (BG ((len+es.length) *te.bytes) gI) λ_=>dP (.ref k 0 (fs++es).length,[(k,.arr (elem,te.agg) te.size fz ((flat (fs++es)).map .t))])
          else iY
        |_=>iY)
       |_=>iY)
     else iY
    |none=>iY)
   |_,_=>iY)
  |_=>iY)
 |none=>iY
theorem aeg     (C:ey)(nm:Nm)(H:Heap)(st xt:TypeId)(s x:TV):dQ ev (aiw C.P nm H st xt s x) (lR C.P nm H st xt s x):=by
 unfold aiw;split
 ·rename_i ti ht;split
  ·rename_i elem hd;split
   ·rename_i te es hte hx;have hv:=aef hx;split
    ·rename_i z hz;split
     ·rename_i hc;obtain⟨c1,c2,c3,rfl⟩:=hc;have hA:L6 C.P st elem te:=⟨⟨ti,ht,hd⟩,hte,z,hz,c1,c2,c3⟩;refine MP.bind ZR λb hu=> ?_
      cases b with
      | false=>
        obtain rfl:es=[]:=hu
        have e:lR C.P nm H st st s x=lR C.P nm H st st s (.t (.sl [])):=by
          rcases hv with rfl|rfl<;>rfl
        rw[e]
        exact MP.U6 (dQ.opt _)
      |true=>
      obtain⟨hu,hne⟩:=hu;simp only;split
      ·refine MP.bind mI λ_ hb=>MP.ret ?_
       exact uT hA (Nu hv hu) (by simpa using hne) hu.Ap (by simp only[if_pos hb])
      ·refine MP.bind mI λ_ hb=>MP.ret ?_
       refine uT hA (Nu hv hu) (by simpa using hne) hu.Ap ?_;have e:gH H te.agg te.size (.pZ [])=some (0,[]):=rfl;simp only[e,Nat.zero_add,if_pos hb,List.nil_append]
      ·rename_i k len;split
       ·rename_i g cc fz cs hk;split
        ·rename_i hg;obtain⟨rfl,rfl⟩:=hg;refine MP.bind HI λfs hf=>MP.bind mI λ_ hb=>MP.ret ?_
         obtain⟨rfl,rfl,hf⟩:=hf;refine uT hA (Nu hv hu) (by simpa using hne) hu.Ap ?_;have h2:kz H k 0 fs.length=some ((elem,te.agg),te.size,fz,(flat fs).map .t):=by
          unfold kz;simp only[hk];rw[if_pos ⟨by omega,by rw[Nat.zero_add,hf.length]⟩]
         simp only[h2,hb,and_self,if_true,flat,List.flatMap_append,List.map_append,List.length_append]
        ·exact MP.no
       ·exact MP.no
      ·exact MP.no
     ·exact MP.no
    ·exact MP.no
   ·exact MP.no
  ·exact MP.no
 ·exact MP.no
def orM {α:Type}(a b:M α):M α:=λcl=>match a cl with
 |some r=>some r
 |none=>b cl
theorem Z1 {α:Type}{a b:M α}{Q:α->Prop}(h:MP ev a Q)(k:MP ev b Q):MP ev (orM a b) Q:=λcl v E4 em hm he=>by
 unfold orM at hm;split at hm
 ·rename_i r hr;cases hm;exact h _ _ _ _ hr he
 ·exact k _ _ _ _ hm he
def Z2 (P:jY)(H:Heap)(t:TypeId)(k:Nm)(off len:Nat)(i:TV):M TV:=match bx P t,NQ i,H.get k with
 | some ti,some n,some (.arr g cc fz cs)=>(match ti.desc with
  |.slice elem=>(match bx P elem with
   |some te=>if te.size=cc/\0<cc then bq (Jl ((off+len) *cc=cs.length)) λ_=>bq (BG (n+1) len) λ_=>dP (.lK k cs.length ((off+n) *cc)) else iY
   |none=>iY)
  |_=>iY)
 |_,_,_=>iY
theorem aeh {P:jY}{H:Heap}{t:TypeId}{k:Nm}{off len:Nat}{i:TV}:MP ev (Z2 P H t k off len i) λv=>fu P H t (.ref k off len) i=some v:=by
 unfold Z2;split
 ·rename_i ti n g cc fz cs ht hn hk;have hi:=xG hn;split
  ·rename_i elem hd;split
   ·rename_i te hte;split
    ·rename_i hc;refine MP.bind sG λ_ hp=>MP.bind mI λ_ hl=>MP.ret ?_
     have h2:kz H k off len=some (g,cc,fz,cs):=by
      unfold kz;simp only[hk];rw[if_pos ⟨hc.2,hp⟩]
     unfold fu;rw[ht,hi];simp only[hd,hte,h2,hc.1];rw[if_pos ⟨trivial,hl⟩]
    ·exact MP.no
   ·exact MP.no
  ·exact MP.no
 ·exact MP.no
def BH (P:jY)(H:Heap)(t:TypeId)(x i:TV):M TV:=match x with
 |.ref k off len=>orM (Z2 P H t k off len i) (xH P H t (.ref k off len) i)
 |x=>xH P H t x i
theorem Jx (P:jY)(H:Heap)(t:TypeId)(x i:TV):dQ ev (BH P H t x i) (fu P H t x i):=by
 unfold BH;split
 ·exact Z1 (aeh.mono λv hv=>hv) (A4 P H t _ i)
 ·exact A4 P H t _ i
def Z3 (P:jY)(H:Heap)(t:TypeId)(k:Nm)(off len:Nat)(lv:TV):M s7:=match bx P t,H.get k,NQ lv with
 | some ti,some (.arr g cc fz cs),some l=>(match ti.desc with
  |.slice elem=>(match bx P elem with
   |some te=>if cc=te.size/\0<cc then bq (Jl ((off+len) *cc=cs.length)) λ_=>bq (BG l len) λ_=>dP (.val (.ref k (off+l) (len - l)) []) else iY
   |none=>iY)
  |_=>iY)
 |_,_,_=>iY
theorem Z4 {b:Bool}{P:jY}{H:Heap}{nm:Nm}{t:TypeId}{x lv:TV}{hi mx:Option TV}:AR b P H nm t x (some lv) hi mx=none:=by
 cases b with
 |false=>rfl
 |true=>
  show Bl P H nm t x (some lv) hi mx=none
  unfold Bl
  split
  · rename_i h;cases h
  · rfl
def E6 (b:Bool)(P:jY)(H:Heap)(nm:Nm)(t:TypeId)(x:TV)(lo hi mx:Option TV):Option s7:=match AR b P H nm t x lo hi mx with
 |some r=>some (.val r.1 r.2)
 |none=>match s5 P H t x lo hi mx with
  |some (r,ks)=>some (.val r (eO H ks))
  |none=>none
theorem aei {b:Bool}{P:jY}{H:Heap}{nm:Nm}{t:TypeId}{k:Nm}{off len:Nat}{lv:TV}:MP ev (Z3 P H t k off len lv) λr=>E6 b P H nm t (.ref k off len) (some lv) none none=some r:=by
 unfold Z3;split
 ·rename_i ti g cc fz cs l ht hk hl;have hl':=xG hl;split
  ·rename_i elem hd;split
   ·rename_i te hte;split
    ·rename_i hc;refine MP.bind sG λ_ hp=>MP.bind mI λ_ h1=>MP.ret ?_
     have h2:kz H k off len=some (g,cc,fz,cs):=by
      unfold kz;simp only[hk];rw[if_pos ⟨hc.2,hp⟩]
     unfold E6;rw[Z4];have e0:Bk H (.ref k off len)=some len:=rfl;have e1:gi (some lv) 0=some l:=hl';have e2:gi none len=some len:=rfl;simp only[s5,ht,hd,hte,e0,e1,e2,Option.isNone_none,Bool.true_or,h2,hc.1,and_self,if_true];rw[if_pos ⟨h1,Nat.le_refl len⟩];rfl
    ·exact MP.no
   ·exact MP.no
  ·exact MP.no
 ·exact MP.no
def Tt (P:jY)(H:Heap)(nm:Nm)(t:TypeId)(k:Nm)(len:Nat)(hv:TV):M s7:=match bx P t,H.get k,NQ hv with
 | some ti,some (.arr g cc false cs),some h=>(match ti.desc with
  |.slice elem=>(match bx P elem with
   |some te=>if te.size=cc/\0<cc then bq (Jl ((0+len) *cc=cs.length)) λ_=>bq (BG h len) λ_=>bq (ZO (cs.take (h*cc))) λcs'=>dP (.val (.ref nm 0 h) [(k,.dead),(nm,.arr g cc false cs')]) else iY
   |none=>iY)
  |_=>iY)
 |_,_,_=>iY
theorem Z5 {P:jY}{H:Heap}{nm:Nm}{t:TypeId}{k:Nm}{len:Nat}{hv:TV}:MP ev (Tt P H nm t k len hv) λr=>E6 true P H nm t (.ref k 0 len) none (some hv) none=some r:=by
 unfold Tt;split
 ·rename_i ti g cc cs h ht hk hh;have IF:=xG hh;split
  ·rename_i elem hd;split
   ·rename_i te hte;split
    ·rename_i hc;refine MP.bind sG λ_ hp=>MP.bind mI λ_ h1=>MP.bind NJ λcs' hq=>MP.ret ?_
     subst hq;have h2:kz H k 0 len=some (g,cc,false,cs):=by
      unfold kz;simp only[hk];rw[if_pos ⟨hc.2,hp⟩]
     unfold E6;simp only[AR,if_true,Bl,ht,IF,h2,hd,hte,if_pos (And.intro hc.1 h1)]
    ·exact MP.no
   ·exact MP.no
  ·exact MP.no
 ·exact MP.no
def Tv (b:Bool)(P:jY)(H:Heap)(nm:Nm)(t:TypeId)(x:TV)(lo hi mx:Option TV):M s7:=match x,lo,hi,mx with
 |.ref k off len,some lv,none,none=>orM (Z3 P H t k off len lv) (Jw b P H nm t (.ref k off len) (some lv) none none)
 |.ref k 0 len,none,some hv,none=>orM (match b with
  |true=>Tt P H nm t k len hv
  |false=>iY) (Jw b P H nm t (.ref k 0 len) none (some hv) none)
 |x,lo,hi,mx=>Jw b P H nm t x lo hi mx
theorem Tw (b:Bool)(P:jY)(H:Heap)(nm:Nm)(t:TypeId)(x:TV)(lo hi mx:Option TV):dQ ev (Tv b P H nm t x lo hi mx) (E6 b P H nm t x lo hi mx):=by
 unfold Tv;split
 ·exact Z1 aei (E5 b P H nm t _ _ _ _)
 ·refine Z1 ?_ (E5 b P H nm t _ _ _ _);cases b with
  |true=>exact Z5
  |false=>exact MP.no
 ·exact E5 b P H nm t _ _ _ _
def Tx (P:jY)(H:Heap)(t:TypeId)(k:Nm)(off len:Nat):M s7:=match bx P t,H.get k with
 | some ti,some (.arr g cc false cs)=>(match ti.desc with
  | .slice elem=>(match bx P elem with
   |some te=>(match te.zero with
    |some z=>if(te.size=cc/\0<cc)/\z.cells.length=te.size/\z.cells.all TV.leaf=true then bq (Jl ((off+len) *cc=cs.length)) λ_=>bq (ZO (dN cs (off*cc) (rG len z.cells))) λcs'=>dP (.val (.t (.cF [])) [(k,.arr g cc false cs')]) else iY
    |none=>iY)
   |none=>iY)
  |_=>iY)
 |_,_=>iY
theorem Z6 {P:jY}{H:Heap}{t:TypeId}{k:Nm}{off len:Nat}:MP ev (Tx P H t k off len) λr=>(Bn P H t (.ref k off len)).map (λp=>s7.val p.1 p.2)=some r:=by
 unfold Tx;split
 ·rename_i ti g cc cs ht hk;split
  ·rename_i elem hd;split
   ·rename_i te hte;split
    ·rename_i z hz;split
     ·rename_i hc;obtain⟨⟨hc1,cq⟩,bL,gP⟩:=hc;refine MP.bind sG λ_ hp=>MP.bind NJ λcs' hq=>MP.ret ?_
      subst hq;subst hc1;have h2:kz H k off len=some (g,te.size,false,cs):=by
       unfold kz;simp only[hk];rw[if_pos ⟨cq,hp⟩]
      simp only[Bn,ht,hd,hte,hz,h2];rw[if_pos ⟨trivial,bL,gP⟩];rfl
     ·exact MP.no
    ·exact MP.no
   ·exact MP.no
  ·exact MP.no
 ·exact MP.no
def U9 (C:ey)(f:FuncId)(H:Heap)(slots:List TV)(t:Nat)(o:Oper):M s7:=
 match o.op with
 |.call {callee:=.value fo,args,argTypes}=>(match lT C slots {callee:=.value fo,args,argTypes} with
  |some (g,atM)=>ZU H g atM t (Pc C f o)
  |none=>iY)
 |.call {callee:=.invoke recv name,args,argTypes}=>(match Hz C H slots recv name args with
  |some (g,atM)=>ZU H g atM t (Pc C f o)
  |none=>iY)
 |.pick c a b=>(match dz C slots c,dz C slots a,dz C slots b with
  |some (.t (.bool x)),some u,some v=>bq (ZM x) λc=>dP (.val (if c then u else v) [])
  |_,_,_=>iY)
 |.indexAddr ty x i=>(match dz C slots x,dz C slots i with
  |some x,some i=>Xj (BH C.P H ty x i)
  |_,_=>iY)
 |.index ty x i=>(match dz C slots x,dz C slots i with
  |some x,some i=>Xj (Tr C.P ty x i)
  |_,_=>iY)
 |.load ty a=>(match dz C slots a with
  |some a=>Xj (ZV C.P H ty a)
  |_=>iY)
 |.store ty a x=>(match dz C slots a,dz C slots x with
  |some a,some x=>bq (Tp C.P H ty a x) λu=>dP (.val dm u)
  |_,_=>iY)
 |.fieldAddr s x i=>(match dz C slots x with
  |some a=>Xj (Jv C.P H s i a)
  |_=>iY)
 |.slice ty x lo hi mx=>(match dz C slots x,yN C slots lo,yN C slots hi,yN C slots mx with
  |some v,some l,some h,some m=>Tv (o.dst.any (C.lS f)) C.P H (.loc [t]) ty v l h m
  |_,_,_,_=>iY)
 |.lookup ty x k ok=>(match dz C slots x,dz C slots k with
  |some x,some k=>Xj (ZY C.P H ty x k ok)
  |_,_=>iY)
 |.mapUpdate ty x k v=>(match dz C slots x,dz C slots k,dz C slots v with
  |some x,some k,some v=>bq (aiu C.P H ty x k v) λu=>dP (.val dm u)
  |_,_,_=>iY)
 |.mapEntry ty x k=>(match dz C slots x,dz C slots k with
  |some x,some k=>ais C.P H ty x k
  |_,_=>iY)
 |.entryStore ty x s v=>(match dz C slots x,dz C slots s,dz C slots v with
  |some x,some s,some v=>bq (ait H x s v) λu=>dP (.val dm u)
  |_,_,_=>iY)
 | .call {callee:=.builtin .append,args,argTypes}=>(match args.toList,argTypes.toList with
  | [a,b],[ta,tb]=>(match dz C slots a,dz C slots b with
   |some x,some y=>bq (aiw C.P (.loc [t]) H ta tb x y) λp=>dP (.val p.1 p.2)
   |_,_=>iY)
  |_,_=>iY)
 | .call {callee:=.builtin .clear,args,argTypes}=>(match args.toList,argTypes.toList with
  | [a],[ta]=>(match dz C slots a with
   |some (.ref k off len)=>Tx C.P H ta k off len
   |_=>iY)
  |_,_=>iY)
 |.call {callee:=.builtin .max, ..}=>(match bl C o9 f H slots t o with
  |some (.val v u)=>bq (Lh v) λv=>dP (.val v u)
  |_=>iY)
 |.call {callee:=.builtin .min, ..}=>(match bl C o9 f H slots t o with
  |some (.val v u)=>bq (Lh v) λv=>dP (.val v u)
  |_=>iY)
 | .binOp .add ty x y _=>(match dz C slots x,dz C slots y with
  |some (.t (.str a)),some (.t (.str b))=>bq (Tl (vz C.P .add ty x y (.t (.str a)) (.t (.str b)))) λv=>dP (.val v [])
  |_,_=>(match bl C o9 f H slots t o with
   |some (.val v u)=>bq (Lh v) λv=>dP (.val v u)
   |_=>iY))
 |.binOp .sub _ _ _ _=>(match bl C o9 f H slots t o with
  |some (.val v u)=>bq (Lh v) λv=>dP (.val v u)
  |_=>iY)
 |.binOp .mul _ _ _ _=>(match bl C o9 f H slots t o with
  |some (.val v u)=>bq (Lh v) λv=>dP (.val v u)
  |_=>iY)
 |.binOp .quo _ _ _ _=>(match bl C o9 f H slots t o with
  |some (.val v u)=>bq (Lh v) λv=>dP (.val v u)
  |_=>iY)
 |.binOp .shr _ _ _ _=>(match bl C o9 f H slots t o with
  |some (.val v u)=>bq (Lh v) λv=>dP (.val v u)
  |_=>iY)
 |.convert _ _ _=>(match bl C o9 f H slots t o with
  |some (.val v u)=>bq (Lh v) λv=>dP (.val v u)
  |_=>iY)
 |.binOp .neq ty x y _=>(match dz C slots x,dz C slots y with
  |some (.t (.agg a)),some (.t (.agg b))=>bq (Tl (vz C.P .neq ty x y (.t (.agg a)) (.t (.agg b)))) λv=>dP (.val v [])
  |_,_=>qz (bl C o9 f H slots t o))
 |.binOp .eql ty x y _=>(match dz C slots x,dz C slots y with
  |some (.t (.agg a)),some (.t (.agg b))=>bq (Tl (vz C.P .eql ty x y (.t (.agg a)) (.t (.agg b)))) λv=>dP (.val v [])
  |_,_=>qz (bl C o9 f H slots t o))
 |_=>qz (bl C o9 f H slots t o)
theorem Qk (H:Heap)(slots:List TV)(t:Nat)(o:Oper):dQ ev (U9 C f H slots t o) (bl C ev f H slots t o):=by
 unfold U9;split
 ·rename_i fo args ats ho;unfold bl;rw[ho];simp only;split
  ·rename_i g atM hc;rw[hc];exact Qi _ _ _ _ _
  ·exact dQ.no
 ·rename_i fo nm args ats ho;unfold bl;rw[ho];simp only;split
  ·rename_i g atM hc;rw[hc];exact Qi _ _ _ _ _
  ·exact dQ.no
 ·rename_i c a b ho;split
  ·rename_i x u v h1 h2 h3;refine dQ.of_eq (dQ.bind (y:=λc=>some (.val (if c then u else v) [])) (Jm x) λc _=>dQ.ret _) ?_;unfold bl;rw[ho];simp only[evalOp,ho,h1,h2,h3];rfl
  ·exact dQ.no
 ·rename_i ty x i ho;split
  ·rename_i a b h1 h2;refine dQ.of_eq (HM (Jx C.P H ty a b)) ?_;unfold bl;rw[ho];simp only[evalOp,ho,h1,h2];rfl
  ·exact dQ.no
 ·rename_i ty x i ho;split
  ·rename_i a b h1 h2;refine dQ.of_eq (HM (Xi C.P ty a b)) ?_;unfold bl;rw[ho];simp only[evalOp,ho,h1,h2];rfl
  ·exact dQ.no
 ·rename_i ty a ho;split
  ·rename_i x h1;refine dQ.of_eq (HM (ZW C.P H ty x)) ?_;unfold bl;rw[ho];simp only[evalOp,ho,h1];rfl
  ·exact dQ.no
 ·rename_i ty a x ho;split
  ·rename_i u v h1 h2;refine dQ.of_eq (dQ.bind (y:=λq=>some (.val dm q)) (Xg C.P H ty u v) λq _=>dQ.ret _) ?_;unfold bl;rw[ho];simp only[evalOp,ho,h1,h2,AU];cases storeT C.P H ty u v<;>rfl
  ·exact dQ.no
 ·rename_i s x i ho;split
  ·rename_i a h1;refine MP.bind (P:=λv=>∃off,pn C.P s i=some off/\sZ H a off=some v) ?_ λv hv=>MP.ret ?_
   ·unfold Jv;split
    ·rename_i off h2;exact(MP.U6 (Tq H a off)).mono λv hv=>⟨off,h2,hv⟩
    ·exact MP.no
   ·obtain⟨off,h2,h3⟩:=hv;unfold pn at h2;split at h2<;>try (simp at h2;done)
    rename_i ti LM;split at h2<;>try (simp at h2;done)
    rename_i fs hfs;split at h2<;>try (simp at h2;done)
    rename_i fd hfd;split at h2<;>try (simp at h2;done)
    rename_i tf YF;split at h2<;>try (simp at h2;done)
    rename_i hz;simp at h2;subst h2;unfold bl;rw[ho];simp only[evalOp,ho,h1,LM,hfs,hfd,YF,if_neg hz,h3,Ch,Option.map_some]
  ·exact dQ.no
 ·rename_i ty x lo hi mx ho;split
  ·rename_i v l h m h1 h2 h3 h4;refine dQ.of_eq (Tw (o.dst.any (C.lS f)) C.P H (.loc [t]) ty v l h m) ?_;unfold bl E6;rw[ho];simp only[evalOp,ho,h1,h2,h3,h4];cases AR (o.dst.any (C.lS f)) C.P H (.loc [t]) ty v l h m with
   |some r=>rfl
   | none=>
     simp only
     cases s5 C.P H ty v l h m<;>rfl
  ·exact dQ.no
 ·rename_i ty x k ok ho;split
  ·rename_i a b h1 h2;refine dQ.of_eq (HM (ZZ C.P H ty a b ok)) ?_;unfold bl;rw[ho];simp only[evalOp,ho,h1,h2];rfl
  ·exact dQ.no
 ·rename_i ty x k v ho;split
  ·rename_i a b c h1 h2 h3;refine dQ.of_eq (dQ.bind (y:=λq=>some (.val dm q)) (aee C.P H ty a b c) λq _=>dQ.ret _) ?_;unfold bl;rw[ho];simp only[evalOp,ho,h1,h2,h3,AU];cases kS C.P H ty a b c<;>rfl
  ·exact dQ.no
 ·rename_i ty x k ho;split
  ·rename_i a b h1 h2;refine dQ.of_eq (aec C.P H ty a b) ?_;unfold bl;rw[ho];simp only[evalOp,ho,h1,h2];cases nP C.P H ty a b<;>rfl
  ·exact dQ.no
 ·rename_i ty x s v ho;split
  ·rename_i a b c h1 h2 h3;refine dQ.of_eq (dQ.bind (y:=λq=>some (.val dm q)) (aed H a b c) λq _=>dQ.ret _) ?_;unfold bl;rw[ho];simp only[evalOp,ho,h1,h2,h3,AU];cases kI H a b c<;>rfl
  ·exact dQ.no
 ·rename_i args ats ho;split
  ·rename_i a b ta tb ha hta;split
   ·rename_i x y hx hy;refine dQ.of_eq (dQ.bind (y:=λp=>some (.val p.1 p.2)) (aeg C (.loc [t]) H ta tb x y) λp _=>dQ.ret _) ?_;unfold bl;rw[ho];have h1:kJ C slots args.toList=some [x,y]:=by rw[ha];simp only[kJ,hx,hy]
    have h2:mU C (.loc [t]) H .append [ta,tb] [x,y]=lR C.P (.loc [t]) H ta tb x y:=by delta mU;rfl
    simp only[evalOp,ho,h1,hta,h2];cases lR C.P (.loc [t]) H ta tb x y<;>rfl
   ·exact dQ.no
  ·exact dQ.no
 ·rename_i args ats ho;split
  ·rename_i a ta ha hta;split
   ·rename_i k off len hx;refine dQ.of_eq Z6 ?_;unfold bl;rw[ho];have h1:kJ C slots args.toList=some [.ref k off len]:=by rw[ha];simp only[kJ,hx]
    have h2:mU C (.loc [t]) H .clear [ta] [.ref k off len]=Bn C.P H ta (.ref k off len):=by delta mU;rfl
    simp only[evalOp,ho,h1,hta,h2];cases Bn C.P H ta (.ref k off len)<;>rfl
   ·exact dQ.no
  ·exact dQ.no
 ·rename_i atM ats ho;have e:bl C o9 f H slots t o=bl C ev f H slots t o:=by
   unfold bl;rw[ho]
  split
  ·rename_i v u h;refine dQ.of_eq (dQ.bind (y:=λv=>some (.val v u)) (q5 v) λc _=>dQ.ret _) ?_;rw[← e,h];rfl
  ·exact dQ.no
 ·rename_i atM ats ho;have e:bl C o9 f H slots t o=bl C ev f H slots t o:=by
   unfold bl;rw[ho]
  split
  ·rename_i v u h;refine dQ.of_eq (dQ.bind (y:=λv=>some (.val v u)) (q5 v) λc _=>dQ.ret _) ?_;rw[← e,h];rfl
  ·exact dQ.no
 ·rename_i ty x y r2 ho;have e:bl C o9 f H slots t o=bl C ev f H slots t o:=by
   unfold bl;rw[ho]
  split
  ·rename_i a b h1 h2;refine dQ.of_eq (dQ.bind (y:=λv=>some (.val v [])) CX λv _=>dQ.ret _) ?_;unfold bl;rw[ho];simp only[evalOp,ho,h1,h2,Ch];cases vz C.P .add ty x y (.t (.str a)) (.t (.str b))<;>rfl
  ·split
   ·rename_i v u h;refine dQ.of_eq (dQ.bind (y:=λv=>some (.val v u)) (q5 v) λc _=>dQ.ret _) ?_;rw[← e,h];rfl
   ·exact dQ.no
 ·rename_i ty x y r2 ho;have e:bl C o9 f H slots t o=bl C ev f H slots t o:=by
   unfold bl;rw[ho]
  split
  ·rename_i v u h;refine dQ.of_eq (dQ.bind (y:=λv=>some (.val v u)) (q5 v) λc _=>dQ.ret _) ?_;rw[← e,h];rfl
  ·exact dQ.no
 ·rename_i ty x y r2 ho;have e:bl C o9 f H slots t o=bl C ev f H slots t o:=by
   unfold bl;rw[ho]
  split
  ·rename_i v u h;refine dQ.of_eq (dQ.bind (y:=λv=>some (.val v u)) (q5 v) λc _=>dQ.ret _) ?_;rw[← e,h];rfl
  ·exact dQ.no
 ·rename_i ty x y r2 ho;have e:bl C o9 f H slots t o=bl C ev f H slots t o:=by
   unfold bl;rw[ho]
  split
  ·rename_i v u h;refine dQ.of_eq (dQ.bind (y:=λv=>some (.val v u)) (q5 v) λc _=>dQ.ret _) ?_;rw[← e,h];rfl
  ·exact dQ.no
 ·rename_i ty x y r2 ho;have e:bl C o9 f H slots t o=bl C ev f H slots t o:=by
   unfold bl;rw[ho]
  split
  ·rename_i v u h;refine dQ.of_eq (dQ.bind (y:=λv=>some (.val v u)) (q5 v) λc _=>dQ.ret _) ?_;rw[← e,h];rfl
  ·exact dQ.no
 ·rename_i ty x y ho;have e:bl C o9 f H slots t o=bl C ev f H slots t o:=by
   unfold bl;rw[ho]
  split
  ·rename_i v u h;refine dQ.of_eq (dQ.bind (y:=λv=>some (.val v u)) (q5 v) λc _=>dQ.ret _) ?_;rw[← e,h];rfl
  ·exact dQ.no
 ·rename_i ty x y r2 ho;split
  ·rename_i a b h1 h2;refine dQ.of_eq (dQ.bind (y:=λv=>some (.val v [])) CX λv _=>dQ.ret _) ?_;unfold bl;rw[ho];simp only[evalOp,ho,h1,h2,Ch];cases vz C.P .neq ty x y (.t (.agg a)) (.t (.agg b))<;>rfl
  ·have e:bl C o9 f H slots t o=bl C ev f H slots t o:=by
    unfold bl;rw[ho]
   rw[← e];exact dQ.opt _
 ·rename_i ty x y r2 ho;split
  ·rename_i a b h1 h2;refine dQ.of_eq (dQ.bind (y:=λv=>some (.val v [])) CX λv _=>dQ.ret _) ?_;unfold bl;rw[ho];simp only[evalOp,ho,h1,h2,Ch];cases vz C.P .eql ty x y (.t (.agg a)) (.t (.agg b))<;>rfl
  ·have e:bl C o9 f H slots t o=bl C ev f H slots t o:=by
    unfold bl;rw[ho]
   rw[← e];exact dQ.opt _
 ·rename_i h1 h2 h3 h4 h5 h6 h7 h8 h9 h10 h11 h12 h13 Sj Ql h16 h17 h18 h19 h20 h21 h22 h23 h24 h25;have e:bl C o9 f H slots t o=bl C ev f H slots t o:=by
   unfold bl;split
   ·rfl
   ·rename_i fo args ats ho;exact absurd ho (h1 fo args ats)
   ·rename_i r nm args ats ho;exact absurd ho (h2 r nm args ats)
   ·rfl
  rw[← e];exact dQ.opt _
def aej (C:ey)(f:FuncId)(ops:Array Oper):List Oper->St->M (aQ×St)
 | [],st=>dP (.normal,st)
 | o::r,st=>bq (HJ ops st.slots o) λw=>match w with
  |false=>aej C f ops r {st with slots:=ew st.slots o.dst dm,tick:=st.tick+1}
  |true=>bq (U9 C f st.H st.slots st.tick o) λres=>match res with
   |.val v u=>aej C f ops r {slots:=ew st.slots o.dst v,H:=st.H.eY u,tick:=st.tick+1}
   |.panic v u l=>dP (.panic v,{st with H:=(st.H.yz l).eY u,tick:=st.tick+1})
theorem NS (ops:Array Oper):∀(l:List Oper) (st:St),dQ ev (aej C f ops l st) (GY C ev f ops l st)
 | [],st=>dQ.ret _
 | o ::r,st=>by
   refine dQ.of_eq (dQ.bind (y:=λw=>match w with
     |false=>GY C ev f ops r {st with slots:=ew st.slots o.dst dm,tick:=st.tick+1}
     | true=>(bl C ev f st.H st.slots st.tick o).bind λres=>match res with
       |.val v u=>GY C ev f ops r {slots:=ew st.slots o.dst v,H:=st.H.eY u,tick:=st.tick+1}
       |.panic v u l=>some (.panic v,{st with H:=(st.H.yz l).eY u,tick:=st.tick+1})) (Jn ops st.slots o) λw _=> ?_) ?_
   · cases w with
     |false=>exact NS ops r _
     | true=>
       refine dQ.bind (Qk st.H st.slots st.tick o) λres _=> ?_
       cases res with
       |val v u=>exact NS ops r _
       |panic v u l=>exact dQ.ret _
   · rw[ GY]
     cases eT ops st.slots o with
     |none=>rfl
     | some w=>
       cases w with
       |false=>rfl
       | true=>
         show(bl C ev f st.H st.slots st.tick o).bind _=_
         cases bl C ev f st.H st.slots st.tick o with
         |none=>rfl
         |some res=>cases res<;>rfl
def Z7 (bs:List Nat)(i:Nat):Option Nat->Bool
 |some j=>iC bs j i
 |none=>false
def Qm (C:ey)(ev:bt)(f:FuncId)(ops:Array Oper)(t0 i:Nat)(o:Oper)(s:wY)(uy:Option Nat):Option Rec:=
 (eT ops s.slots o).bind λw=>match w with
  |false=>some ⟨[],.unwanted⟩
  | true=>(Sy C s.H s.slots o).bind λfp=>(bl C ev f (ov s.H fp) s.slots (t0+i) o).bind λres=>match res with
   |.val v u=>some ⟨fp,.val v u⟩
   |.panic v u l=>match uy with
    |some _=>none
    |none=>some ⟨fp,.panic v u l⟩
theorem aix (ops:Array Oper)(bs:List Nat)(t0 i:Nat)(o:Oper)(s:wY)(uy:Option Nat):Ys C ev f ops bs t0 i o s uy=bif Z7 bs i uy then some ⟨[],.Ae⟩ else Qm C ev f ops t0 i o s uy:=by
 unfold Ys Qm;simp only[xB,Je];have e:(match eT ops s.slots o with
  |none=>none
  |some false=>some ⟨[],.unwanted⟩
  | some true=>
   match Sy C s.H s.slots o with
   |none=>none
   | some fp=>
    match bl C ev f (ov s.H fp) s.slots (t0+i) o with
    |none=>none
    |some (.val v u)=>some ⟨fp,.val v u⟩
    |some (.panic v u l)=>match uy with
     |some _=>none
     |none=>some ⟨fp,.panic v u l⟩:Option Rec)=Qm C ev f ops t0 i o s uy:=by
  unfold Qm
  cases eT ops s.slots o with
  |none=>rfl
  | some w=>
   cases w with
   |false=>rfl
   | true=>
    simp only[Option.bind_some]
    cases Sy C s.H s.slots o with
    |none=>rfl
    |some fp=>
     simp only[Option.bind_some]
     cases bl C ev f (ov s.H fp) s.slots (t0+i) o with
     |none=>rfl
     |some res=>cases res<;>rfl
 unfold Qm at e;cases uy with
 |none=>exact e
 |some j=>
  show(match iC bs j i with|true=>_|false=>_)=bif iC bs j i then _ else _
  cases iC bs j i with
  |true=>rfl
  |false=>exact e
def fpO (C:ey)(H:Heap)(slots:List TV)(o:Oper):M (List Nm):=match o.op with
 |.call {callee:=.value fo,args,argTypes}=>(match lT C slots {callee:=.value fo,args,argTypes} with
  |some (_,atM)=>zj H iH [] (TV.kT atM)
  |none=>iY)
 |.call {callee:=.invoke recv name,args,argTypes}=>(match dz C slots recv,kJ C slots args.toList with
  |some v,some atM=>zj H iH [] (v.names++TV.kT atM)
  |_,_=>iY)
 |_=>qz (Sy C H slots o)
theorem alQ {H:Heap}{slots:List TV}{o:Oper}:MP ev (fpO C H slots o) λfp=>Sy C H slots o=some fp:=by
 unfold fpO;split
 ·rename_i fo args ats ho;split
  ·rename_i g atM hc;refine(wA _ _ _).mono λS hS=> ?_
   unfold Sy;rw[ho];simp only[hc];exact hS.1
  ·exact MP.no
 ·rename_i recv name args ats ho;split
  ·rename_i v atM h1 h2;refine(wA _ _ _).mono λS hS=> ?_
   unfold Sy;rw[ho];simp only[h1,h2];exact hS.1
  ·exact MP.no
 ·exact MP.U6 (dQ.opt _)
def aiy (C:ey)(f:FuncId)(ops:Array Oper)(bs:List Nat)(t0 i:Nat)(o:Oper)(s:wY)(uy:Option Nat):M Rec:=
 match Z7 bs i uy with
 |true=>dP ⟨[],.Ae⟩
 |false=>bq (HJ ops s.slots o) λw=>match w with
  |false=>dP ⟨[],.unwanted⟩
  | true=>bq (fpO C s.H s.slots o) λfp=>bq (U9 C f (ov s.H fp) s.slots (t0+i) o) λres=>match res with
    |.val v u=>dP ⟨fp,.val v u⟩
    |.panic v u l=>match uy with
     |some _=>iY
     |none=>dP ⟨fp,.panic v u l⟩
theorem aek (ops:Array Oper)(bs:List Nat)(t0 i:Nat)(o:Oper)(s:wY)(uy:Option Nat):dQ ev (aiy C f ops bs t0 i o s uy) (Ys C ev f ops bs t0 i o s uy):=by
 rw[aix];unfold aiy;cases Z7 bs i uy with
 |true=>exact dQ.ret _
 | false=>
  refine dQ.bind (Jn ops s.slots o) λw _=> ?_
  cases w with
  |false=>exact dQ.ret _
  | true=>
   simp only
   refine dQ.bind alQ λfp _=> ?_
   refine dQ.bind (Qk _ _ _ _) λres _=> ?_
   cases res with
   |val v u=>exact dQ.ret _
   |panic v u l=>
    cases uy with
    |none=>exact dQ.ret _
    |some _=>exact dQ.no
def Z8 (C:ey)(f:FuncId)(ops:Array Oper)(bs:List Nat)(t0:Nat):Nat->List Oper->wY->Option Nat->M (List Rec)
 |_,[],_,_=>dP []
 |i,o::r,s,uy=>bq (aiy C f ops bs t0 i o s uy) λrec=>bq (Z8 C f ops bs t0 (i+1) r (s.after o rec.res) (l5 i uy rec.res)) λrs=>dP (rec::rs)
theorem Qn (ops:Array Oper)(bs:List Nat)(t0:Nat):∀(l:List Oper) (i:Nat) (s:wY) (uy:Option Nat),dQ ev (Z8 C f ops bs t0 i l s uy) (G5 C ev f ops bs t0 i l s uy)
 | [],i,s,uy=>dQ.ret _
 | o::r,i,s,uy=>by
  refine dQ.of_eq (dQ.bind (aek ops bs t0 i o s uy) λrec _=>dQ.bind (y:=λrs=>some (rec::rs)) (Qn ops bs t0 r (i+1) (s.after o rec.res) (l5 i uy rec.res)) λrs _=>dQ.ret _) ?_
  rw[G5]
  cases Ys C ev f ops bs t0 i o s uy with
  |none=>rfl
  |some rec=>
   simp only[Option.bind_some]
   cases G5 C ev f ops bs t0 (i+1) r (s.after o rec.res) (l5 i uy rec.res)<;>rfl
noncomputable def Tz (C:ey)(ops:Array Oper)(st:St)(recs:List Rec)(i:Nat)(x:Oper)(rx ry:Rec):Option Prop:=match x.op with
 | .lookup t m k ok=>(match rx.fp,rx.res,ry.res with
  | [nm],.val v [],.val _ [(nm',.map es _)]=>if nm=nm' then(match dz C (kK (x.looksAt ops) 0 (jr ops.toList recs (s0 st) (λ_=>true) i).slots) m,dz C (kK (x.looksAt ops) 0 (jr ops.toList recs (s0 st) (λ_=>true) i).slots) k with
   |some (.map n2),some kv=>if n2=nm then some (A5 C.P t es kv ok=some v) else none
   |_,_=>none) else none
  |_,_,_=>none)
 |_=>none
theorem Xk {st:St}{ops:Array Oper}{recs:List Rec}{i:Nat}{x:Oper}{rx ry:Rec}{p:Prop}(h:Tz C ops st recs i x rx ry=some p)(hp:p):YY C ev f ops st recs i x rx ry:=by
 unfold Tz at h;split at h
 ·rename_i t m k ok hx;split at h
  ·rename_i nm v w nm' es c h1 h2 h3;split at h
   ·rename_i hn;subst hn;split at h
    ·rename_i n2 kv h4 h5;split at h
     ·rename_i hn2;subst hn2;cases h;refine⟨_,_,_,_,h1,h2,h3, ?_⟩;have hg:Heap.get [(n2,aO.map es c)] n2=some (.map es c):=if_pos rfl;unfold bl;rw[hx];simp only[evalOp,hx,h4,h5,ZX hg,hp,Ch,Option.map_some]
     ·cases h
    ·cases h
   ·cases h
  ·cases h
 ·cases h
noncomputable def Z9 (C:ey)(ops:Array Oper)(st:St)(recs:List Rec)(bs:List Nat)(i j:Nat):M Unit:=match ops.toList[i]?,ops.toList[j]?,recs[i]?,recs[j]? with
 | some x,some y,some rx,some ry=>(match iC bs i j||vA ops x y rx ry with
  |true=>dP ()
  |false=>(match l6 ops x y,Tz C ops st recs i x rx ry with
   |true,some p=>Jl p
   |_,_=>iY))
 |_,_,_,_=>dP ()
noncomputable def aac (C:ey)(ops:Array Oper)(st:St)(recs:List Rec)(bs:List Nat):Nat->Nat->M Unit
 |0,_=>dP ()
 |i+1,j=>bq (Z9 C ops st recs bs i j) λ_=>aac C ops st recs bs i j
noncomputable def aad (C:ey)(ops:Array Oper)(st:St)(recs:List Rec)(bs:List Nat):Nat->M Unit
 |0=>dP ()
 |j+1=>bq (aac C ops st recs bs j j) λ_=>aad C ops st recs bs j
def TA (C:ey)(ev:bt)(f:FuncId)(ops:Array Oper)(st:St)(recs:List Rec)(i j:Nat):Prop:=∀(x y:Oper) (rx ry:Rec),ops.toList[i]?=some x->ops.toList[j]?=some y->recs[i]?=some rx->recs[j]?=some ry->
 iC (nC ops.toList []) i j=true\/vA ops x y rx ry=true\/(l6 ops x y=true/\YY C ev f ops st recs i x rx ry)
theorem aae {ops:Array Oper}{st:St}{recs:List Rec}{i j:Nat}:MP ev (Z9 C ops st recs (nC ops.toList []) i j) λ_=>TA C ev f ops st recs i j:=by
 unfold Z9;split
 ·rename_i x y rx ry h1 h2 h3 h4;split
  ·rename_i hb;refine MP.ret λx' y' rx' ry' e1 e2 e3 e4=> ?_
   rw[h1] at e1;rw[h2] at e2;rw[h3] at e3;rw[h4] at e4;cases e1;cases e2;cases e3;cases e4;exact(Bool.or_eq_true _ _▸hb).imp (λh=>h) .inl
  ·split
   ·rename_i p hs hp;refine sG.mono λ_ hpp x' y' rx' ry' e1 e2 e3 e4=> ?_
    rw[h1] at e1;rw[h2] at e2;rw[h3] at e3;rw[h4] at e4;cases e1;cases e2;cases e3;cases e4;exact .inr (.inr ⟨hs,Xk hp hpp⟩)
   ·exact MP.no
 ·rename_i hn;exact MP.ret λx y rx ry e1 e2 e3 e4=>absurd e4 (hn x y rx ry e1 e2 e3)
theorem Qo {ops:Array Oper}{st:St}{recs:List Rec}{j:Nat}:∀(n:Nat),MP ev (aac C ops st recs (nC ops.toList []) n j) λ_=>∀i,i<n->TA C ev f ops st recs i j
 |0=>MP.ret λi hi=>by omega
 | n +1=>MP.bind aae λ_ h1=>(Qo n).mono λ_ h2 i hi=>by
   rcases Nat.lt_or_ge i n with h|h
   · exact h2 i h
   · have:i=n:=by omega
     subst this;exact h1
theorem Qp {ops:Array Oper}{st:St}{recs:List Rec}:∀(n:Nat),MP ev (aad C ops st recs (nC ops.toList []) n) λ_=>∀j,j<n->∀i,i<j->TA C ev f ops st recs i j
 |0=>MP.ret λj hj=>by omega
 | n +1=>MP.bind (Qo n) λ_ h1=>(Qp n).mono λ_ h2 j hj=>by
   rcases Nat.lt_or_ge j n with h|h
   · exact h2 j h
   · have:j=n:=by omega
     subst this;exact h1
noncomputable def Qq (C:ey)(f:FuncId)(ops:Array Oper)(st:St):M (aQ×St):=
 bq (Z8 C f ops (nC ops.toList []) st.tick 0 ops.toList {slots:=st.slots,H:=st.H} none) λrecs=>match wZ 0 ops.toList with
  |true=>(match nQ ops ops.toList recs (nC ops.toList []) ops.toList recs 0 with
   |true=>dP (WU ops st recs)
   |false=>bq (aad C ops st recs (nC ops.toList []) ops.size) λ_=>dP (WU ops st recs))
  |false=>iY
theorem TB (hm:C.P.prog.follows .mixedOrders=true)(aJ:aC C ev){ops:Array Oper}{st:St}{id:Nat}:MP ev (Qq C f ops st) λp=>∀Q,Q p.1 p.2->AW C (.region id ops true) st Q:=
 MP.bind (MP.U6 (Qn _ _ _ _ _ _ _)) λrecs LU=>by
  split
  ·rename_i hb;split
   ·rename_i hf;exact MP.ret λQ hq G0 w0 G w a h0 hs hst=>Bw hm aJ LU (λi j x y rx ry hij hx hy CI hry=>(UR hf hij hx hy CI hry).imp (λh=>h) .inl) hb rfl hst λex a' w' hg=>⟨_,_,hq,Good.comp hs rfl hg⟩
   ·refine MP.bind (Qp ops.size) λ_ hf=>MP.ret λQ hq G0 w0 G w a h0 hs hst=>Bw hm aJ LU (λi j x y rx ry hij hx hy CI hry=>hf j (by
     have:=(List.getElem?_eq_some_iff.1 hy).1;simpa using this) i hij x y rx ry hx hy CI hry) hb rfl hst λex a' w' hg=>⟨_,_,hq,Good.comp hs rfl hg⟩
  ·exact MP.no
def Va (C:ey)(f:FuncId):Code->St->M (aQ×St)
 |.skip,st=>dP (.normal,st)
 |.label _,st=>dP (.normal,st)
 |.region _ ops draw,st=>match draw with
  |true=>Qq C f ops st
  |false=>aej C f ops ops.toList st
 |.exit id,st=>dP (.exit id,st)
 |.ret,st=>dP (.ret,st)
 |_,_=>iY
theorem ael (hm:C.P.prog.follows .mixedOrders=true)(aJ:aC C ev):∀(c:Code) (st:St),MP ev (Va C f c st) λp=>∀Q,Q p.1 p.2->AW C c st Q:=by
 have ev':∀{c:Code} {st:St} {m:M (aQ×St)},dQ ev m (evalCode C ev f 0 c st)->MP ev m λp=>∀Q,Q p.1 p.2->AW C c st Q:=λh=>(MP.U6 h).mono λp hp Q hq=>AW.eval hm aJ hp hq
 intro c st;cases c with
 |skip=>exact ev' (dQ.ret _)
 |label l=>exact ev' (dQ.ret _)
 |region id ops draw=>
  cases draw with
  |true=>exact TB hm aJ
  |false=>exact ev' (NS ops ops.toList st)
 |exit id=>exact ev' (dQ.ret _)
 |ret=>exact ev' (dQ.ret _)
 |_=>exact MP.no
theorem zk {P:Program}{c:Code}{R R':Exit->Act->World->Prop}(h:∀ex a w,R ex a w->R' ex a w):∀(n:Nat) {a:Act} {w:World},Code.rounds P c R n a w->Code.rounds P c R' n a w
 |0,_,_,h0=>h0
 |n+1,a,w,h1=>by
  rw[rounds_succ] at h1 ⊢
  refine wp_mono h1 λex a' w' hx=> ?_
  cases ex<;>first|exact zk h n hx|exact h _ _ _ hx
def O6 (C:ey)(b:Code)(n:Nat)(st:St)(Q:aQ->St->Prop):Prop:=∀(G0:Gh) (w0:World) (G:Gh) (w:World) (a a1:Act),(∀p,¬G0.dom (.loc p))->ei G0 w0 G w->a1.defers=a.defers->yG C G w st a1->
 Code.rounds C.P b (λex a' w'=>∃e st',Q e st'/\Good C G0 w0 a e st' ex a' w') n a1 w
theorem O6.mono {b:Code}{n:Nat}{st:St}{Q Q':aQ->St->Prop}(h:O6 C b n st Q)(k:∀e s,Q e s->Q' e s):O6 C b n st Q':=λG0 w0 G w a a1 h0 hs hd hst=>zk (λ_ _ _ ⟨e,s,hq,hg⟩=>⟨e,s,k e s hq,hg⟩) n (h G0 w0 G w a a1 h0 hs hd hst)
theorem O6.loop {b:Code}{n:Nat}{st:St}{Q:aQ->St->Prop}(h:O6 C b n st Q):AW C (.loop b) st Q:=λG0 w0 G w a h0 hs hst=>wp_loop_rounds n (h G0 w0 G w a a h0 hs rfl hst)
def alR (C:ey)(b:Code)(n:Nat)(Q:aQ->St->Prop):aQ->St->Prop
 |.normal,s=>O6 C b n s Q
 |e,s=>Q e s
theorem O6.succ {b:Code}{n:Nat}{st:St}{Q:aQ->St->Prop}(h:AW C b st (alR C b n Q)):O6 C b (n+1) st Q:=by
 intro G0 w0 G w a a1 h0 hs hd hst;rw[rounds_succ];refine wp_mono (h G0 w0 G w a1 h0 hs hst) λex a2 w2 ⟨e,st1,hq,hg⟩=> ?_
 cases e with
 |normal=>
  obtain⟨rfl,hd2,G1,hs1,ji⟩:=hg.nH
  exact hq G0 w0 G1 w2 a a2 h0 hs1 (hd2.trans hd) ji
 |exit id=>exact gM (hg.gL (by simp)) ⟨_,_,hq,Good.I2 hd hg⟩
 |ret=>exact gM (hg.gL (by simp)) ⟨_,_,hq,Good.I2 hd hg⟩
 |panic v=>exact gM (hg.gL (by simp)) ⟨_,_,hq,Good.I2 hd hg⟩
inductive Fr where
 |c (x:Code)
 |b (id:Nat)
 |x (b:Code) (n:Nat)
def KE (C:ey)(Q:aQ->St->Prop):List Fr->aQ->St->Prop
 | [],e,s=>Q e s
 |.c x::K,.normal,s=>AW C x s (KE C Q K)
 |.c _::K,.exit i,s=>KE C Q K (.exit i) s
 |.c _::K,.ret,s=>KE C Q K .ret s
 |.c _::K,.panic v,s=>KE C Q K (.panic v) s
 |.b id::K,.exit i,s=>if i=id then KE C Q K .normal s else KE C Q K (.exit i) s
 |.b _::K,.normal,s=>KE C Q K .normal s
 |.b _::K,.ret,s=>KE C Q K .ret s
 |.b _::K,.panic v,s=>KE C Q K (.panic v) s
 |.x b n::K,.normal,s=>O6 C b n s (KE C Q K)
 |.x _ _::K,.exit i,s=>KE C Q K (.exit i) s
 |.x _ _::K,.ret,s=>KE C Q K .ret s
 |.x _ _::K,.panic v,s=>KE C Q K (.panic v) s
theorem KE.seq {Q:aQ->St->Prop}{a b:Code}{K:List Fr}{s:St}(h:KE C Q (.c a:: .c b::K) .normal s):KE C Q (.c (.seq a b)::K) .normal s:=by
 refine AW.seq (AW.mono h λe s' h=> ?_);cases e with
 |normal=>exact h
 |_=>exact h
theorem KE.block {Q:aQ->St->Prop}{id:Nat}{x:Code}{K:List Fr}{s:St}(h:KE C Q (.c x:: .b id::K) .normal s):KE C Q (.c (.block id x)::K) .normal s:=by
 refine AW.block (AW.mono h λe s' h=> ?_);cases e with
 |exit i=>exact h
 |_=>exact h
theorem KE.cond {Q:aQ->St->Prop}{c:Operand}{a b:Code}{K:List Fr}{s:St}{q:Bool}(hc:dz C s.slots c=some (.t (.bool q)))(h:KE C Q (.c (cond q a b)::K) .normal s):KE C Q (.c (.cond c a b)::K) .normal s:=by
 cases q with
 |true=>exact AW.cond hc (λ_=>h) λe=>by cases e
 |false=>exact AW.cond hc (λe=>by cases e) λ_=>h
theorem KE.round {Q:aQ->St->Prop}{b:Code}{n:Nat}{K:List Fr}{s:St}(h:KE C Q (.c b:: .x b n::K) .normal s):O6 C b (n+1) s (KE C Q K):=O6.succ (AW.mono h λe s' h=>by cases e<;>exact h)
theorem KE.rounds {Q:aQ->St->Prop}{b:Code}{n:Nat}{K:List Fr}{s:St}(h:KE C Q (.x b n::K) .normal s):KE C Q (.c (.loop b)::K) .normal s:=O6.loop h
def xI:Code->Option Nat
 |.seq a b=>(xI a).or (xI b)
 |.cond _ a b=>(xI a).or (xI b)
 |.block _ c=>xI c
 |.loop c=>xI c
 |.region id _ _=>some id
 |_=>none
def isIn (l:List Nat):Option Nat->Bool
 |some r=>l.any (Nat.beq r)
 |none=>false
def goK (C:ey)(f:FuncId)(once:List Nat)(stop:Nat):Nat->List Fr->aQ->St->M (List Fr×aQ×St)
 |0,_,_,_=>iY
 |_+1,[],e,s=>dP ([],e,s)
 | n+1,.x b i::K,e,s=>match e with
  |.normal=>(match i with
   |0=>iY
   |i+1=>goK C f once stop n (.c b:: .x b i::K) .normal s)
  |e=>goK C f once stop n K e s
 | n+1,.b id::K,e,s=>match e with
  |.exit i=>(match Nat.beq i id with
   |true=>goK C f once stop n K .normal s
   |false=>goK C f once stop n K (.exit i) s)
  |e=>goK C f once stop n K e s
 | n+1,.c x::K,e,s=>match e with
  | .normal=>(match x with
   |.seq a b=>goK C f once stop n (.c a:: .c b::K) .normal s
   |.block id x=>goK C f once stop n (.c x:: .b id::K) .normal s
   |.loop x=>(match isIn once (xI x) with
    |true=>goK C f once stop n (.x x 40::K) .normal s
    |false=>dP (.c (.loop x)::K,.normal,s))
   |.cond c a b=>(match dz C s.slots c with
    |some (.t (.bool q))=>bq (ZM q) λq=>goK C f once stop n (.c (cond q a b)::K) .normal s
    |_=>iY)
   |.region id ops d=>(match Nat.beq id stop with
    |true=>dP (.c (.region id ops d)::K,.normal,s)
    |false=>bq (Va C f (.region id ops d) s) λp=>goK C f once stop n K p.1 p.2)
   |x=>bq (Va C f x s) λp=>goK C f once stop n K p.1 p.2)
  |e=>goK C f once stop n K e s
theorem rO (hm:C.P.prog.follows .mixedOrders=true)(aJ:aC C ev){once:List Nat}{stop:Nat}:∀(n:Nat) (K:List Fr) (e:aQ) (s:St),MP ev (goK C f once stop n K e s) λp=>∀Q,KE C Q p.1 p.2.1 p.2.2->KE C Q K e s:=by
 intro n;induction n with
 |zero=>intro K e s;exact MP.no
 | succ n ih =>
   intro K e s
   have code:∀(x:Code) (K:List Fr),MP ev (bq (Va C f x s) λp=>goK C f once stop n K p.1 p.2) λp=>∀Q,KE C Q p.1 p.2.1 p.2.2->KE C Q (.c x::K) .normal s:=λx K=>
     MP.bind (ael hm aJ x s) λp hx=>(ih K p.1 p.2).mono λq hq Q hk=>hx _ (hq Q hk)
   cases K with
   |nil=>exact MP.ret λQ h=>h
   | cons fr K=>
     cases fr with
     | x b i=>
       cases e with
       | normal=>
         cases i with
         |zero=>exact MP.no
         |succ i=>exact(ih (.c b:: .x b i::K) .normal s).mono λq hq Q hk=>KE.round (hq Q hk)
       |exit i=>exact ih K (.exit i) s
       |ret=>exact ih K .ret s
       |panic v=>exact ih K (.panic v) s
     | b id=>
       cases e with
       | exit i=>
         cases hb:Nat.beq i id with
         | true=>
           simp only[goK,hb]
           refine(ih K .normal s).mono λq hq Q hk=> ?_
           show if i=id then _ else _
           rw[if_pos (Nat.eq_of_beq_eq_true hb)]
           exact hq Q hk
         | false=>
           simp only[goK,hb]
           refine(ih K (.exit i) s).mono λq hq Q hk=> ?_
           show if i=id then _ else _
           rw[if_neg (Nat.ne_of_beq_eq_false hb)]
           exact hq Q hk
       |normal=>exact ih K .normal s
       |ret=>exact ih K .ret s
       |panic v=>exact ih K (.panic v) s
     | c x =>
       cases e with
       |exit i=>exact ih K (.exit i) s
       |ret=>exact ih K .ret s
       |panic v=>exact ih K (.panic v) s
       | normal=>
         cases x with
         |seq a b=>exact(ih (.c a:: .c b::K) .normal s).mono λq hq Q hk=>KE.seq (hq Q hk)
         |block id x=>exact(ih (.c x:: .b id::K) .normal s).mono λq hq Q hk=>KE.block (hq Q hk)
         | loop x=>
           simp only[goK]
           split
           · exact(ih (.x x 40::K) .normal s).mono λq hq Q hk=>KE.rounds (hq Q hk)
           · exact MP.ret λQ h=>h
         | cond c a b=>
           simp only[goK]
           split
           · rename_i q hc
             refine MP.bind (MP.U6 (Jm q)) λq' hq'=>(ih (.c (cond q' a b)::K) .normal s).mono λr hr Q hk=> ?_
             cases hq'
             exact KE.cond hc (hr Q hk)
           · exact MP.no
         | region id ops d=>
           simp only[goK]
           split
           · exact MP.ret λQ h=>h
           · exact code _ _
         |skip=>exact code .skip K
         |rangeFunc a b c d=>exact code (.rangeFunc a b c d) K
         |exit i=>exact code (.exit i) K
         |scope b=>exact code (.scope b) K
         |label l=>exact code (.label l) K
         |goto l=>exact code (.goto l) K
         |ret=>exact code .ret K
         |refuse w=>exact code (.refuse w) K
end ops
abbrev Ob (ev:bt):={c:Cl // c.holds ev}
def rq {α:Type}:Nat->α->List α->List α
 |0,_,l=>l
 |n+1,a,l=>a::rq n a l
abbrev vals {ev:bt}(l:List (Ob ev)):List Cl:=l.map (·.1)
section obs
variable {ev:bt}
abbrev oT:Ob ev:=⟨.b true true,rfl⟩
abbrev oF:Ob ev:=⟨.b false false,rfl⟩
abbrev oB {x c:Bool}(h:x=c):Ob ev:=⟨.b x c,h⟩
abbrev oC {g:FuncId}{atM:List TV}{os:List aO}{x:br}(h:ev g atM os=some x):Ob ev:=⟨.r g atM os x,h⟩
abbrev oE {l:List Tree}{i:Nat}{x:Tree}(h:l[i]?=some x):Ob ev:=⟨.e l i x,h⟩
abbrev oY {l:List UInt8}{i:Nat}{x:UInt8}(h:l[i]?=some x):Ob ev:=⟨.y l i x,h⟩
abbrev oV {x y:TV}(h:x=y):Ob ev:=⟨.v x y,h⟩
abbrev oN {o:aO}(h:∀σ,o.rn σ=some o):Ob ev:=⟨.n o,h⟩
theorem nU (l:List (Ob ev)):∀c∈vals l,c.holds ev:=λc hc=>by
 obtain⟨o,_,rfl⟩:=List.mem_map.1 hc;exact o.2
abbrev oU (ag:Bool)(sz:Nat)(es:List Tree)(h:eP ag sz es)(hn:es≠ []):Ob ev:=⟨.u ag sz es,h,hn⟩
abbrev oW (ag:Bool)(sz:Nat)(fs:List Tree)(h:eP ag sz fs):Ob ev:=⟨.w ag sz fs fs.length ((flat fs).map .t),rfl,rfl,h⟩
abbrev oA (a:Nat)(h:a<=70368744177664):Ob ev:=⟨.l a gI,h⟩
abbrev oZ:Ob ev:=⟨.z,trivial⟩
abbrev oQ (l:List Tree):Ob ev:=⟨.pp (((flat l).map TV.t).length=((flat l).map TV.t).length),rfl⟩
abbrev oP {p:Prop}(h:p):Ob ev:=⟨.pp p,h⟩
abbrev oO {x:Option TV}{v:TV}(h:x=some v):Ob ev:=⟨.po x v,h⟩
abbrev oK {x y:List TV}(h:x=y):Ob ev:=⟨.pc x y,h⟩
abbrev oM {x:Option (List (TV×TV×Nat)×Nat)}{y:List (TV×TV×Nat)}{c:Nat}(h:x=some (y,c)):Ob ev:=⟨.pm x y c,h⟩
abbrev oX (ag:Bool)(sz:Nat)(fs:List Tree)(len:Nat)(hl:len=fs.length)(h:eP ag sz fs):Ob ev:=⟨.w ag sz fs len ((flat fs).map .t),rfl,hl,h⟩
abbrev oH {l:List Tree}{i:Nat}{x:Tree}(h:l[i]?=some x):Ob ev:=⟨.l (i+1) l.length,(List.getElem?_eq_some_iff.1 h).1⟩
abbrev HN (a b:Nat)(h:a+b<9223372036854775808):Ob ev:=⟨.v (.t (.int .i64 (IntKind.i64.wrap ((a:Int)+(b:Int))))) (.t (.int .i64 ((a+b:Nat):Int))),by
 show TV.t _=TV.t _;rw[wrap64 (by omega) (by omega)];rfl⟩
abbrev oJ {x:Option (TV×List (TV×TV×Nat)×Nat)}{v:TV}{y:List (TV×TV×Nat)}{c:Nat}(h:x=some (v,y,c)):Ob ev:=⟨.pe x v y c,h⟩
abbrev oR (a b:Nat)(h:a<=b):Ob ev:=⟨.l a b,h⟩
theorem zl {sz:Nat}{es:List Tree}{i j m:Nat}{e:Tree}(hu:∀e∈es,e.cells.length=sz)(he:es[i]?=some e)(hj:j+m<=sz):i*sz+j+m<=((flat es).map TV.t).length:=by
 have hi:i<es.length:=(List.getElem?_eq_some_iff.1 he).1;rw[List.length_map,fA hu];have:(i+1) *sz<=es.length*sz:=Nat.mul_le_mul_right _ hi;rw[Nat.succ_mul] at this;omega
theorem Vb {ag:Bool}{sz:Nat}{es:List Tree}(h:eP ag sz es):kR sz es=true:=by
 cases es with
 |nil=>rfl
 |cons e r=>simp only[kR,(h e List.mem_cons_self).1,BEq.rfl]
abbrev oS (n:Nat)(h:1<=n)(h2:n<9223372036854775807):Ob ev:=⟨.v (.t (.int .i64 (IntKind.i64.wrap ((n:Int) - 1)))) (.t (.int .i64 ((n - 1:Nat):Int))),by
 show TV.t _=TV.t _;rw[wrap64 (by omega) (by omega),show((n - 1:Nat):Int)=(n:Int) - 1 by omega]⟩
abbrev oG (k:IntKind)(a b:Int):Ob ev:=⟨.v (.t (.int k (if b>a then b else a))) (.t (.int k (max a b))),by
 show TV.t _=TV.t _;rw[show(if b>a then b else a)=max a b from by rw[Int.max_def];split<;>split<;>omega]⟩
abbrev oL (k:IntKind)(a b:Int):Ob ev:=⟨.v (.t (.int k (if b<a then b else a))) (.t (.int k (min a b))),by
 show TV.t _=TV.t _;rw[show(if b<a then b else a)=min a b from by rw[Int.min_def];split<;>split<;>omega]⟩
abbrev oI (n:Nat)(h:n<9223372036854775807):Ob ev:=⟨.v (.t (.int .i64 (IntKind.i64.wrap ((n:Int)+1)))) (.t (.int .i64 ((n+1:Nat):Int))),by
 show TV.t _=TV.t _;rw[wrap64 (by omega) (by omega)];rfl⟩
end obs
def Vc (S:List Nm)(slots:List TV):List Nat->Option (List (Nat×TV))
 | []=>some []
 | i::r=>match slots[i]?,Vc S slots r with
  |some v,some l=>(match v.rn (PJ S) with
   |some v=>some ((i,v)::l)
   |none=>none)
  |_,_=>none
def Vd (S:List Nm)(H:Heap):List Nm->M Heap
 | []=>dP []
 |k::r=>match H.get k,PJ S k with
  |some o,some k'=>bq (rnO (PJ S) o) λo=>bq (Vd S H r) λh=>dP ((k',o)::h)
  |_,_=>iY
def Gs (n:Nat)(S ks:List Nm)(live:List Nat)(T:Nat)(s:St):M St:=
 match Nat.beq s.slots.length n&&S.all Nm.jf&&decide S.Nodup&&S.all (λk=>(s.H.get k).isSome)&&Nat.ble S.length T,Vc S s.slots live with
 |true,some sp=>bq (Vd S s.H ks) λH=>dP ⟨eC n sp,H,T⟩
 |_,_=>iY
section norm
variable {ev:bt}{C:ey}
theorem Qr {S:List Nm}{slots:List TV}:∀{live:List Nat} {sp:List (Nat×TV)},Vc S slots live=some sp->∀i,look sp i=.any\/∃v,slots[i]?=some v/\v.rn (PJ S)=some (look sp i)
 | [],sp,h,i=>by cases h;exact .inl rfl
 | j ::r,sp,h,i=>by
   simp only[Vc] at h
   split at h
   · rename_i v l h1 h2
     split at h
     · rename_i v' h3
       cases h
       rw[qv]
       by_cases e:i=j
       · subst e;rw[if_pos rfl];exact .inr ⟨v,h1,h3⟩
       · rw[if_neg e];exact Qr h2 i
     · cases h
   · cases h
theorem Qs {S:List Nm}{H:Heap}:∀{ks:List Nm},MP ev (Vd S H ks) λH'=>IZ (PJ S) H H'
 | []=>MP.ret trivial
 | k ::r=>by
   simp only[Vd]
   split
   · rename_i o k' h1 h2
     exact MP.bind Tm λo' ho=>MP.bind (Qs (ks:=r)) λh hh=>MP.ret ⟨⟨k,o,h1,h2,.inl ho⟩,hh⟩
   · exact MP.no
theorem Ve {σ:Nm->Option Nm}:∀{xs ys:List TV},xs.length=ys.length->(∀(i:Nat) (y:TV),ys[i]?=some y->y=TV.any\/∃x:TV,xs[i]?=some x/\x.rn σ=some y)->uC σ xs ys
 | [],[],_,_=>trivial
 | x ::xs,y::ys,hl,h=>by
   refine⟨?_,Ve (by simpa using hl) λi y hy=> ?_⟩
   · rcases h 0 y rfl with e|⟨x',e1,e2⟩
     · exact .inl e
     · cases e1;exact .inr e2
   · rcases h (i+1) y (by simpa using hy) with e|⟨x',e1,e2⟩
     · exact .inl e
     · exact .inr ⟨x',by simpa using e1,e2⟩
 | [],_::_,hl,_=>by simp at hl
 |_::_,[],hl,_=>by simp at hl
theorem wB {n:Nat}{S ks:List Nm}{live:List Nat}{T:Nat}{s:St}:MP ev (Gs n S ks live T s) λs2=>Re C s s2:=by
 unfold Gs;split
 ·rename_i sp hb hs;refine MP.bind Qs λH' h1=>MP.ret ?_
  simp only[Bool.and_eq_true] at hb;obtain⟨⟨⟨⟨b1,b2⟩,b3⟩,b4⟩,b5⟩:=hb;have hn:=Nat.eq_of_beq_eq_true b1;obtain⟨slots,H,t⟩:=s;refine Re.mk S (Ve (by rw[jb];exact hn) λi y hy=> ?_) h1 (of_decide_eq_true b3) b2 (λk hk=>List.all_eq_true.1 b4 k hk) (Nat.le_of_ble_eq_true b5);have hi:i<n:=by have:=(List.getElem?_eq_some_iff.1 hy).1;simpa [jb] using this
  rw[rM hi] at hy;cases hy;exact Qr hs i
 ·exact MP.no
end norm
section rules
variable {ev:bt}{C:ey}{f:FuncId}{R:Type}
theorem AX.frames {c:Code}{st:St}{Q:R->aQ->St->Prop}(h:∃r,KE C (Q r) [.c c] .normal st):AX C c st Q:=h.imp λ_ h=>AW.mono h λ_ _ h=>h
def aiz (H:Heap)(v:TV):M (TV×List Nm):=match NK v with
 |true=>bq (Xf H jh v) λp=>dP (.t p.1,p.2)
 |false=>dP (match su H jh v with
  |some (x,ks)=>(.t x,ks)
  |none=>(v,[]))
theorem aem {H:Heap}{v:TV}:MP ev (aiz H v) λp=>(∃x ks,su H jh v=some (x,ks)/\p=(.t x,ks))\/(su H jh v=none/\p=(v,[])):=by
 unfold aiz;split
 ·exact MP.bind (NM H jh v) λp hp=>MP.ret (.inl ⟨p.1,p.2,hp,rfl⟩)
 ·refine MP.ret ?_;cases h:su H jh v with
  |none=>exact .inr ⟨rfl,rfl⟩
  |some q=>exact .inl ⟨q.1,q.2,rfl,rfl⟩
def HO (C:ey)(fn:Func)(n:Nat)(st:St):M br:=
 match lV C st fn.results.toList with
 |none=>iY
 |some vs=>bq (aiz st.H (Co vs)) λp=>match s8 (st.H.eY (eO st.H p.2)) 0 n with
  |none=>iY
  |some os=>bq (NP os) λl=>bq (zj (st.H.eY (eO st.H p.2)) iH [] (p.1.names++l)) λR=>qz ((ow (st.H.eY (eO st.H p.2)) R).map λh=>.ret p.1 os h)
theorem Mb {fn:Func}{n:Nat}{st:St}:MP ev (HO C fn n st) λr=>finish C fn n st=some r:=by
 unfold HO;split
 ·exact MP.no
 ·rename_i vs hv;refine MP.bind aem λp hp=> ?_
  split
  ·exact MP.no
  ·rename_i os ho;refine MP.bind Jq λl hl=>MP.bind (wA _ _ _) λR hR=>(MP.U6 (dQ.opt _)).mono λr hr=> ?_
   have h1:=hR.1;rw[← hl] at h1;unfold finish;rcases hp with ⟨x,ks,h2,rfl⟩|⟨h2,rfl⟩
   ·simp only at ho h1 hr;simp only[hv,h2,ho,h1];exact hr
   ·simp only at ho h1 hr;simp only[hv,h2,ho,h1];exact hr
def NT (C:ey)(fn:Func)(m:Nat)(p:List Fr×aQ×St):M br:=match p with
 |([],.normal,s)=>HO C fn m s
 |([],.ret,s)=>HO C fn m s
 |([],.panic v,s)=>(match v.names.any Nm.jf with
  |false=>dP (.panic v (uN s.H 0 m))
  |true=>iY)
 |_=>iY
theorem aen {fn:Func}{m:Nat}{p:List Fr×aQ×St}:MP ev (NT C fn m p) λr=>KE C (uD C fn m r) p.1 p.2.1 p.2.2:=by
 unfold NT;split
 ·exact Mb.mono λr h=>.inl h
 ·exact Mb.mono λr h=>.inl h
 ·split
  ·rename_i hv;exact MP.ret ⟨hv,rfl⟩
  ·exact MP.no
 ·exact MP.no
theorem aiA (hm:C.P.prog.follows .mixedOrders=true)(aJ:aC C ev){fn:Func}{once:List Nat}{m n:Nat}{r:br}{K:List Fr}{e:aQ}{s:St}(obs:List (Ob ev))(h:bq (goK C f once 100000 n K e s) (NT C fn m) (vals obs)=some (r,[],vals obs)):KE C (uD C fn m r) K e s:=
 MP.bind (rO hm aJ n K e s) (λp hp=>aen.mono λr hr=>hp _ hr) _ _ _ _ h (nU obs)
theorem alS (hm:C.P.prog.follows .mixedOrders=true)(aJ:aC C ev){fn:Func}{once:List Nat}{m n:Nat}{K:List Fr}{e:aQ}{s:St}{β:Type}(sh:br->Option β)(mk:β->br)(hmk:∀r b,sh r=some b->r=mk b)(obs:List (Ob ev))
 (h1:((bq (goK C f once 100000 n K e s) (NT C fn m) (vals obs)).map λp=>p.2)=some ([],vals obs))(h2:((bq (goK C f once 100000 n K e s) (NT C fn m) (vals obs)).bind λp=>sh p.1).isSome=true):∃b,KE C (uD C fn m (mk b)) K e s:=by
 cases h:bq (goK C f once 100000 n K e s) (NT C fn m) (vals obs) with
 |none=>rw[h] at h1;cases h1
 | some p=>
  obtain⟨r,q⟩:=p
  rw[h] at h1 h2
  simp only[Option.map_some,Option.some.injEq] at h1
  subst h1
  cases hb:sh r with
  |none=>simp[hb] at h2
  |some b=>
   refine⟨b, ?_⟩
   rw[← hmk r b hb]
   exact aiA hm aJ obs h
def Jy (n:Nat)(S ks:List Nm)(live:List Nat)(T:Nat)(p:List Fr×aQ×St):M St:=match p with
 |([],.normal,s)=>Gs n S ks live T s
 |_=>iY
theorem Xl {n T:Nat}{S ks:List Nm}{live:List Nat}{p:List Fr×aQ×St}:MP ev (Jy n S ks live T p) λs2=>KE C (λe s=>e=.normal/\Re C s s2) p.1 p.2.1 p.2.2:=by
 unfold Jy;split
 ·exact wB.mono λs2 h=>⟨rfl,h⟩
 ·exact MP.no
theorem aaf (hm:C.P.prog.follows .mixedOrders=true)(aJ:aC C ev){once:List Nat}{n k T:Nat}{S ks:List Nm}{live:List Nat}{s2:St}{K:List Fr}{e:aQ}{s:St}(obs:List (Ob ev))(h:bq (goK C f once 100000 n K e s) (Jy k S ks live T) (vals obs)=some (s2,[],vals obs)):
 KE C (λe s=>e=.normal/\Re C s s2) K e s:=
 MP.bind (rO hm aJ n K e s) (λp hp=>Xl.mono λr hr=>hp _ hr) _ _ _ _ h (nU obs)
def Gt (p:Code->Bool):Code->List Fr->Option (Code×List Fr)
 |.seq a b,K=>(Gt p a (.c b::K)).or (Gt p b K)
 |.cond _ a b,K=>(Gt p a K).or (Gt p b K)
 |.block id c,K=>Gt p c (.b id::K)
 |.loop c,K=>match p (.loop c) with
  |true=>some (c,K)
  |false=>Gt p c []
 |x,K=>match p x with
  |true=>some (x,K)
  |false=>none
def aeo (r:Nat):Code->Bool
 |.loop c=>match xI c with
  |some i=>Nat.beq i r
  |none=>false
 |_=>false
def alT (r:Nat):Code->Bool
 |.region id _ _=>Nat.beq id r
 |_=>false
def j4 (B:Code)(r:Nat):Code×List Fr:=(Gt (aeo r) B []).getD (.skip,[])
def alU (B:Code)(r:Nat):Code×List Fr:=(Gt (alT r) B []).getD (.skip,[])
def Vf (n:Nat)(S ks:List Nm)(live:List Nat)(T:Nat)(p:List Fr×aQ×St):M ((Code×List Fr)×St):=match p with
 |(.c (.loop b)::K,.normal,s)=>bq (Gs n S ks live T s) λs=>dP ((b,K),s)
 |_=>iY
theorem aag {n T:Nat}{S ks:List Nm}{live:List Nat}{p:List Fr×aQ×St}:MP ev (Vf n S ks live T p) λq=>∃s,p=(.c (.loop q.1.1)::q.1.2,.normal,s)/\Re C s q.2:=by
 unfold Vf;split
 ·exact MP.bind wB λs2 h=>MP.ret ⟨_,rfl,h⟩
 ·exact MP.no
theorem alV (hm:C.P.prog.follows .mixedOrders=true)(aJ:aC C ev){α:Type}(st:α->St)(ok:α->Prop)(μ:α->Nat)(x0:α){once:List Nat}{n k T:Nat}{S ks:List Nm}{live:List Nat}{K:List Fr}{e:aQ}{s:St}{Q:R->aQ->St->Prop}(L:Code×List Fr)(obs:List (Ob ev))
 (h:bq (goK C f once 100000 n K e s) (Vf k S ks live T) (vals obs)=some ((L,st x0),[],vals obs))(h0:ok x0)
 (hs:∀x,ok x->∃o,KE C (xF C st (λy=>ok y/\μ y<μ x) (λr=>KE C (Q r) L.2) o) [.c L.1] .normal (st x)):∃r,KE C (Q r) K e s:=by
 have key:∃p:List Fr×aQ×St,(∀Q,KE C Q p.1 p.2.1 p.2.2->KE C Q K e s)/\∃s,p=(.c (.loop L.1)::L.2,.normal,s)/\Re C s (st x0):=
  MP.bind (rO hm aJ n K e s) (λp hp=>aag.mono λq hq=>show ∃p:List Fr×aQ×St,(∀Q,KE C Q p.1 p.2.1 p.2.2->KE C Q K e s)/\∃s,p=(.c (.loop q.1.1)::q.1.2,.normal,s)/\Re C s q.2 from⟨p,hp,hq⟩) _ _ _ _ h (nU obs)
 obtain⟨p,hp,s',rfl,Lf⟩:=key
 obtain⟨r,hr⟩:=AX.loop (C:=C) (Q:=λr=>KE C (Q r) L.2) st ok μ x0 Lf h0 λx hx=>AX.frames (hs x hx)
 exact⟨r,hp _ hr⟩
abbrev GoR:=Option ((List Fr×aQ×St)×List Cl×List Cl)
def exOf (r:GoR):aQ:=match r with
 |some ((_,e,_),_,_)=>e
 |none=>.normal
def stOf (r:GoR):St:=match r with
 |some ((_,_,s),_,_)=>s
 |none=>⟨[],[],0⟩
def Qt (r:GoR):Option (List Cl×List Cl):=match r with
 |some (([],.exit _,_),c,e)=>some (c,e)
 |some (([],.ret,_),c,e)=>some (c,e)
 |some (([],.panic _,_),c,e)=>some (c,e)
 |_=>none
theorem alW (hm:C.P.prog.follows .mixedOrders=true)(aJ:aC C ev){α:Type}{st:α->St}{P:α->Prop}{Q:R->aQ->St->Prop}{once:List Nat}{n:Nat}{K:List Fr}{e:aQ}{s:St}(obs:List (Ob ev))(h:Qt (goK C f once 100000 n K e s (vals obs))=some ([],vals obs))
 (k:∃r,Q r (exOf (goK C f once 100000 n K e s (vals obs))) (stOf (goK C f once 100000 n K e s (vals obs)))):∃o,KE C (xF C st P Q o) K e s:=by
 have hv:=nU obs
 obtain⟨r,hr⟩:=k
 refine⟨.inr r, ?_⟩
 cases hg:goK C f once 100000 n K e s (vals obs) with
 |none=>rw[hg] at h;cases h
 | some q=>
  obtain⟨⟨K',e',s'⟩,c,em⟩:=q
  rw[hg] at h hr
  cases K' with
  |cons=>cases h
  |nil=>
   cases e' with
   |normal=>cases h
   |exit i=>cases h;exact rO hm aJ _ _ _ _ _ _ _ _ hg hv _ hr
   |ret=>cases h;exact rO hm aJ _ _ _ _ _ _ _ _ hg hv _ hr
   |panic v=>cases h;exact rO hm aJ _ _ _ _ _ _ _ _ hg hv _ hr
def atO (n:Nat)(S ks:List Nm)(live:List Nat)(T:Nat)(p:List Fr×aQ×St):M ((Code×List Fr)×St):=match p with
 |(.c x::K,.normal,s)=>bq (Gs n S ks live T s) λs=>dP ((x,K),s)
 |_=>iY
theorem aiB {n T:Nat}{S ks:List Nm}{live:List Nat}{p:List Fr×aQ×St}:MP ev (atO n S ks live T p) λq=>∃s,p=(.c q.1.1::q.1.2,.normal,s)/\Re C s q.2:=by
 unfold atO;split
 ·exact MP.bind wB λs2 h=>MP.ret ⟨_,rfl,h⟩
 ·exact MP.no
theorem kAt (hm:C.P.prog.follows .mixedOrders=true)(aJ:aC C ev)(B:Code)(stop:Nat){once:List Nat}{n k T:Nat}{S ks:List Nm}{live:List Nat}{K:List Fr}{e:aQ}{s:St}{Q:R->aQ->St->Prop}{x:Code}{K':List Fr}(hL:alU B stop=(x,K'))(s2:St)(obs:List (Ob ev))
 (h:bq (goK C f once stop n K e s) (atO k S ks live T) (vals obs)=some ((alU B stop,s2),[],vals obs))(k:AX C x s2 λr=>KE C (Q r) K'):∃r,KE C (Q r) K e s:=by
 rw[hL] at h
 have key:∃p:List Fr×aQ×St,(∀Q,KE C Q p.1 p.2.1 p.2.2->KE C Q K e s)/\∃s,p=(.c x::K',.normal,s)/\Re C s s2:=
  MP.bind (rO hm aJ n K e s) (λp hp=>aiB.mono λq hq=>show ∃p:List Fr×aQ×St,(∀Q,KE C Q p.1 p.2.1 p.2.2->KE C Q K e s)/\∃s,p=(.c q.1.1::q.1.2,.normal,s)/\Re C s q.2 from⟨p,hp,hq⟩) _ _ _ _ h (nU obs)
 obtain⟨p,hp,s',rfl,Lf⟩:=key
 obtain⟨r,hr⟩:=k
 exact⟨r,hp _ (AW.re Lf hr)⟩
def aep (n:Nat)(S ks:List Nm)(live:List Nat)(T:Nat)(p:List Fr×aQ×St):M (aQ×St):=match p with
 |([],.normal,s)=>bq (Gs n S ks live T s) λs=>dP (.normal,s)
 |([],.ret,s)=>bq (Gs n S ks live T s) λs=>dP (.ret,s)
 |_=>iY
theorem aeq {n T:Nat}{S ks:List Nm}{live:List Nat}{p:List Fr×aQ×St}:MP ev (aep n S ks live T p) λq=>(q.1=.normal\/q.1=.ret)/\∃s,p=([],q.1,s)/\Re C s q.2:=by
 unfold aep;split
 ·exact MP.bind wB λs2 h=>MP.ret ⟨.inl rfl,_,rfl,h⟩
 ·exact MP.bind wB λs2 h=>MP.ret ⟨.inr rfl,_,rfl,h⟩
 ·exact MP.no
def Sk (C:ey)(Q:aQ->St->Prop):aQ->St->Prop:=λe s=>Q e s\/((e=.normal\/e=.ret\/∃i,e=.exit i)/\∃s2,Re C s s2/\Q e s2)
theorem Vg {Q:aQ->St->Prop}{G0:Gh}{w0 w':World}{a a':Act}{ex:Exit}(h0:∀p,¬G0.dom (.loc p)):(∃e st',Sk C Q e st'/\Good C G0 w0 a e st' ex a' w')->∃e st',Q e st'/\Good C G0 w0 a e st' ex a' w':=by
 rintro ⟨e,st',hq,hg⟩;rcases hq with hq|⟨he,s2,Lf,hq⟩
 ·exact⟨e,st',hq,hg⟩
 ·rcases he with rfl|rfl|⟨i,rfl⟩
  ·obtain⟨G1,hs1,hd,e1,ji⟩:=hg;obtain⟨G2,hs2,qq⟩:=Lf G0 w0 G1 w' a' h0 hs1 ji;exact⟨.normal,s2,hq,G2,hs2,hd,e1,qq⟩
  ·obtain⟨G1,hs1,hd,e1,ji⟩:=hg;obtain⟨G2,hs2,qq⟩:=Lf G0 w0 G1 w' a' h0 hs1 ji;exact⟨.ret,s2,hq,G2,hs2,hd,e1,qq⟩
  ·obtain⟨G1,hs1,hd,e1,ji⟩:=hg;obtain⟨G2,hs2,qq⟩:=Lf G0 w0 G1 w' a' h0 hs1 ji;exact⟨.exit i,s2,hq,G2,hs2,hd,e1,qq⟩
theorem AW.q6 {c:Code}{st:St}{Q:aQ->St->Prop}(h:AW C c st (Sk C Q)):AW C c st Q:=λG0 w0 G w a h0 hs hst=>wp_mono (h G0 w0 G w a h0 hs hst) λex a' w' hp=>Vg h0 hp
theorem O6.q6 {b:Code}{n:Nat}{st:St}{Q:aQ->St->Prop}(h:O6 C b n st (Sk C Q)):O6 C b n st Q:=λG0 w0 G w a a1 h0 hs hd hst=>zk (λ_ _ _ hp=>Vg h0 hp) n (h G0 w0 G w a a1 h0 hs hd hst)
theorem KE.C0 {Q:aQ->St->Prop}:∀{K:List Fr} {e:aQ} {s:St},KE C (Sk C Q) K e s->Sk C (KE C Q K) e s
 | [],_,_,h=>h
 |.c x::K,.normal,s,h=>.inl (AW.q6 (AW.mono h λ_ _ h=>KE.C0 h))
 |.c _::K,.exit i,s,h=>KE.C0 (K:=K) h
 |.c _::K,.ret,s,h=>KE.C0 (K:=K) h
 |.c _::K,.panic v,s,h=>KE.C0 (K:=K) h
 | .b id::K,.exit i,s,h=>by
   by_cases e:i=id
   · have h:KE C (Sk C Q) K .normal s:=by
       have h:(if i=id then KE C (Sk C Q) K .normal s else KE C (Sk C Q) K (.exit i) s):=h
       rwa [if_pos e] at h
     rcases KE.C0 h with h|⟨_,s2,Lf,h⟩
     · exact .inl (show(if i=id then KE C Q K .normal s else KE C Q K (.exit i) s) by rwa [if_pos e])
     · exact .inr ⟨.inr (.inr ⟨i,rfl⟩),s2,Lf,show(if i=id then KE C Q K .normal s2 else KE C Q K (.exit i) s2) by rwa [if_pos e]⟩
   · have h:KE C (Sk C Q) K (.exit i) s:=by
       have h:(if i=id then KE C (Sk C Q) K .normal s else KE C (Sk C Q) K (.exit i) s):=h
       rwa [if_neg e] at h
     rcases KE.C0 h with h|⟨_,s2,Lf,h⟩
     · exact .inl (show(if i=id then KE C Q K .normal s else KE C Q K (.exit i) s) by rwa [if_neg e])
     · exact .inr ⟨.inr (.inr ⟨i,rfl⟩),s2,Lf,show(if i=id then KE C Q K .normal s2 else KE C Q K (.exit i) s2) by rwa [if_neg e]⟩
 |.b _::K,.normal,s,h=>KE.C0 (K:=K) h
 |.b _::K,.ret,s,h=>KE.C0 (K:=K) h
 |.b _::K,.panic v,s,h=>KE.C0 (K:=K) h
 |.x _ _::K,.normal,s,h=>.inl (O6.q6 (O6.mono h λ_ _ h=>KE.C0 (K:=K) h))
 |.x _ _::K,.exit i,s,h=>KE.C0 (K:=K) h
 |.x _ _::K,.ret,s,h=>KE.C0 (K:=K) h
 |.x _ _::K,.panic v,s,h=>KE.C0 (K:=K) h
def C1:List Fr->aQ->Bool
 | [],_=>false
 |.c _::_,.normal=>true
 |.c _::K,e=>C1 K e
 |.b id::K,.exit i=>if i=id then C1 K .normal else C1 K (.exit i)
 |.b _::K,e=>C1 K e
 |.x _ _::_,.normal=>false
 |.x _ _::K,e=>C1 K e
theorem KE.q6 {Q:aQ->St->Prop}:∀{K:List Fr} {e:aQ} {s:St},C1 K e=true->KE C (Sk C Q) K e s->KE C Q K e s
 | [],_,_,hd,_=>by cases hd
 |.c x::K,.normal,s,_,h=>AW.q6 (AW.mono h λ_ _ h=>KE.C0 h)
 |.c _::K,.exit i,s,hd,h=>KE.q6 (K:=K) hd h
 |.c _::K,.ret,s,hd,h=>KE.q6 (K:=K) hd h
 |.c _::K,.panic v,s,hd,h=>KE.q6 (K:=K) hd h
 |.b id::K,.exit i,s,hd,h=>by
  have h:(if i=id then KE C (Sk C Q) K .normal s else KE C (Sk C Q) K (.exit i) s):=h
  have hd:(if i=id then C1 K .normal else C1 K (.exit i))=true:=hd
  show(if i=id then KE C Q K .normal s else KE C Q K (.exit i) s)
  by_cases e:i=id
  · rw[if_pos e] at h hd ⊢;exact KE.q6 hd h
  · rw[if_neg e] at h hd ⊢;exact KE.q6 hd h
 |.b _::K,.normal,s,hd,h=>KE.q6 (K:=K) hd h
 |.b _::K,.ret,s,hd,h=>KE.q6 (K:=K) hd h
 |.b _::K,.panic v,s,hd,h=>KE.q6 (K:=K) hd h
 |.x _ _::_,.normal,_,hd,_=>by cases hd
 |.x _ _::K,.exit i,s,hd,h=>KE.q6 (K:=K) hd h
 |.x _ _::K,.ret,s,hd,h=>KE.q6 (K:=K) hd h
 |.x _ _::K,.panic v,s,hd,h=>KE.q6 (K:=K) hd h
theorem aiC (hm:C.P.prog.follows .mixedOrders=true)(aJ:aC C ev){once:List Nat}{n k T:Nat}{S ks:List Nm}{live:List Nat}{K:List Fr}{e:aQ}{s:St}{Q:R->aQ->St->Prop}(e2:aQ)(s2:St)(obs:List (Ob ev))(hd:C1 K e=true)
 (h:bq (goK C f once 100000 n K e s) (aep k S ks live T) (vals obs)=some ((e2,s2),[],vals obs))(k:∃r,Q r e2 s2):∃r,KE C (Q r) K e s:=by
 have key:∀Q,Q e2 s2->KE C (Sk C Q) K e s:=
  MP.bind (rO hm aJ n K e s) (λp hp=>aeq.mono λq hq=>show ∀Q:aQ->St->Prop,Q q.1 q.2->KE C (Sk C Q) K e s fromλQ hk=>hp _ (by
   obtain⟨he,s',e1,Lf⟩:=hq;rw[e1];exact .inr ⟨he.elim .inl λh=>.inr (.inl h),q.2,Lf,hk⟩)) _ _ _ _ h (nU obs)
 exact k.imp λr hr=>KE.q6 hd (key _ hr)
theorem aL (b:Bool):b=true\/b=false:=by cases b<;>simp
theorem kF (hm:C.P.prog.follows .mixedOrders=true)(aJ:aC C ev){fn:Func}{m:Nat}{r:br}{K:List Fr}{e:aQ}{s:St}(obs:List (Ob ev))(h:bq (goK C 0 [] 100000 3000 K e s) (NT C fn m) (vals obs)=some (r,[],vals obs)):KE C (uD C fn m r) K e s:=aiA hm aJ obs h
theorem kO (hm:C.P.prog.follows .mixedOrders=true)(aJ:aC C ev){α:Type}{st:α->St}{P:α->Prop}{Q:R->aQ->St->Prop}{K:List Fr}{e:aQ}{s:St}(obs:List (Ob ev))(h:Qt (goK C 0 [] 100000 3000 K e s (vals obs))=some ([],vals obs))
 (k:∃r,Q r (exOf (goK C 0 [] 100000 3000 K e s (vals obs))) (stOf (goK C 0 [] 100000 3000 K e s (vals obs)))):∃o,KE C (xF C st P Q o) K e s:=alW hm aJ obs h k
theorem elt (l:List Tree)(i:Nat)(h:i<l.length):∃e,l[i]?=some e:=⟨_,List.getElem?_eq_getElem h⟩
def Jz:Code->List Fr->List Fr
 |.seq a b,K=>Jz a (.c b::K)
 |.block id c,K=>Jz c (.b id::K)
 |x,K=>.c x::K
theorem BI:∀(a:Code) (K:List Fr),∃x F,Jz a K=.c x::F
 |.seq a b,K=>BI a (.c b::K)
 |.block id c,K=>BI c (.b id::K)
 |.region _ _ _,_=>⟨_,_,rfl⟩
 |.cond _ _ _,_=>⟨_,_,rfl⟩
 |.loop _,_=>⟨_,_,rfl⟩
 |.rangeFunc _ _ _ _,_=>⟨_,_,rfl⟩
 |.exit _,_=>⟨_,_,rfl⟩
 |.scope _,_=>⟨_,_,rfl⟩
 |.label _,_=>⟨_,_,rfl⟩
 |.goto _,_=>⟨_,_,rfl⟩
 |.ret,_=>⟨_,_,rfl⟩
 |.refuse _,_=>⟨_,_,rfl⟩
 |.skip,_=>⟨_,_,rfl⟩
def JA (r:Nat):Code->List Fr->Option ((Code×Code)×List Fr)
 |.seq a b,K=>match isIn [r] (xI b) with
  |true=>some ((a,b),K)
  |false=>(JA r a (.c b::K)).or (JA r b K)
 |.cond _ a b,K=>(JA r a K).or (JA r b K)
 |.block id c,K=>JA r c (.b id::K)
 |.loop c,_=>JA r c []
 |_,_=>none
def aer (B:Code)(r:Nat):(Code×Code)×List Fr:=(JA r B []).getD ((.skip,.skip),[])
theorem KE.uC {Q Q':aQ->St->Prop}{G:List Fr}(hq:∀e s,Q e s->KE C Q' G e s):∀{F:List Fr} {e:aQ} {s:St},KE C Q F e s->KE C Q' (F++G) e s
 | [],e,s,h=>hq e s h
 |.c x::F,.normal,s,h=>AW.mono (show AW C x s (KE C Q F) from h) λ_ _ h=>KE.uC hq h
 |.c _::F,.exit i,s,h=>KE.uC hq (F:=F) h
 |.c _::F,.ret,s,h=>KE.uC hq (F:=F) h
 |.c _::F,.panic v,s,h=>KE.uC hq (F:=F) h
 |.b id::F,.exit i,s,h=>by
  have h:(if i=id then KE C Q F .normal s else KE C Q F (.exit i) s):=h
  show(if i=id then KE C Q' (F++G) .normal s else KE C Q' (F++G) (.exit i) s)
  by_cases e:i=id
  · rw[if_pos e] at h ⊢;exact KE.uC hq h
  · rw[if_neg e] at h ⊢;exact KE.uC hq h
 |.b _::F,.normal,s,h=>KE.uC hq (F:=F) h
 |.b _::F,.ret,s,h=>KE.uC hq (F:=F) h
 |.b _::F,.panic v,s,h=>KE.uC hq (F:=F) h
 |.x _ _::F,.normal,s,h=>O6.mono h λ_ _ h=>KE.uC hq (F:=F) h
 |.x _ _::F,.exit i,s,h=>KE.uC hq (F:=F) h
 |.x _ _::F,.ret,s,h=>KE.uC hq (F:=F) h
 |.x _ _::F,.panic v,s,h=>KE.uC hq (F:=F) h
def aah (n:Nat)(S ks:List Nm)(live:List Nat)(T:Nat)(p:List Fr×aQ×St):M (List Fr×St):=match p with
 |(K,.normal,s)=>bq (Gs n S ks live T s) λs=>dP (K,s)
 |_=>iY
theorem aai {n T:Nat}{S ks:List Nm}{live:List Nat}{p:List Fr×aQ×St}:MP ev (aah n S ks live T p) λq=>∃s,p=(q.1,.normal,s)/\Re C s q.2:=by
 unfold aah;split
 ·exact MP.bind wB λs2 h=>MP.ret ⟨_,rfl,h⟩
 ·exact MP.no
theorem Vh (hm:C.P.prog.follows .mixedOrders=true)(aJ:aC C ev){α:Type}(st:α->St)(ok:α->Prop)(stop:Nat){once:List Nat}{n k T:Nat}{S ks:List Nm}{live:List Nat}{K:List Fr}{e:aQ}{s:St}{Q:R->aQ->St->Prop}(L:(Code×Code)×List Fr)(s0:St)(obs:List (Ob ev))
 (h:bq (goK C f once stop n K e s) (aah k S ks live T) (vals obs)=some ((Jz L.1.1 []++ .c L.1.2::L.2,s0),[],vals obs))
 (h1:∃o,KE C (xF C st ok (λr=>KE C (Q r) (.c L.1.2::L.2)) o) (Jz L.1.1 []) .normal s0)
 (h2:∀x,ok x->∃r,KE C (Q r) (.c L.1.2::L.2) .normal (st x)):∃r,KE C (Q r) K e s:=by
 have key:∃p:List Fr×aQ×St,(∀Q,KE C Q p.1 p.2.1 p.2.2->KE C Q K e s)/\∃s,p=(Jz L.1.1 []++ .c L.1.2::L.2,.normal,s)/\Re C s s0:=
  MP.bind (rO hm aJ n K e s) (λp hp=>aai.mono λq hq=>show ∃p:List Fr×aQ×St,(∀Q,KE C Q p.1 p.2.1 p.2.2->KE C Q K e s)/\∃s,p=(q.1,.normal,s)/\Re C s q.2 from⟨p,hp,hq⟩) _ _ _ _ h (nU obs)
 obtain⟨p,hp,s',rfl,Lf⟩:=key
 have fin:∃r,KE C (Q r) (Jz L.1.1 []++ .c L.1.2::L.2) .normal s0:=by
  obtain⟨o,ho⟩:=h1;cases o with
  |inl y=>
   obtain⟨r,hr⟩:=h2 y.1 y.2
   refine⟨r,KE.uC (λe s hq=> ?_) ho⟩
   obtain⟨rfl,Lf⟩:=hq
   exact AW.re Lf hr
  |inr r=>
   refine⟨r,KE.uC (λe s hq=> ?_) ho⟩
   cases e with
   |normal=>exact False.elim hq
   |exit i=>exact hq
   |ret=>exact hq
   |panic v=>exact hq
 obtain⟨r,hr⟩:=fin
 refine⟨r,hp _ ?_⟩
 obtain⟨x,F,hF⟩:=BI L.1.1 []
 rw[hF] at hr ⊢
 exact AW.re Lf hr
end rules
attribute [irreducible] goK KE stOf exOf
end Go.Abs
noncomputable section
namespace Go.Abs
open Go
def KM (K:Tree->Prop)(es:List (TV×TV×Nat)):Prop:=∀e∈es,∃(x:Tree) (n:Int) (b:Nat),K x/\e=(.t x,.t (.int .i64 n),b)
theorem KM.nil {K:Tree->Prop}:KM K []:=λ_ h=>by cases h
structure KEq (P:jY)(kt:TypeId)(d:TypeDesc)(K:Tree->Prop):Prop where
 same:∀x,K x->O9 P kt d (.t x) (.t x)=some true/\∃u,lX (.t x)=some u/\Instr.sameBits 10000 u u=true
 other:∀x y,K x->K y->x≠y->O9 P kt d (.t x) (.t y)=some false
 ok:∀x b,K x->yM P b kt (.t x)=true
open Classical in
def jo:List (TV×TV×Nat)->Tree->Nat->Option (Nat×TV×Nat)
 | [],_,_=>none
 |(k,v,b)::r,x,i=>if k=.t x then some (i,v,b) else jo r x (i+1)
theorem NU {P:jY}{kt:TypeId}{d:TypeDesc}{K:Tree->Prop}(h:KEq P kt d K){x:Tree}(hx:K x):∀{es:List (TV×TV×Nat)},KM K es->∀i,oq P kt d (.t x) es i=some (jo es x i)
 | [],_,i=>rfl
 | e ::es,hs,i=>by
   obtain⟨y,n,b,hy,rfl⟩:=hs e List.mem_cons_self
   unfold oq jo
   by_cases hxy:x=y
   · subst hxy
     obtain⟨h1,u,h2,h3⟩:=h.same x hx
     simp only[h1,h2,h3,if_true]
   · rw[h.other x y hx hy hxy]
     have:¬(TV.t y=TV.t x):=λe=>hxy (TV.t.inj e).symm
     rw[if_neg this]
     exact NU h hx (λe he=>hs e (List.mem_cons_of_mem _ he)) (i+1)
theorem Aw {K:Tree->Prop}{x:Tree}:∀{es:List (TV×TV×Nat)},KM K es->∀i j v b,jo es x i=some (j,v,b)->i<=j/\es[j - i]?=some (.t x,v,b)/\∃n:Int,v=.t (.int .i64 n)
 | [],_,_,_,_,_,h=>by cases h
 | e ::es,hs,i,j,v,b,h=>by
   obtain⟨y,n,b',hy,rfl⟩:=hs e List.mem_cons_self
   unfold jo at h
   split at h
   · rename_i e1
     cases h
     rw[Nat.sub_self]
     exact⟨Nat.le_refl _,by rw[e1];rfl,n,rfl⟩
   · obtain⟨h1,h2,h3⟩:=Aw (λe he=>hs e (List.mem_cons_of_mem _ he)) (i+1) j v b h
     refine⟨by omega, ?_,h3⟩
     rw[show j - i=(j - (i+1))+1 by omega]
     exact h2
def kX (es:List (TV×TV×Nat))(x:Tree):Int:=match jo es x 0 with
 |some (_,.t (.int _ n),_)=>n
 |_=>0
def nI (es:List (TV×TV×Nat))(c:Nat)(x:Tree)(n:Int):List (TV×TV×Nat):=match jo es x 0 with
 |some (i,_,b)=>es.set i (.t x,.t (.int .i64 n),b)
 |none=>es++[(.t x,.t (.int .i64 n),c)]
def uz (es:List (TV×TV×Nat))(c:Nat)(x:Tree):Nat:=match jo es x 0 with
 |some _=>c
 |none=>c+1
section
variable {P:jY}{ty kt et:TypeId}{ti tk te:TI}{K:Tree->Prop}{x:Tree}{es:List (TV×TV×Nat)}
theorem wC (ht:P.ty ty=some ti)(hd:ti.desc=.map kt et)(hk:P.ty kt=some tk)(he:P.ty et=some te)(hez:te.zero=some (.t (.int .i64 0)))(hK:KEq P kt tk.desc K)(hS:KM K es)(hx:K x):
 A5 P ty es (.t x) false=some (.t (.int .i64 (kX es x))):=by
 have h:=NU hK hx hS 0
 have h2:=Aw hS 0 (x:=x)
 unfold kX
 cases hf:jo es x 0 with
 |none=>
  rw[hf] at h
  simp only[A5,bx,ht,hd,hk,he,hK.ok x _ hx,if_true,h,hez,Bool.false_eq_true,if_false]
 |some p=>
  obtain⟨j,v,b⟩:=p
  rw[hf] at h
  obtain⟨_,_,n,rfl⟩:=h2 j v b hf
  simp only[A5,bx,ht,hd,hk,he,hK.ok x _ hx,if_true,h,hez,Bool.false_eq_true,if_false]
end
theorem iU {K:Tree->Prop}{es:List (TV×TV×Nat)}(h:KM K es){x:Tree}(hx:K x)(c:Nat)(n:Int):KM K (nI es c x n):=by
 unfold nI;split
 ·rename_i i v b hf;intro e he;rcases List.mem_or_eq_of_mem_set he with he|he
  ·exact h e he
  ·exact⟨x,n,b,hx,he⟩
 ·intro e he;rcases List.mem_append.1 he with he|he
  ·exact h e he
  ·simp only[List.mem_singleton] at he;exact⟨x,n,c,hx,he⟩
open Classical in
theorem E7 {y x:Tree}{v:TV}{c:Nat}:∀{es:List (TV×TV×Nat)} (i:Nat),jo (es++[(.t x,v,c)]) y i=match jo es y i with
    |some p=>some p
    |none=>if x=y then some (i+es.length,v,c) else none
  | [],i=>by
    simp only[List.nil_append,jo,List.length_nil,Nat.add_zero]
    by_cases h:x=y
    · rw[if_pos h,if_pos (by rw[h])]
    · rw[if_neg h,if_neg (λe=>h (TV.t.inj e))]
  | e ::es,i=>by
    obtain⟨k,w,b⟩:=e
    simp only[List.cons_append,jo]
    split
    · rfl
    · rw[E7 (i+1)]
      simp only[List.length_cons]
      rw[show i+1+es.length=i+(es.length+1) by omega]
theorem yh {y x:Tree}(hxy:x≠y){v:TV}{b:Nat}:∀{es:List (TV×TV×Nat)} (i j:Nat) (w:TV) (b':Nat),es[j]?=some (.t x,w,b')->jo (es.set j (.t x,v,b)) y i=jo es y i
 | [],_,_,_,_,h=>by simp at h
 |e::es,i,0,w,b',h=>by
  simp only[List.getElem?_cons_zero,Option.some.injEq] at h
  subst h
  have hne:¬(TV.t x=TV.t y):=λe=>hxy (TV.t.inj e)
  simp only[List.set_cons_zero,jo,if_neg hne]
 |e::es,i,j+1,w,b',h=>by
  obtain⟨k,w0,b0⟩:=e
  simp only[List.set_cons_succ,jo]
  rw[yh hxy (i+1) j w b' (by simpa using h)]
theorem zm {x:Tree}{v:TV}{b:Nat}:∀{es:List (TV×TV×Nat)} (i j:Nat) (w:TV) (b':Nat),jo es x i=some (i+j,w,b')->jo (es.set j (.t x,v,b)) x i=some (i+j,v,b)
 | [],_,_,_,_,h=>by cases h
 | e ::es,i,j,w,b',h=>by
   obtain⟨k,w0,b0⟩:=e
   unfold jo at h
   split at h
   · rename_i hk
     have:j=0:=by
       simp only[Option.some.injEq,Prod.mk.injEq] at h
       omega
     subst this
     simp only[List.set_cons_zero,jo,if_true,Nat.add_zero]
   · rename_i hk
     cases j with
     | zero=>
       exfalso
       have:∀(l:List (TV×TV×Nat)) (a q:Nat) (u:TV) (z:Nat),jo l x a=some (q,u,z)->a<=q:=by
         intro l
         induction l with
         |nil=>intro a q u z h;cases h
         | cons e r ih=>
           obtain⟨k1,w1,b1⟩:=e
           intro a q u z h
           unfold jo at h
           split at h
           · cases h;exact Nat.le_refl _
           · have:=ih _ _ _ _ h;omega
       have:=this _ _ _ _ _ h
       omega
     | succ j=>
       simp only[List.set_cons_succ,jo,if_neg hk]
       rw[show i+(j+1)=i+1+j by omega] at h ⊢
       exact zm (i+1) j w b' h
theorem BJ {K:Tree->Prop}{es:List (TV×TV×Nat)}(h:KM K es)(x:Tree)(c:Nat)(n:Int):kX (nI es c x n) x=n:=by
 unfold kX nI;cases hf:jo es x 0 with
 |some p=>
  obtain⟨i,v,b⟩:=p
  simp only
  rw[show jo (es.set i (.t x,.t (.int .i64 n),b)) x 0=some (0+i,.t (.int .i64 n),b) from zm 0 i v b (by rw[Nat.zero_add];exact hf)]
 |none=>
  simp only
  rw[E7 0,hf]
  simp
theorem Gu {K:Tree->Prop}{es:List (TV×TV×Nat)}(h:KM K es){x y:Tree}(hxy:x≠y)(c:Nat)(n:Int):kX (nI es c x n) y=kX es y:=by
 unfold kX nI;cases hf:jo es x 0 with
 |some p=>
  obtain⟨i,v,b⟩:=p
  obtain⟨_,h2,_⟩:=Aw h 0 i v b hf
  rw[Nat.sub_zero] at h2
  simp only
  rw[yh hxy 0 i v b h2]
 |none=>
  simp only
  rw[E7 0]
  cases jo es y 0 with
  |some p=>rfl
  |none=>simp only[if_neg hxy]
theorem wD {P:jY}{ty kt et:TypeId}{ti tk te:TI}{K:Tree->Prop}{x:Tree}{es:List (TV×TV×Nat)}(ht:P.ty ty=some ti)(hd:ti.desc=.map kt et)(hk:P.ty kt=some tk)(he:P.ty et=some te)(hez:te.zero=some (.t (.int .i64 0)))(hK:KEq P kt tk.desc K)(hS:KM K es)(hx:K x)(c:Nat):
 A5 P ty (nI es c x (kX es x)) (.t x) false=some (.t (.int .i64 (kX es x))):=by
 rw[wC ht hd hk he hez hK (iU hS hx c _) hx,BJ hS]
def KB (es:List (TV×TV×Nat))(c:Nat):Prop:=(es.map (·.2.2)).Nodup/\∀e∈es,e.2.2<c
theorem KB.nil:KB [] 0:=⟨List.nodup_nil,λ_ h=>by cases h⟩
def stM (es:List (TV×TV×Nat))(c:Nat)(x:Tree):Nat:=match jo es x 0 with
 |some (_,_,b)=>b
 |none=>c
theorem KB.up {K:Tree->Prop}{es:List (TV×TV×Nat)}{c:Nat}(h:KB es c)(hS:KM K es)(x:Tree)(n:Int):KB (nI es c x n) (uz es c x):=by
 unfold nI uz;cases hf:jo es x 0 with
 | some p=>
   obtain⟨i,v,b⟩:=p
   obtain⟨_,h2,_⟩:=Aw hS 0 i v b hf
   rw[Nat.sub_zero] at h2
   obtain⟨hi,h3⟩:=List.getElem?_eq_some_iff.1 h2
   have e:(es.set i (.t x,.t (.int .i64 n),b)).map (·.2.2)=es.map (·.2.2):=by
     rw[List.map_set]
     have:(es.map (·.2.2))[i]'(by simpa using hi)=b:=by rw[List.getElem_map,h3]
     conv=>lhs;rw[show((TV.t x,TV.t (.int .i64 n),b):TV×TV×Nat).2.2=(es.map (·.2.2))[i]'(by simpa using hi) from this.symm]
     exact List.set_getElem_self _
   refine⟨by rw[e];exact h.1,λy hy=> ?_⟩
   rcases List.mem_or_eq_of_mem_set hy with hy|hy
   · exact h.2 y hy
   · have:=h.2 _ (List.mem_of_getElem? h2)
     rw[hy];exact this
 | none=>
   refine⟨?_,λy hy=> ?_⟩
   · rw[List.map_append]
     refine List.nodup_append.2 ⟨h.1,by simp,λa ha b hb=> ?_⟩
     simp only[List.map_cons,List.map_nil,List.mem_singleton] at hb
     subst hb
     obtain⟨e,he,rfl⟩:=List.mem_map.1 ha
     have:=h.2 e he
     omega
   · rcases List.mem_append.1 hy with hy|hy
     · have:=h.2 y hy;show _<c+1;omega
     · simp only[List.mem_singleton] at hy;rw[hy];exact Nat.lt_succ_self c
theorem BK:∀{es:List (TV×TV×Nat)} {i:Nat} {e:TV×TV×Nat} (q:Nat),(es.map (·.2.2)).Nodup->es[i]?=some e->sB es (e.2.2:Int) q=some (q+i)
 | [],_,_,_,_,h=>by simp at h
 |(k,v,b)::r,0,e,q,hn,h=>by
  simp only[List.getElem?_cons_zero,Option.some.injEq] at h
  subst h
  simp only[sB,if_true,Nat.add_zero]
 |(k,v,b)::r,i+1,e,q,hn,h=>by
  have h':r[i]?=some e:=by simpa using h
  simp only[List.map_cons,List.nodup_cons] at hn
  have hne:¬((b:Int)=(e.2.2:Int)):=λx=>hn.1 (List.mem_map.2 ⟨e,List.mem_of_getElem? h',by omega⟩)
  simp only[sB,if_neg hne]
  rw[BK (q+1) hn.2 h',show q+1+i=q+(i+1) by omega]
section
variable {P:jY}{ty kt et:TypeId}{ti tk te:TI}{K:Tree->Prop}{x:Tree}{es:List (TV×TV×Nat)}
theorem C2 (ht:P.ty ty=some ti)(hd:ti.desc=.map kt et)(hk:P.ty kt=some tk)(he:P.ty et=some te)(hez:te.zero=some (.t (.int .i64 0)))(hK:KEq P kt tk.desc K)(hS:KM K es)(hx:K x)(c:Nat):
 Xh P ty es c (.t x)=some (.t (.cF [.int .i64 (kX es x),.int .i64 (stM es c x)]),nI es c x (kX es x),uz es c x):=by
 have h:=NU hK hx hS 0
 have h2:=Aw hS 0 (x:=x)
 unfold kX nI uz stM
 cases hf:jo es x 0 with
 |none=>
  rw[hf] at h
  simp only[Xh,bx,ht,hd,hk,he,hK.ok x _ hx,if_true,h,hez]
  rfl
 |some p=>
  obtain⟨j,v,b⟩:=p
  rw[hf] at h
  obtain⟨_,_,n,rfl⟩:=h2 j v b hf
  simp only[Xh,bx,ht,hd,hk,he,hK.ok x _ hx,if_true,h,hez]
  rfl
end
theorem C3 {K:Tree->Prop}{x:Tree}{es:List (TV×TV×Nat)}{c:Nat}(hS:KM K es)(hB:KB es c)(n0 n:Int):
 Z0 (nI es c x n0) (uz es c x) (stM es c x:Nat) (.t (.int .i64 n))=some (nI es c x n,uz es c x):=by
 have hB2:=(hB.up hS x n0).1
 unfold Z0
 cases hf:jo es x 0 with
 |some p=>
  obtain⟨i,v,b⟩:=p
  obtain⟨_,h2,_⟩:=Aw hS 0 i v b hf
  rw[Nat.sub_zero] at h2
  have hi:=(List.getElem?_eq_some_iff.1 h2).1
  have e1:∀m:Int,nI es c x m=es.set i (.t x,.t (.int .i64 m),b):=λm=>by unfold nI;rw[hf]
  have e2:stM es c x=b:=by unfold stM;rw[hf]
  have h3:(nI es c x n0)[i]?=some (.t x,.t (.int .i64 n0),b):=by rw[e1,List.getElem?_set_self (by simpa using hi)]
  have h4:=BK 0 hB2 h3
  rw[Nat.zero_add] at h4
  rw[e2,h4]
  simp only[h3]
  rw[e1,e1,List.set_set]
 |none=>
  have e1:∀m:Int,nI es c x m=es++[(.t x,.t (.int .i64 m),c)]:=λm=>by unfold nI;rw[hf]
  have e2:stM es c x=c:=by unfold stM;rw[hf]
  have h3:(nI es c x n0)[es.length]?=some (.t x,.t (.int .i64 n0),c):=by rw[e1];simp
  have h4:=BK 0 hB2 h3
  rw[Nat.zero_add] at h4
  rw[e2,h4]
  simp only[h3]
  rw[e1,e1]
  simp
theorem alX {σ:Nm->Option Nm}{K:Tree->Prop}{es:List (TV×TV×Nat)}{c:Nat}(h:KM K es):aO.rn σ (.map es c)=some (.map es c):=by
 have:Yr σ es=some es:=by
  induction es with
  |nil=>rfl
  |cons e r ih=>
   obtain⟨x,n,b,_,rfl⟩:=h e List.mem_cons_self
   simp only[Yr,TV.rn,ih λe he=>h e (List.mem_cons_of_mem _ he)]
 simp only[aO.rn,this,Option.map_some]
end Go.Abs
end
