/- Whole paths by the kernel: the interpreter asks for what it cannot tell (truths, answers of calls, elements of lists), and what it was told is proved beside. -/
import Derived.Test.YtnfnihgmankidaaGreatDoorQ
set_option linter.unusedVariables false
set_option linter.unusedSimpArgs false
noncomputable section
namespace Go.Abs
open Go
inductive Cl where
 |b (x c:Bool)
 |r (g:FuncId) (akb:List TV) (os:List aO) (x:bk)
 |e (l:List Tree) (i:Nat) (x:Tree)
 |y (s:List UInt8) (i:Nat) (x:UInt8)
 |v (x y:TV)
 |n (o:aO)
 |z
 |u (ag:Bool) (sz:Nat) (es:List Tree)
 |w (ag:Bool) (sz:Nat) (fs:List Tree) (len:Nat) (cs:List TV)
 |l (a b:Nat)
 |pp (p:Prop)
 |po (x:Option TV) (v:TV)
 |pc (x y:List TV)
 |pm (x:Option (List (TV×TV×Nat)×Nat)) (y:List (TV×TV×Nat)) (c:Nat)
 |pe (x:Option (TV×List (TV×TV×Nat)×Nat)) (v:TV) (y:List (TV×TV×Nat)) (c:Nat)
def Cl.holds (ev:aW):Cl->Prop
 |.b p q=>p=q
 |.r g akb os q=>ev g akb os=some q
 |.e k i q=>k[i]?=some q
 |.y k i q=>k[i]?=some q
 |.v p q=>p=q
 |.n o=>∀σ,o.rn σ=some o
 |.z=>True
 |.u ag sz es=>dU ag sz es/\es≠ []
 |.w ag sz fs len cs=>cs=(flat fs).map TV.t/\len=fs.length/\dU ag sz fs
 |.l p q=>p<=q
 |.pp p=>p
 |.po p q=>p=some q
 |.pc p q=>p=q
 |.pm p q d=>p=some (q,d)
 |.pe p k q d=>p=some (k,q,d)
abbrev M (α:Type):=List Cl->Option (α×List Cl×List Cl)
section monad
variable {α β:Type}{ev:aW}
def cq (a:α):M α:=λcl=>some (a,cl,[])
def fZ:M α:=λ_=>none
def nA (x:Option α):M α:=λcl=>match x with
 |some a=>some (a,cl,[])
 |none=>none
def aX (m:M α)(k:α->M β):M β:=λcl=>match m cl with
 |some (a,cl1,e1)=>(match k a cl1 with
  |some (b,cl2,e2)=>some (b,cl2,e1++e2)
  |none=>none)
 |none=>none
def TT (x:Bool):M Bool:=λcl=>match cl with
 |.b _ c::r=>some (c,r,[.b x c])
 |_=>none
def X7 (l:List Tree)(i:Nat):M Tree:=λcl=>match cl with
 |.e _ _ x::r=>some (x,r,[.e l i x])
 |_=>none
def abr (s:List UInt8)(i:Nat):M UInt8:=λcl=>match cl with
 |.y _ _ x::r=>some (x,r,[.y s i x])
 |_=>none
def abt (g:FuncId)(akb:List TV)(os:List aO):M bk:=λcl=>match cl with
 |.r _ _ _ x::r=>some (x,r,[.r g akb os x])
 |_=>none
def FJ (v:TV):M TV:=λcl=>match cl with
 |.v _ y::r=>some (y,r,[.v v y])
 |.z::r=>some (v,r,[.z])
 |_=>none
def TU (ag:Bool)(sz:Nat)(es:List Tree):M Bool:=λcl=>match cl with
 |.u _ _ _::r=>some (true,r,[.u ag sz es])
 |.pp _::r=>some (false,r,[.pp (es=[])])
 |_=>none
def QY (ag:Bool)(sz:Nat)(len:Nat)(cs:List TV):M (List Tree):=λcl=>match cl with
 |.w _ _ fs _ _::r=>some (fs,r,[.w ag sz fs len cs])
 |_=>none
def yM (a b:Nat):M Unit:=λcl=>match cl with
 |.l _ _::r=>some ((),r,[.l a b])
 |_=>none
def DU (p:Prop):M Unit:=λcl=>match cl with
 |.pp _::r=>some ((),r,[.pp p])
 |_=>none
def M9 (x:Option TV):M TV:=λcl=>match cl with
 |.po _ v::r=>some (v,r,[.po x v])
 |_=>none
def TW (x:List TV):M (List TV):=λcl=>match cl with
 |.pc _ y::r=>some (y,r,[.pc x y])
 |_=>none
def X8 (x:Option (List (TV×TV×Nat)×Nat)):M (List (TV×TV×Nat)×Nat):=λcl=>match cl with
 |.pm _ y c::r=>some ((y,c),r,[.pm x y c])
 |_=>none
def abu (x:Option (TV×List (TV×TV×Nat)×Nat)):M (TV×List (TV×TV×Nat)×Nat):=λcl=>match cl with
 |.pe _ v y c::r=>some ((v,y,c),r,[.pe x v y c])
 |_=>none
def cr (ev:aW)(m:M α)(x:Option α):Prop:=∀cl a Bd em,m cl=some (a,Bd,em)->(∀c∈em,c.holds ev)->x=some a
theorem cr.ret (a:α):cr ev (cq a) (some a):=λcl b Bd em h _=>by cases h;rfl
theorem cr.no {x:Option α}:cr ev fZ x:=λcl b Bd em h _=>by cases h
theorem cr.opt (x:Option α):cr ev (nA x) x:=λcl b Bd em h _=>by
 cases x with
 |none=>cases h
 |some a=>cases h;rfl
theorem cr.bind {m:M α}{x:Option α}{k:α->M β}{y:α->Option β}(hm:cr ev m x)(hk:∀a,x=some a->cr ev (k a) (y a)):cr ev (aX m k) (x.bind y):=λcl b Bd em h he=>by
 unfold aX at h;split at h
 ·rename_i a cl1 e1 h1;split at h
  ·rename_i b' cl2 e2 h2;cases h;have hx:=hm _ _ _ _ h1 λc hc=>he c (List.mem_append_left _ hc)
   rw[hx];exact hk a hx _ _ _ _ h2 λc hc=>he c (List.mem_append_right _ hc)
  ·cases h
 ·cases h
theorem cr.of_eq {m:M α}{x y:Option α}(h:cr ev m x)(e:x=y):cr ev m y:=e▸h
theorem DV (x:Bool):cr ev (TT x) (some x):=λcl a Bd em h he=>by
 unfold TT at h;split at h
 ·cases h;have:=he _ (List.mem_singleton_self _);exact congrArg some this
 ·cases h
theorem KK (l:List Tree)(i:Nat):cr ev (X7 l i) l[i]?:=λcl a Bd em h he=>by
 unfold X7 at h;split at h
 ·cases h;exact he _ (List.mem_singleton_self _)
 ·cases h
theorem TX (s:List UInt8)(i:Nat):cr ev (abr s i) s[i]?:=λcl a Bd em h he=>by
 unfold abr at h;split at h
 ·cases h;exact he _ (List.mem_singleton_self _)
 ·cases h
theorem TY (g:FuncId)(akb:List TV)(os:List aO):cr ev (abt g akb os) (ev g akb os):=λcl a Bd em h he=>by
 unfold abt at h;split at h
 ·cases h;exact he _ (List.mem_singleton_self _)
 ·cases h
theorem ox (v:TV):cr ev (FJ v) (some v):=λcl a Bd em h he=>by
 unfold FJ at h;split at h
 ·cases h;have:=he _ (List.mem_singleton_self _);exact congrArg some this
 ·cases h;rfl
 ·cases h
def MP (ev:aW)(m:M α)(P:α->Prop):Prop:=∀cl a Bd em,m cl=some (a,Bd,em)->(∀c∈em,c.holds ev)->P a
theorem MP.ret {a:α}{P:α->Prop}(h:P a):MP ev (cq a) P:=λcl b Bd em hm _=>by cases hm;exact h
theorem MP.no {P:α->Prop}:MP ev fZ P:=λcl b Bd em h _=>by cases h
theorem MP.O1 {m:M α}{x:Option α}(h:cr ev m x):MP ev m λa=>x=some a:=h
theorem MP.mono {m:M α}{P Q:α->Prop}(h:MP ev m P)(k:∀a,P a->Q a):MP ev m Q:=λcl a Bd em hm he=>k a (h cl a Bd em hm he)
theorem MP.bind {m:M α}{P:α->Prop}{k:α->M β}{Q:β->Prop}(hm:MP ev m P)(hk:∀a,P a->MP ev (k a) Q):MP ev (aX m k) Q:=λcl b Bd em h he=>by
 unfold aX at h;split at h
 ·rename_i a cl1 e1 h1;split at h
  ·rename_i b' cl2 e2 h2;cases h;exact hk a (hm _ _ _ _ h1 λc hc=>he c (List.mem_append_left _ hc)) _ _ _ _ h2 λc hc=>he c (List.mem_append_right _ hc)
  ·cases h
 ·cases h
theorem T3 {ag:Bool}{sz:Nat}{es:List Tree}:MP ev (TU ag sz es) λb=>cond b (dU ag sz es/\es≠ []) (es=[]):=λcl a Bd em h he=>by
 unfold TU at h;split at h
 ·cases h;exact he _ (List.mem_singleton_self _)
 ·cases h;exact he _ (List.mem_singleton_self _)
 ·cases h
theorem CI {ag:Bool}{sz len:Nat}{cs:List TV}:MP ev (QY ag sz len cs) λfs=>cs=(flat fs).map TV.t/\len=fs.length/\dU ag sz fs:=λcl a Bd em h he=>by
 unfold QY at h;split at h
 ·cases h;exact he _ (List.mem_singleton_self _)
 ·cases h
theorem kz {x y:Nat}:MP ev (yM x y) λ_=>x<=y:=λcl a Bd em h he=>by
 unfold yM at h;split at h
 ·cases h;exact he _ (List.mem_singleton_self _)
 ·cases h
theorem p0 {p:Prop}:MP ev (DU p) λ_=>p:=λcl a Bd em h he=>by
 unfold DU at h;split at h
 ·cases h;exact he _ (List.mem_singleton_self _)
 ·cases h
theorem zQ {x:Option TV}:MP ev (M9 x) λv=>x=some v:=λcl a Bd em h he=>by
 unfold M9 at h;split at h
 ·cases h;exact he _ (List.mem_singleton_self _)
 ·cases h
theorem Iy {x:List TV}:MP ev (TW x) λy=>x=y:=λcl a Bd em h he=>by
 unfold TW at h;split at h
 ·cases h;exact he _ (List.mem_singleton_self _)
 ·cases h
theorem O2 {x:Option (List (TV×TV×Nat)×Nat)}:MP ev (X8 x) λy=>x=some y:=λcl a Bd em h he=>by
 unfold X8 at h;split at h
 ·cases h;exact he _ (List.mem_singleton_self _)
 ·cases h
theorem X9 {x:Option (TV×List (TV×TV×Nat)×Nat)}:MP ev (abu x) λy=>x=some y:=λcl a Bd em h he=>by
 unfold abu at h;split at h
 ·cases h;exact he _ (List.mem_singleton_self _)
 ·cases h
end monad
section ops
variable {ev:aW}{C:cE}{f:FuncId}
def CJ (ops:Array Oper)(slots:List TV)(o:Oper):M Bool:=
 match o.guard with
 |none=>cq true
 | some (j,want)=>match(ops[j]?).bind (·.dst) with
  |none=>cq false
  |some d=>match slots[d]? with
   |some (.t (.bool b))=>aX (TT b) λc=>cq (c==want)
   |some (.t (.cv []))=>cq false
   |none=>cq false
   |_=>fZ
theorem DW (ops:Array Oper)(slots:List TV)(o:Oper):cr ev (CJ ops slots o) (dH ops slots o):=by
 unfold CJ dH;cases o.guard with
 |none=>exact cr.ret _
 | some p=>
  obtain⟨j,want⟩:=p
  simp only
  cases (ops[j]?).bind (·.dst) with
  |none=>exact cr.ret _
  |some d=>
   simp only
   generalize slots[d]?=z
   split
   · exact cr.bind (x:=some _) (y:=λc=>some (c==want)) (DV _) λc _=>cr.ret _
   · exact cr.ret _
   · exact cr.ret _
   · exact cr.no
mutual
def Iz:TV->Bool
 |.ref _ _ _=>true
 |.agg cs=>hasRefs cs
 |.cv cs=>hasRefs cs
 |.iface _ v=>Iz v
 |_=>false
def hasRefs:List TV->Bool
 | []=>false
 |v::r=>Iz v||hasRefs r
end
def O3 (g:TV->M (Tree×List Nm)):List TV->M (List Tree×List Nm)
 | []=>cq ([],[])
 |v::r=>aX (g v) λp=>aX (O3 g r) λq=>cq (p.1::q.1,p.2++q.2)
def QZ (H:Heap):Nat->TV->M (Tree×List Nm)
 |0,v=>nA (pQ H 0 v)
 | n+1,v=>match v with
  |.ref k 0 len=>(match H.get k with
   |some (.arr g bD fz cs)=>if 0<bD then aX (QY g.2 bD len cs) λfs=>cq (.sl fs,[k]) else fZ
   |_=>fZ)
  |.agg cs=>aX (O3 (QZ H n) cs) λp=>cq (.agg p.1,p.2)
  |.cv cs=>aX (O3 (QZ H n) cs) λp=>cq (.cv p.1,p.2)
  |v=>nA (pQ H (n+1) v)
theorem II {g:TV->M (Tree×List Nm)}{g':TV->Option (Tree×List Nm)}(h:∀v,MP ev (g v) λp=>g' v=some p):∀(l:List TV),MP ev (O3 g l) λp=>zk g' l=some p
 | []=>MP.ret rfl
 |v::r=>MP.bind (h v) λp hp=>MP.bind (II h r) λq hq=>MP.ret (by simp only[zk,hp,hq])
theorem IJ (H:Heap):∀(n:Nat) (v:TV),MP ev (QZ H n v) λp=>pQ H n v=some p
 |0,v=>MP.O1 (cr.opt _)
 | n + 1,v=>by
   unfold QZ
   split
   · rename_i k len
     split
     · rename_i g bD fz cs hk
       split
       · rename_i hz
         refine MP.bind CI λfs hf=>MP.ret ?_
         obtain⟨rfl,rfl,hu⟩:=hf
         obtain⟨g1,g2⟩:=g
         exact OS hk hu hz rfl
       · exact MP.no
     · exact MP.no
   · rename_i cs
     exact MP.bind (II (IJ H n) cs) λp hp=>MP.ret (by simp only[pQ,hp])
   · rename_i cs
     exact MP.bind (II (IJ H n) cs) λp hp=>MP.ret (by simp only[pQ,hp])
   · exact MP.O1 (cr.opt _)
def DX (H:Heap):List TV->M (List TV×List Nm)
 | []=>cq ([],[])
 | v::r=>aX (DX H r) λp=>match Iz v with
  |true=>aX (QZ H fL v) λq=>cq (.t q.1::p.1,q.2++p.2)
  |false=>cq (match pQ H fL v with
   |some (x,k)=>(.t x::p.1,k++p.2)
   |none=>(v::p.1,p.2))
theorem DY (H:Heap):∀(l:List TV),MP ev (DX H l) λp=>lT H l=p
 | []=>MP.ret rfl
 | v ::r=>by
   refine MP.bind (DY H r) λp hp=> ?_
   split
   · refine MP.bind (IJ H fL v) λq hq=>MP.ret ?_
     simp only[lT,hp,hq]
   · refine MP.ret ?_
     simp only[lT,hp]
     cases pQ H fL v<;>rfl
def Ya:aO->Bool
 |.arr _ _ _ _=>true
 |.map _ _=>true
 |_=>false
def Yb (o:aO):M aO:=λcl=>match cl with
 |.n _::r=>some (o,r,[.n o])
 |_=>none
theorem KL {o:aO}:MP ev (Yb o) λo'=>o'=o/\∀σ,o.rn σ=some o:=λcl a Bd em h he=>by
 unfold Yb at h;split at h
 ·cases h;exact⟨rfl,he _ (List.mem_singleton_self _)⟩
 ·cases h
def rnO (σ:Nm->Option Nm)(o:aO):M aO:=match Ya o with
 |true=>Yb o
 |false=>nA (o.rn σ)
theorem Na {σ:Nm->Option Nm}{o:aO}:MP ev (rnO σ o) λo'=>o.rn σ=some o':=by
 unfold rnO;split
 ·exact KL.mono λo' h=>by rw[h.1];exact h.2 σ
 ·exact MP.O1 (cr.opt _)
mutual
theorem nB:∀{v v':TV},v.rn (λ_=>none)=some v'->v.names=[]
 |.t _,_,_=>rfl
 |.any,_,_=>rfl
 |.cc,_,_=>rfl
 |.jS _,_,_=>rfl
 |.jt _ _,_,_=>rfl
 |.ref _ _ _,_,h=>by simp[TV.rn] at h
 |.ptr _ _,_,h=>by simp[TV.rn] at h
 |.js _ _ _,_,h=>by simp[TV.rn] at h
 |.map _,_,h=>by simp[TV.rn] at h
 | .agg cs,_,h=>by
   simp only[TV.rn,Option.map_eq_some_iff] at h
   obtain⟨a,h,_⟩:=h
   simp only[TV.names,j7 h]
 | .cv cs,_,h=>by
   simp only[TV.rn,Option.map_eq_some_iff] at h
   obtain⟨a,h,_⟩:=h
   simp only[TV.names,j7 h]
 | .iface _ v,_,h=>by
   simp only[TV.rn,Option.map_eq_some_iff] at h
   obtain⟨a,h,_⟩:=h
   simp only[TV.names,nB h]
 | .fn _ fs cs,_,h=>by
   simp only[TV.rn] at h
   split at h
   · rename_i h1 h2
     simp only[TV.names,j7 h1,j7 h2,List.append_nil]
   · cases h
theorem j7:∀{l l':List TV},TV.AP (λ_=>none) l=some l'->TV.iV l=[]
 | [],_,_=>rfl
 | v ::r,_,h=>by
   simp only[TV.AP] at h
   split at h
   · rename_i h1 h2
     simp only[TV.iV,nB h1,j7 h2,List.append_nil]
   · cases h
end
theorem B2:∀{es es':List (TV×TV×Nat)},Sj (λ_=>none) es=some es'->Ht es=[]
 | [],_,_=>rfl
 | (k,v,b)::r,_,h=>by
   simp only[Sj] at h
   split at h
   · rename_i h1 h2 h3
     simp only[Ht,nB h1,nB h2,B2 h3,List.append_nil]
   · cases h
theorem aO.nB {o:aO}(h:o.rn (λ_=>none)=some o):o.names=[]:=by
 cases o with
 |cells ty cs=>
  simp only[aO.rn,Option.map_eq_some_iff] at h
  obtain⟨a,h,_⟩:=h
  exact j7 h
 |arr g e fz cs=>
  simp only[aO.rn,Option.map_eq_some_iff] at h
  obtain⟨a,h,_⟩:=h
  exact j7 h
 |map es c=>
  simp only[aO.rn,Option.map_eq_some_iff] at h
  obtain⟨a,h,_⟩:=h
  exact B2 h
 |dead=>rfl
def IK (o:aO):M (List Nm):=match Ya o with
 |true=>aX (Yb o) λ_=>cq []
 |false=>cq o.names
def aah (o:aO):Prop:=Ya o=true->∀σ,o.rn σ=some o
theorem KO {o:aO}:MP ev (IK o) λl=>o.names=l/\aah o:=by
 unfold IK;split
 ·exact MP.bind KL λ_ h=>MP.ret ⟨aO.nB (h.2 _),λ_=>h.2⟩
 ·rename_i hb;exact MP.ret ⟨rfl,λh=>by rw[hb] at h;cases h⟩
def IL:List aO->M (List Nm)
 | []=>cq []
 |o::r=>aX (IK o) λl=>aX (IL r) λl2=>cq (l++l2)
theorem DZ:∀{os:List aO},MP ev (IL os) λl=>os.flatMap aO.names=l
 | []=>MP.ret rfl
 |o::r=>MP.bind KO λl h=>MP.bind DZ λl2 h2=>MP.ret (by rw[List.flatMap_cons,h.1,h2])
def wC (H:Heap):Nat->List Nm->List Nm->M (List Nm)
 |_,done,[]=>cq done
 |0,_,_=>fZ
 | n+1,done,k::todo=>match decide (k∈done) with
  |true=>wC H n done todo
  |false=>(match H.get k with
   |some o=>aX (IK o) λl=>wC H n (done++[k]) (todo++l)
   |none=>fZ)
def Nb (H:Heap)(k:Nm):Prop:=∀o,H.get k=some o->aah o
theorem s5 {H:Heap}:∀(n:Nat) (done todo:List Nm),MP ev (wC H n done todo) λS=>reach H n done todo=some S/\((∀k∈done,Nb H k)->∀k∈S,Nb H k)
 |0,done,[]=>MP.ret ⟨rfl,λh=>h⟩
 |n+1,done,[]=>MP.ret ⟨rfl,λh=>h⟩
 |0,_,_::_=>MP.no
 | n + 1,done,k::todo=>by
   unfold wC reach
   split
   · rename_i hd
     rw[if_pos (of_decide_eq_true hd)]
     exact s5 n done todo
   · rename_i hd
     rw[if_neg (of_decide_eq_false hd)]
     split
     · rename_i o ho
       refine MP.bind KO λl hl=>(s5 n (done++[k]) (todo++l)).mono λS hS=>⟨by simp only[ho,hl.1];exact hS.1,λh=>hS.2 λk' hk'=> ?_⟩
       rcases List.mem_append.1 hk' with hk'|hk'
       · exact h k' hk'
       · rw[List.mem_singleton.1 hk']
         intro o' ho'
         rw[ho] at ho'
         cases ho'
         exact hl.2
     · exact MP.no
def rnB (σ:Nm->Option Nm)(o:aO):Option aO:=match Ya o with
 |true=>some o
 |false=>o.rn σ
def CK (H:Heap)(S:List Nm):List Nm->Option (List aO)
 | []=>some []
 |k::r=>match H.get k,CK H S r with
  |some o,some os=>(rnB (Xf S) o).map (· ::os)
  |_,_=>none
theorem D1 {H:Heap}{S:List Nm}:∀{l:List Nm},(∀k∈l,Nb H k)->CK H S l=ni H S l
 | [],_=>rfl
 | k::r,h=>by
  simp only[CK,ni,D1 λk' hk'=>h k' (List.mem_cons_of_mem _ hk')]
  cases ho:H.get k with
  |none=>rfl
  | some o=>
   have e:rnB (Xf S) o=o.rn (Xf S):=by
    unfold rnB
    split
    · rename_i hb;exact(h k List.mem_cons_self o ho hb _).symm
    · rfl
   cases ni H S r with
   |none=>rfl
   |some os=>simp only[e]
def T4 (H:Heap)(keep:Bool)(args:List TV):M (List TV×List Nm):=match keep with
 |true=>cq (args,[])
 |false=>DX H args
theorem T6 {H:Heap}{keep:Bool}{args:List TV}:MP ev (T4 H keep args) λp=>JN H keep args=p:=by
 cases keep with
 |true=>exact MP.ret rfl
 |false=>exact DY H args
def GF (H1:Heap)(args:List TV):M (List Nm×List TV×List aO):=aX (wC H1 eB [] (TV.iV args)) λS=>
 if S.Nodup then(match TV.AP (Xf S) args,CK H1 S S with
  |some akb,some os=>cq (S,akb,os)
  |_,_=>fZ) else fZ
theorem KP {H1:Heap}{args:List TV}:MP ev (GF H1 args) λq=>reach H1 eB [] (TV.iV args)=some q.1/\q.1.Nodup/\TV.AP (Xf q.1) args=some q.2.1/\ni H1 q.1 q.1=some q.2.2:=
 MP.bind (s5 _ _ _) λS hS=>by
  split
  ·rename_i hn;split
   ·rename_i akb os h1 h2;exact MP.ret ⟨hS.1,hn,h1,by rw[← D1 (hS.2 λk hk=>by cases hk)];exact h2⟩
   ·exact MP.no
  ·exact MP.no
def D2 (S:List Nm)(t:Nat):List Nm->List aO->M Heap
 | [],[]=>cq []
 |k::r,o::os=>aX (rnO (oa S t) o) λo=>aX (D2 S t r os) λh=>cq ((k,o)::h)
 |_,_=>fZ
theorem D3 {S:List Nm}{t:Nat}:∀{l:List Nm} {os:List aO},MP ev (D2 S t l os) λh=>nU S t l os=some h
 | [],[]=>MP.ret rfl
 |k::r,o::os=>MP.bind Na λo' h1=>MP.bind D3 λh h2=>MP.ret (by simp only[nU,h1,h2])
 | [],_::_=>MP.no
 |_::_,[]=>MP.no
def zR (S:List Nm)(t:Nat):Heap->M Heap
 | []=>cq []
 |(k,o)::r=>match oa S t k with
  |some k=>aX (rnO (oa S t) o) λo=>aX (zR S t r) λh=>cq ((k,o)::h)
  |none=>fZ
theorem D4 {S:List Nm}{t:Nat}:∀{l:Heap},MP ev (zR S t l) λh=>kZ S t l=some h
 | []=>MP.ret rfl
 | (k,o)::r=>by
   unfold zR
   split
   · rename_i k' hk
     exact MP.bind Na λo' h1=>MP.bind D4 λh h2=>MP.ret (by simp only[kZ,hk,h1,h2])
   · exact MP.no
def T7 (H:Heap)(g:FuncId)(args:List TV)(t:Nat)(keep:Bool):M qu:=aX (T4 H keep args) λp=>aX (GF (H.dX (cT H p.2)) p.1) λq=>aX (abt g q.2.1 q.2.2) λx=>match x with
 |.ret v os' news=>aX (nA (v.rn (oa q.1 t))) λv=>aX (D2 q.1 t q.1 os') λh=>aX (zR q.1 t news) λh'=>cq (.val v ((cT H p.2).filter (λr=> !(q.1.contains r.1))++h++h'))
 |.panic v os'=>aX (nA (v.rn (oa q.1 t))) λv=>aX (nA (lU q.1 t q.1 os')) λh=>cq (.panic v ((cT H p.2).filter (λr=> !(q.1.contains r.1))++h.1) h.2)
theorem KQ (H:Heap)(g:FuncId)(args:List TV)(t:Nat)(keep:Bool):cr ev (T7 H g args t keep) (rG ev H g args t keep):=by
 refine MP.bind T6 λp hp=>MP.bind KP λq hq=>MP.bind (MP.O1 (TY g q.2.1 q.2.2)) λx hx=> ?_
 obtain⟨h1,h2,h3,h4⟩:=hq;obtain⟨p1,p2⟩:=p;simp only at h1 h3 h4;split
 ·refine MP.bind (MP.O1 (cr.opt _)) λv h5=>MP.bind D3 λh h6=>MP.bind D4 λh' h7=>MP.ret ?_
  unfold rG;rw[hp];simp only[h1,if_pos h2,h3,h4,hx,h5,h6,h7]
 ·refine MP.bind (MP.O1 (cr.opt _)) λv h5=>MP.bind (MP.O1 (cr.opt _)) λh h6=>MP.ret ?_
  unfold rG;rw[hp];simp only[h1,if_pos h2,h3,h4,hx,h5,h6]
def IM:TV->Option Nat
 |.t (.int _ (.ofNat n))=>some n
 |_=>none
theorem uz {v:TV}{n:Nat}(h:IM v=some n):fA v=some n:=by
 unfold IM at h;split at h
 ·cases h;simp[fA]
 ·cases h
def uD (P:iE)(H:Heap)(t:TypeId)(x i:TV):M TV:=
 match bf P t,IM i with
 | some ti,some n=>(match ti.desc,x with
  |.slice elem,.t (.sl es)=>(match bf P elem with
   |some te=>aX (X7 es n) λe=>nA (if e.cells.length=te.size then some (.jt e.cells 0) else none)
   |none=>fZ)
  |.slice elem,.jS es=>(match bf P elem with
   |some te=>aX (X7 es n) λe=>nA (if e.cells.length=te.size then some (.jt e.cells 0) else none)
   |none=>fZ)
  |.slice elem,.ref k 0 len=>(match bf P elem,H.get k with
   |some te,some (.arr g bD _ cs)=>if te.size=bD/\0<bD then aX (QY g.2 bD len cs) λ_=>aX (yM (n+1) len) λ_=>cq (.js k cs.length (n*bD)) else fZ
   |_,_=>fZ)
  |_,_=>nA (dI P H t x i))
 |_,_=>nA (dI P H t x i)
theorem yb (P:iE)(H:Heap)(t:TypeId)(x i:TV):cr ev (uD P H t x i) (dI P H t x i):=by
 unfold uD;split
 ·rename_i ti n ht hn;have hi:=uz hn;split
  ·rename_i elem es hd;split
   ·rename_i te hte;refine cr.of_eq (cr.bind (KK es n) λe _=>cr.opt _) ?_;unfold dI;rw[ht,hi];simp only[hd,hte];cases es[n]? <;>rfl
   ·exact cr.no
  ·rename_i elem es hd;split
   ·rename_i te hte;refine cr.of_eq (cr.bind (KK es n) λe _=>cr.opt _) ?_;unfold dI;rw[ht,hi];simp only[hd,hte];cases es[n]? <;>rfl
   ·exact cr.no
  ·rename_i elem k len hd;split
   ·rename_i te g bD fz cs hte hk;split
    ·rename_i hc;obtain⟨hc,hz⟩:=hc;refine MP.bind CI λfs hf=>MP.bind kz λ_ hl=>MP.ret ?_
     obtain⟨rfl,rfl,hu⟩:=hf;have h2:iR H k 0 fs.length=some (g,bD,fz,(flat fs).map .t):=by
      unfold iR;simp only[hk];rw[if_pos ⟨hz,by rw[Nat.zero_add,hu.length]⟩]
     unfold dI;rw[ht,hi];simp only[hd,hte,h2,hc,Nat.zero_add];rw[if_pos ⟨trivial,hl⟩]
    ·exact MP.no
   ·exact MP.no
  ·exact cr.opt _
 ·exact cr.opt _
def T8 (P:iE)(H:Heap)(t:TypeId)(a:TV):M TV:=match a with
 |.js k m o=>(match bf P t,H.get k with
  |some ti,some (.arr _ _ _ cs)=>aX (DU (cs.length=m)) λ_=>M9 (partT ti.agg ti.size cs o)
  |_,_=>fZ)
 |a=>nA (loadT P H t a)
theorem T9 (P:iE)(H:Heap)(t:TypeId)(a:TV):cr ev (T8 P H t a) (loadT P H t a):=by
 unfold T8;split
 ·rename_i k m o;split
  ·rename_i ti g bD fz cs ht hk;refine MP.bind p0 λ_ hm=>zQ.mono λv hv=> ?_
   subst hm;simp only[loadT,ht,tP,hk,if_true];exact hv
  ·exact MP.no
 ·exact cr.opt _
def Nc (P:iE)(H:Heap)(t:TypeId)(a x:TV):M (List (Nm×aO)):=match a with
 | .js k m o=>(match bf P t,H.get k with
  |some ti,some (.arr g bD false cs)=>(match decide (x.cells.length=ti.size)&&x.cells.all TV.leaf with
   |true=>aX (DU (cs.length=m)) λ_=>aX (yM (o+ti.size) cs.length) λ_=>aX (TW (cD cs o x.cells)) λcs'=>cq [(k,.arr g bD false cs')]
   |false=>fZ)
  |_,_=>fZ)
 |a=>nA (storeT P H t a x)
theorem Q0 (P:iE)(H:Heap)(t:TypeId)(a x:TV):cr ev (Nc P H t a x) (storeT P H t a x):=by
 unfold Nc;split
 ·rename_i k m o;split
  ·rename_i ti g bD cs ht hk;split
   ·rename_i hb;refine MP.bind p0 λ_ hm=>MP.bind kz λ_ hl=>MP.bind Iy λcs' hc=>MP.ret ?_
    subst hm hc;exact sta ht hk hb hl
   ·exact MP.no
  ·exact MP.no
 ·exact cr.opt _
def IP (H:Heap)(a:TV)(n:Nat):M TV:=match a with
 |.js k m o=>(match H.get k with
  |some (.arr _ _ _ cs)=>aX (DU (cs.length=m)) λ_=>cq (.js k m (o+n))
  |_=>fZ)
 |a=>nA (qo H a n)
theorem Nd (H:Heap)(a:TV)(n:Nat):cr ev (IP H a n) (qo H a n):=by
 unfold IP;split
 ·rename_i k m o;split
  ·rename_i g bD fz cs hk;refine MP.bind p0 λ_ hm=>MP.ret ?_
   simp only[qo,hk,if_pos hm]
  ·exact MP.no
 ·exact cr.opt _
def D5 (P:iE)(H:Heap)(s i:Nat)(a:TV):M TV:=match iw P s i with
 |some off=>IP H a off
 |none=>fZ
def KR (o:Option TV)(d:Nat):Option Nat:=match o with
 |none=>some d
 |some v=>IM v
theorem zS {o:Option TV}{d n:Nat}(h:KR o d=some n):ez o d=some n:=by
 cases o with
 |none=>exact h
 |some v=>exact uz h
theorem Q5 {ag:Bool}{sz:Nat}{fs:List Tree}(hu:dU ag sz fs)(h:Nat):((flat fs).map TV.t).take (h*sz)=(flat (fs.take h)).map TV.t:=by
 rw[← List.map_take];congr 1;induction h generalizing fs with
 |zero=>simp[flat]
 | succ n ih=>
  cases fs with
  |nil=>simp[flat]
  |cons e r=>
   have he:e.cells.length=sz:=(hu e List.mem_cons_self).1
   have e1:flat (e::r)=e.cells++flat r:=by simp[flat]
   have e2:flat ((e::r).take (n+1))=e.cells++flat (r.take n):=by simp[flat]
   rw[e1,e2,Nat.succ_mul,Nat.add_comm,← he,List.take_length_add_append,he,ih λx hx=>hu x (List.mem_cons_of_mem _ hx)]
def D6 (b:Bool)(P:iE)(H:Heap)(nm:Nm)(t:TypeId)(x:TV)(lo hi mx:Option TV):M qu:=
 let old:M qu:=nA (match xZ b P H nm t x lo hi mx with
  |some r=>some (.val r.1 r.2)
  |none=>match qq P H t x lo hi mx with
   |some (r,ks)=>some (.val r (cT H ks))
   |none=>none)
 match x,mx with
 | .t (.str s),none=>(match bf P t,KR lo 0,KR hi s.length with
  |some ti,some l,some h=>(match ti.desc with
   |.string=>aX (yM l h) λ_=>aX (yM h s.length) λ_=>cq (.val (.t (.str ((s.take h).drop l))) [])
   |_=>fZ)
  |_,_,_=>fZ)
 | .t (.sl es),none=>(match bf P t,KR lo 0,KR hi es.length with
  | some ti,some l,some h=>(match ti.desc with
   |.slice elem=>(match bf P elem with
    |some te=>aX (DU (jV te.size es=true)) λ_=>aX (yM l h) λ_=>aX (yM h es.length) λ_=>cq (.val (.t (.sl ((es.take h).drop l))) [])
    |none=>fZ)
   |_=>fZ)
  |_,_,_=>fZ)
 | .ref k 0 len,none=>(match b,lo,hi.bind IM with
  | true,none,some h=>(match bf P t,H.get k with
   | some ti,some (.arr g bD false cs)=>(match ti.desc with
    |.slice elem=>(match bf P elem with
     |some te=>if te.size=bD/\0<bD then aX (QY g.2 bD len cs) λfs=>aX (yM h len) λ_=>cq (.val (.ref nm 0 h) [(k,.dead),(nm,.arr g bD false ((flat (fs.take h)).map .t))]) else fZ
     |none=>fZ)
    |_=>fZ)
   |_,_=>fZ)
  |_,_,_=>old)
 |_,_=>old
theorem Be        (b:Bool)(P:iE)(H:Heap)(nm:Nm)(t:TypeId)(x:TV)(lo hi mx:Option TV):cr ev (D6 b P H nm t x lo hi mx) (match xZ b P H nm t x lo hi mx with
 |some r=>some (.val r.1 r.2)
 | none=>match qq P H t x lo hi mx with
   |some (r,ks)=>some (.val r (cT H ks))
   |none=>none):=by
 unfold D6
 simp only
 split
 ·rename_i s;split
  ·rename_i ti l h ht hl hh;have hl':=zS hl;have Di:=zS hh;split
   ·rename_i hd;refine MP.bind kz λ_ h1=>MP.bind kz λ_ h2=>MP.ret ?_
    rw[Hq];simp only[qq,ht,hd,hl',Di,if_pos (And.intro h1 h2)];rfl
   ·exact MP.no
  ·exact MP.no
 ·rename_i es;split
  ·rename_i ti l h ht hl hh;have hl':=zS hl;have Di:=zS hh;split
   ·rename_i elem hd;split
    ·rename_i te hte;refine MP.bind p0 λ_ h0=>MP.bind kz λ_ h1=>MP.bind kz λ_ h2=>MP.ret ?_
     rw[Hq];have e1:yo H (.t (.sl es))=some es.length:=rfl;have e2:ez none es.length=some es.length:=rfl;simp only[qq,ht,hd,hte,e1,e2,hl',Di,Option.isNone_none,Bool.true_or,if_pos (And.intro h1 (And.intro h2 (Nat.le_refl _))),h0,if_true,Option.isSome_none,Bool.false_and,Qb,Bool.false_eq_true,if_false];rfl
    ·exact MP.no
   ·exact MP.no
  ·exact MP.no
 ·rename_i k len;split
  ·rename_i h hh;split
   ·rename_i ti g bD cs ht hk;split
    ·rename_i elem hd;split
     ·rename_i te hte;split
      ·rename_i hc;refine MP.bind CI λfs hf=>MP.bind kz λ_ h1=>MP.ret ?_
       obtain⟨rfl,rfl,hu⟩:=hf;cases hi with
       |none=>cases hh
       | some hv=>
         have Di:=uz hh
         have h2:iR H k 0 fs.length=some (g,bD,false,(flat fs).map .t):=by
           unfold iR
           simp only[hk]
           rw[if_pos ⟨hc.2,by rw[Nat.zero_add,hu.length]⟩]
         simp only[xZ,if_true,yp,ht,Di,h2,hd,hte,if_pos (And.intro hc.1 h1),Q5 hu]
      ·exact MP.no
     ·exact MP.no
    ·exact MP.no
   ·exact MP.no
  ·exact cr.opt _
 ·exact cr.opt _
def B3 (P:iE)(t:TypeId)(es:List (TV×TV×Nat))(k:TV)(ok:Bool):Option TV:=
 match bf P t with
 | some ti=>match ti.desc with
  | .map kt et=>match bf P kt,bf P et with
   | some tk,some te=>
    if vJ P es.isEmpty kt k=true then
     match lS P kt tk.desc k es 0,te.zero with
     |some (some (_,v,_)),_=>some (if ok then pP [v,.t (.bool true)] else v)
     |some none,some z=>some (if ok then pP [z,.t (.bool false)] else z)
     |_,_=>none
    else none
   |_,_=>none
  |_=>none
 |none=>none
theorem Ua {P:iE}{H:Heap}{t:TypeId}{k:TV}{ok:Bool}{m:Nm}{es:List (TV×TV×Nat)}{c:Nat}(hk:H.get m=some (.map es c)):tT P H t (.map m) k ok=B3 P t es k ok:=by
 unfold tT B3;simp only[mapOf,hk];cases bf P t with
 |none=>rfl
 |some ti=>
  simp only
  cases ti.desc<;>try rfl
  rename_i kt et
  simp only
  cases bf P kt<;>cases bf P et<;>rfl
def Ub (P:iE)(H:Heap)(t:TypeId)(x k:TV)(ok:Bool):M TV:=match x with
 |.map m=>(match H.get m with
  |some (.map es _)=>M9 (B3 P t es k ok)
  |_=>fZ)
 |x=>nA (tT P H t x k ok)
theorem Uc (P:iE)(H:Heap)(t:TypeId)(x k:TV)(ok:Bool):cr ev (Ub P H t x k ok) (tT P H t x k ok):=by
 unfold Ub;split
 ·split
  ·rename_i hk;refine zQ.mono λv hv=> ?_
   rw[Ua hk];exact hv
  ·exact MP.no
 ·exact cr.opt _
def abv (P:iE)(t:TypeId)(es:List (TV×TV×Nat))(c:Nat)(k v:TV):Option (List (TV×TV×Nat)×Nat):=
 match bf P t with
 | some ti=>match ti.desc with
  | .map kt _=>match bf P kt with
   | some tk=>
    if vJ P false kt k=true then
     match lS P kt tk.desc k es 0 with
     |some (some (i,_,b))=>some (es.set i (k,v,b),c)
     |some none=>some (es++[(k,v,c)],c+1)
     |none=>none
    else none
   |none=>none
  |_=>none
 |none=>none
theorem ad2 {P:iE}{H:Heap}{t:TypeId}{k v:TV}{m:Nm}{es:List (TV×TV×Nat)}{c:Nat}(hk:H.get m=some (.map es c)){p:List (TV×TV×Nat)×Nat}(h:abv P t es c k v=some p):jg P H t (.map m) k v=some [(m,.map p.1 p.2)]:=by
 unfold abv at h;split at h<;>try (cases h;done)
 rename_i ti ht;split at h<;>try (cases h;done)
 rename_i kt et hd;split at h<;>try (cases h;done)
 rename_i tk OJ;split at h<;>try (cases h;done)
 rename_i hc;unfold jg;simp only[ht,hd,hk,OJ,if_pos hc];split at h<;>cases h<;>simp_all
def Q6 (P:iE)(t:TypeId)(es:List (TV×TV×Nat))(c:Nat)(k:TV):Option (TV×List (TV×TV×Nat)×Nat):=
 match bf P t with
 | some ti=>match ti.desc with
  | .map kt et=>match bf P kt,bf P et with
   | some tk,some te=>
    if vJ P false kt k=true then
     match lS P kt tk.desc k es 0,te.zero with
     |some (some (i,v,b)),_=>some (pP [v,.t (.int .i64 b)],es.set i (k,v,b),c)
     |some none,some z=>some (pP [z,.t (.int .i64 c)],es++[(k,z,c)],c+1)
     |_,_=>none
    else none
   |_,_=>none
  |_=>none
 |none=>none
theorem ad3 {P:iE}{H:Heap}{t:TypeId}{k:TV}{m:Nm}{es:List (TV×TV×Nat)}{c:Nat}(hk:H.get m=some (.map es c)){p:TV×List (TV×TV×Nat)×Nat}(h:Q6 P t es c k=some p):lz P H t (.map m) k=some (p.1,[(m,.map p.2.1 p.2.2)]):=by
 unfold Q6 at h;split at h<;>try (cases h;done)
 rename_i ti ht;split at h<;>try (cases h;done)
 rename_i kt et hd;split at h<;>try (cases h;done)
 rename_i tk te OJ hte;split at h<;>try (cases h;done)
 rename_i hc;unfold lz;simp only[ht,hd,hk,OJ,hte,if_pos hc];split at h<;>cases h<;>simp_all
def abw (P:iE)(H:Heap)(t:TypeId)(x k:TV):M qu:=match x with
 |.map m=>(match H.get m with
  |some (.map es c)=>aX (abu (Q6 P t es c k)) λp=>cq (.val p.1 [(m,.map p.2.1 p.2.2)])
  |_=>fZ)
 |x=>nA ((lz P H t x k).map λp=>.val p.1 p.2)
theorem Yc (P:iE)(H:Heap)(t:TypeId)(x k:TV):cr ev (abw P H t x k) ((lz P H t x k).map λp=>.val p.1 p.2):=by
 unfold abw;split
 ·split
  ·rename_i hk;refine MP.bind X9 λp hp=>MP.ret ?_
   rw[ad3 hk hp];rfl
  ·exact MP.no
 ·exact cr.opt _
def Ud (es:List (TV×TV×Nat))(c:Nat)(n:Int)(v:TV):Option (List (TV×TV×Nat)×Nat):=match pU es n 0 with
 |some i=>match es[i]? with
  |some (k,_,b)=>some (es.set i (k,v,b),c)
  |none=>none
 |none=>none
theorem ad4 {H:Heap}{v:TV}{kk:IntKind}{n:Int}{m:Nm}{es:List (TV×TV×Nat)}{c:Nat}(hk:H.get m=some (.map es c)){p:List (TV×TV×Nat)×Nat}(h:Ud es c n v=some p):jc H (.map m) (.t (.int kk n)) v=some [(m,.map p.1 p.2)]:=by
 unfold Ud at h;split at h<;>try (cases h;done)
 rename_i i hi;split at h<;>try (cases h;done)
 rename_i k w b he;cases h;unfold jc;simp only[hk,hi,he]
def abx (H:Heap)(x s v:TV):M (List (Nm×aO)):=match x,s with
 |.map m,.t (.int _ n)=>(match H.get m with
  |some (.map es c)=>aX (X8 (Ud es c n v)) λp=>cq [(m,.map p.1 p.2)]
  |_=>fZ)
 |x,s=>nA (jc H x s v)
theorem Yd (H:Heap)(x s v:TV):cr ev (abx H x s v) (jc H x s v):=by
 unfold abx;split
 ·split
  ·rename_i hk;refine MP.bind O2 λp hp=>MP.ret ?_
   exact ad4 hk hp
  ·exact MP.no
 ·exact cr.opt _
section
variable {P:iE}{ty kt et:TypeId}{ti tk te:TI}{s:List UInt8}{es:List (TV×TV×Nat)}
end
def aby (P:iE)(H:Heap)(t:TypeId)(x k v:TV):M (List (Nm×aO)):=match x with
 |.map m=>(match H.get m with
  |some (.map es c)=>aX (X8 (abv P t es c k v)) λp=>cq [(m,.map p.1 p.2)]
  |_=>fZ)
 |x=>nA (jg P H t x k v)
theorem Ye (P:iE)(H:Heap)(t:TypeId)(x k v:TV):cr ev (aby P H t x k v) (jg P H t x k v):=by
 unfold aby;split
 ·split
  ·rename_i hk;refine MP.bind O2 λp hp=>MP.ret ?_
   exact ad2 hk hp
  ·exact MP.no
 ·exact cr.opt _
def Nf (P:iE)(t:TypeId)(x i:TV):M TV:=
 match bf P t,IM i with
 |some ti,some n=>(match ti.desc,x with
  |.string,.t (.str s)=>aX (abr s n) λb=>cq (.t (.int .u8 b.toNat))
  |_,_=>nA (qp P t x i))
 |_,_=>nA (qp P t x i)
theorem Q7 (P:iE)(t:TypeId)(x i:TV):cr ev (Nf P t x i) (qp P t x i):=by
 unfold Nf;split
 ·rename_i ti n ht hn;have hi:=uz hn;split
  ·rename_i s hd;refine cr.of_eq (cr.bind (y:=λb=>some (.t (.int .u8 b.toNat))) (TX s n) λe _=>cr.ret _) ?_;unfold qp;rw[ht,hi];simp only[hd];cases s[n]? <;>rfl
  ·exact cr.opt _
 ·exact cr.opt _
def Q8 (m:M TV):M qu:=aX m λv=>cq (.val v [])
theorem CL {m:M TV}{x:Option TV}(h:cr ev m x):cr ev (Q8 m) (match zi x with
 |some (v,u)=>some (.val v u)
 |none=>none):=by
 refine cr.of_eq (cr.bind (y:=λv=>some (.val v [])) h λa _=>cr.ret _) ?_
 cases x<;>rfl
def abz:TV->Option (List Tree)
 |.t (.sl es)=>some es
 |.jS es=>some es
 |_=>none
theorem Yf {v:TV}{es:List Tree}(h:abz v=some es):OT v es:=by
 unfold abz at h;split at h
 ·cases h;exact .inl rfl
 ·cases h;exact .inr rfl
 ·cases h
def abA ( P:iE)(nm:Nm)(H:Heap)(st xt:TypeId)(s x:TV):M (TV×List (Nm×aO)):=
 match bf P st with
 | some ti=>(match ti.desc with
  | .slice elem=>(match bf P elem,abz x with
   | some te,some es=>(match te.zero with
    | some z=>if te.size≠0/\z.cells.length=te.size/\te.bytes≠0/\st=xt then
      aX (TU te.agg te.size es) λb=>match b with
      |false=>nA (jM P nm H st xt s (.t (.sl [])))
      | true=>(match s with
       |.cc=>aX (yM (es.length*te.bytes) eP) λ_=>cq (.ref nm 0 es.length,[(nm,.arr (elem,te.agg) te.size false ((flat es).map .t))])
       |.jS []=>aX (yM (es.length*te.bytes) eP) λ_=>cq (.ref nm 0 es.length,[(nm,.arr (elem,te.agg) te.size false ((flat es).map .t))])
       |.ref k 0 len=>(match H.get k with
        | some (.arr g bD fz cs)=>if g=(elem,te.agg)/\bD=te.size then aX (QY te.agg te.size len cs) λfs=>aX (yM ((len+es.length) *te.bytes) eP) λ_=>cq (.ref k 0 (fs++es).length,[(k,.arr (elem,te.agg) te.size fz ((flat (fs++es)).map .t))])
          else fZ
        |_=>fZ)
       |_=>fZ)
     else fZ
    |none=>fZ)
   |_,_=>fZ)
  |_=>fZ)
 |none=>fZ
theorem Yg      (C:cE)(nm:Nm)(H:Heap)(st xt:TypeId)(s x:TV):cr ev (abA C.P nm H st xt s x) (jM C.P nm H st xt s x):=by
 unfold abA;split
 ·rename_i ti ht;split
  ·rename_i elem hd;split
   ·rename_i te es hte hx;have hv:=Yf hx;split
    ·rename_i z hz;split
     ·rename_i hc;obtain⟨c1,c2,c3,rfl⟩:=hc;have hA:BV C.P st elem te:=⟨⟨ti,ht,hd⟩,hte,z,hz,c1,c2,c3⟩;refine MP.bind T3 λb hu=> ?_
      cases b with
      | false=>
        obtain rfl:es=[]:=hu
        have e:jM C.P nm H st st s x=jM C.P nm H st st s (.t (.sl [])):=by
          rcases hv with rfl|rfl<;>rfl
        rw[e]
        exact MP.O1 (cr.opt _)
      |true=>
      obtain⟨hu,hne⟩:=hu;simp only;split
      ·refine MP.bind kz λ_ hb=>MP.ret ?_
       exact rJ hA (Ik hv hu) (by simpa using hne) hu.ku (by simp only[if_pos hb])
      ·refine MP.bind kz λ_ hb=>MP.ret ?_
       refine rJ hA (Ik hv hu) (by simpa using hne) hu.ku ?_;have e:eO H te.agg te.size (.jS [])=some (0,[]):=rfl;simp only[e,Nat.zero_add,if_pos hb,List.nil_append]
      ·rename_i k len;split
       ·rename_i g bD fz cs hk;split
        ·rename_i hg;obtain⟨rfl,rfl⟩:=hg;refine MP.bind CI λfs hf=>MP.bind kz λ_ hb=>MP.ret ?_
         obtain⟨rfl,rfl,hf⟩:=hf;refine rJ hA (Ik hv hu) (by simpa using hne) hu.ku ?_;have h2:iR H k 0 fs.length=some ((elem,te.agg),te.size,fz,(flat fs).map .t):=by
          unfold iR;simp only[hk];rw[if_pos ⟨by omega,by rw[Nat.zero_add,hf.length]⟩]
         simp only[h2,hb,and_self,if_true,flat,List.flatMap_append,List.map_append,List.length_append]
        ·exact MP.no
       ·exact MP.no
      ·exact MP.no
     ·exact MP.no
    ·exact MP.no
   ·exact MP.no
  ·exact MP.no
 ·exact MP.no
def orM {α:Type}(a b:M α):M α:=λcl=>match a cl with
 |some r=>some r
 |none=>b cl
theorem Ue {α:Type}{a b:M α}{Q:α->Prop}(h:MP ev a Q)(k:MP ev b Q):MP ev (orM a b) Q:=λcl v Bd em hm he=>by
 unfold orM at hm;split at hm
 ·rename_i r hr;cases hm;exact h _ _ _ _ hr he
 ·exact k _ _ _ _ hm he
def Uf (P:iE)(H:Heap)(t:TypeId)(k:Nm)(off len:Nat)(i:TV):M TV:=match bf P t,IM i,H.get k with
 | some ti,some n,some (.arr g bD fz cs)=>(match ti.desc with
  |.slice elem=>(match bf P elem with
   |some te=>if te.size=bD/\0<bD then aX (DU ((off+len) *bD=cs.length)) λ_=>aX (yM (n+1) len) λ_=>cq (.js k cs.length ((off+n) *bD)) else fZ
   |none=>fZ)
  |_=>fZ)
 |_,_,_=>fZ
theorem Yh {P:iE}{H:Heap}{t:TypeId}{k:Nm}{off len:Nat}{i:TV}:MP ev (Uf P H t k off len i) λv=>dI P H t (.ref k off len) i=some v:=by
 unfold Uf;split
 ·rename_i ti n g bD fz cs ht hn hk;have hi:=uz hn;split
  ·rename_i elem hd;split
   ·rename_i te hte;split
    ·rename_i hc;refine MP.bind p0 λ_ hp=>MP.bind kz λ_ hl=>MP.ret ?_
     have h2:iR H k off len=some (g,bD,fz,cs):=by
      unfold iR;simp only[hk];rw[if_pos ⟨hc.2,hp⟩]
     unfold dI;rw[ht,hi];simp only[hd,hte,h2,hc.1];rw[if_pos ⟨trivial,hl⟩]
    ·exact MP.no
   ·exact MP.no
  ·exact MP.no
 ·exact MP.no
def yN (P:iE)(H:Heap)(t:TypeId)(x i:TV):M TV:=match x with
 |.ref k off len=>orM (Uf P H t k off len i) (uD P H t (.ref k off len) i)
 |x=>uD P H t x i
theorem D7 (P:iE)(H:Heap)(t:TypeId)(x i:TV):cr ev (yN P H t x i) (dI P H t x i):=by
 unfold yN;split
 ·exact Ue (Yh.mono λv hv=>hv) (yb P H t _ i)
 ·exact yb P H t _ i
def Ug (P:iE)(H:Heap)(t:TypeId)(k:Nm)(off len:Nat)(lv:TV):M qu:=match bf P t,H.get k,IM lv with
 | some ti,some (.arr g bD fz cs),some l=>(match ti.desc with
  |.slice elem=>(match bf P elem with
   |some te=>if bD=te.size/\0<bD then aX (DU ((off+len) *bD=cs.length)) λ_=>aX (yM l len) λ_=>cq (.val (.ref k (off+l) (len - l)) []) else fZ
   |none=>fZ)
  |_=>fZ)
 |_,_,_=>fZ
theorem Uh {b:Bool}{P:iE}{H:Heap}{nm:Nm}{t:TypeId}{x lv:TV}{hi mx:Option TV}:xZ b P H nm t x (some lv) hi mx=none:=by
 cases b with
 |false=>rfl
 |true=>
  show yp P H nm t x (some lv) hi mx=none
  unfold yp
  split
  · rename_i h;cases h
  · rfl
def Bf (b:Bool)(P:iE)(H:Heap)(nm:Nm)(t:TypeId)(x:TV)(lo hi mx:Option TV):Option qu:=match xZ b P H nm t x lo hi mx with
 |some r=>some (.val r.1 r.2)
 |none=>match qq P H t x lo hi mx with
  |some (r,ks)=>some (.val r (cT H ks))
  |none=>none
theorem Yi {b:Bool}{P:iE}{H:Heap}{nm:Nm}{t:TypeId}{k:Nm}{off len:Nat}{lv:TV}:MP ev (Ug P H t k off len lv) λr=>Bf b P H nm t (.ref k off len) (some lv) none none=some r:=by
 unfold Ug;split
 ·rename_i ti g bD fz cs l ht hk hl;have hl':=uz hl;split
  ·rename_i elem hd;split
   ·rename_i te hte;split
    ·rename_i hc;refine MP.bind p0 λ_ hp=>MP.bind kz λ_ h1=>MP.ret ?_
     have h2:iR H k off len=some (g,bD,fz,cs):=by
      unfold iR;simp only[hk];rw[if_pos ⟨hc.2,hp⟩]
     unfold Bf;rw[Uh];have e0:yo H (.ref k off len)=some len:=rfl;have e1:ez (some lv) 0=some l:=hl';have e2:ez none len=some len:=rfl;simp only[qq,ht,hd,hte,e0,e1,e2,Option.isNone_none,Bool.true_or,h2,hc.1,and_self,if_true];rw[if_pos ⟨h1,Nat.le_refl len⟩];rfl
    ·exact MP.no
   ·exact MP.no
  ·exact MP.no
 ·exact MP.no
def Ng (P:iE)(H:Heap)(nm:Nm)(t:TypeId)(k:Nm)(len:Nat)(hv:TV):M qu:=match bf P t,H.get k,IM hv with
 | some ti,some (.arr g bD false cs),some h=>(match ti.desc with
  |.slice elem=>(match bf P elem with
   |some te=>if te.size=bD/\0<bD then aX (DU ((0+len) *bD=cs.length)) λ_=>aX (yM h len) λ_=>aX (TW (cs.take (h*bD))) λcs'=>cq (.val (.ref nm 0 h) [(k,.dead),(nm,.arr g bD false cs')]) else fZ
   |none=>fZ)
  |_=>fZ)
 |_,_,_=>fZ
theorem Ui {P:iE}{H:Heap}{nm:Nm}{t:TypeId}{k:Nm}{len:Nat}{hv:TV}:MP ev (Ng P H nm t k len hv) λr=>Bf true P H nm t (.ref k 0 len) none (some hv) none=some r:=by
 unfold Ng;split
 ·rename_i ti g bD cs h ht hk hh;have Di:=uz hh;split
  ·rename_i elem hd;split
   ·rename_i te hte;split
    ·rename_i hc;refine MP.bind p0 λ_ hp=>MP.bind kz λ_ h1=>MP.bind Iy λcs' hq=>MP.ret ?_
     subst hq;have h2:iR H k 0 len=some (g,bD,false,cs):=by
      unfold iR;simp only[hk];rw[if_pos ⟨hc.2,hp⟩]
     unfold Bf;simp only[xZ,if_true,yp,ht,Di,h2,hd,hte,if_pos (And.intro hc.1 h1)]
    ·exact MP.no
   ·exact MP.no
  ·exact MP.no
 ·exact MP.no
def Nh (b:Bool)(P:iE)(H:Heap)(nm:Nm)(t:TypeId)(x:TV)(lo hi mx:Option TV):M qu:=match x,lo,hi,mx with
 |.ref k off len,some lv,none,none=>orM (Ug P H t k off len lv) (D6 b P H nm t (.ref k off len) (some lv) none none)
 |.ref k 0 len,none,some hv,none=>orM (match b with
  |true=>Ng P H nm t k len hv
  |false=>fZ) (D6 b P H nm t (.ref k 0 len) none (some hv) none)
 |x,lo,hi,mx=>D6 b P H nm t x lo hi mx
theorem Ni (b:Bool)(P:iE)(H:Heap)(nm:Nm)(t:TypeId)(x:TV)(lo hi mx:Option TV):cr ev (Nh b P H nm t x lo hi mx) (Bf b P H nm t x lo hi mx):=by
 unfold Nh;split
 ·exact Ue Yi (Be b P H nm t _ _ _ _)
 ·refine Ue ?_ (Be b P H nm t _ _ _ _);cases b with
  |true=>exact Ui
  |false=>exact MP.no
 ·exact Be b P H nm t _ _ _ _
def Nj (P:iE)(H:Heap)(t:TypeId)(k:Nm)(off len:Nat):M qu:=match bf P t,H.get k with
 | some ti,some (.arr g bD false cs)=>(match ti.desc with
  | .slice elem=>(match bf P elem with
   |some te=>(match te.zero with
    |some z=>if(te.size=bD/\0<bD)/\z.cells.length=te.size/\z.cells.all TV.leaf=true then aX (DU ((off+len) *bD=cs.length)) λ_=>aX (TW (cD cs (off*bD) (r7 len z.cells))) λcs'=>cq (.val (.t (.cv [])) [(k,.arr g bD false cs')]) else fZ
    |none=>fZ)
   |none=>fZ)
  |_=>fZ)
 |_,_=>fZ
theorem Uj {P:iE}{H:Heap}{t:TypeId}{k:Nm}{off len:Nat}:MP ev (Nj P H t k off len) λr=>(yq P H t (.ref k off len)).map (λp=>qu.val p.1 p.2)=some r:=by
 unfold Nj;split
 ·rename_i ti g bD cs ht hk;split
  ·rename_i elem hd;split
   ·rename_i te hte;split
    ·rename_i z hz;split
     ·rename_i hc;obtain⟨⟨hc1,cW⟩,iF,gh⟩:=hc;refine MP.bind p0 λ_ hp=>MP.bind Iy λcs' hq=>MP.ret ?_
      subst hq;subst hc1;have h2:iR H k off len=some (g,te.size,false,cs):=by
       unfold iR;simp only[hk];rw[if_pos ⟨cW,hp⟩]
      simp only[yq,ht,hd,hte,hz,h2];rw[if_pos ⟨trivial,iF,gh⟩];rfl
     ·exact MP.no
    ·exact MP.no
   ·exact MP.no
  ·exact MP.no
 ·exact MP.no
def O4 (C:cE)(f:FuncId)(H:Heap)(slots:List TV)(t:Nat)(o:Oper):M qu:=
 match o.op with
 |.call {callee:=.value fo,args,argTypes}=>(match lV C slots {callee:=.value fo,args,argTypes} with
  |some (g,akb)=>T7 H g akb t (JO C f o)
  |none=>fZ)
 |.call {callee:=.invoke recv name,args,argTypes}=>(match CA C H slots recv name args with
  |some (g,akb)=>T7 H g akb t (JO C f o)
  |none=>fZ)
 |.pick c a b=>(match cg C slots c,cg C slots a,cg C slots b with
  |some (.t (.bool x)),some u,some v=>aX (TT x) λc=>cq (.val (if c then u else v) [])
  |_,_,_=>fZ)
 |.indexAddr ty x i=>(match cg C slots x,cg C slots i with
  |some x,some i=>Q8 (yN C.P H ty x i)
  |_,_=>fZ)
 |.index ty x i=>(match cg C slots x,cg C slots i with
  |some x,some i=>Q8 (Nf C.P ty x i)
  |_,_=>fZ)
 |.load ty a=>(match cg C slots a with
  |some a=>Q8 (T8 C.P H ty a)
  |_=>fZ)
 |.store ty a x=>(match cg C slots a,cg C slots x with
  |some a,some x=>aX (Nc C.P H ty a x) λu=>cq (.val bS u)
  |_,_=>fZ)
 |.fieldAddr s x i=>(match cg C slots x with
  |some a=>Q8 (D5 C.P H s i a)
  |_=>fZ)
 |.slice ty x lo hi mx=>(match cg C slots x,vK C slots lo,vK C slots hi,vK C slots mx with
  |some v,some l,some h,some m=>Nh (o.dst.any (C.jN f)) C.P H (.loc [t]) ty v l h m
  |_,_,_,_=>fZ)
 |.lookup ty x k ok=>(match cg C slots x,cg C slots k with
  |some x,some k=>Q8 (Ub C.P H ty x k ok)
  |_,_=>fZ)
 |.mapUpdate ty x k v=>(match cg C slots x,cg C slots k,cg C slots v with
  |some x,some k,some v=>aX (aby C.P H ty x k v) λu=>cq (.val bS u)
  |_,_,_=>fZ)
 |.mapEntry ty x k=>(match cg C slots x,cg C slots k with
  |some x,some k=>abw C.P H ty x k
  |_,_=>fZ)
 |.entryStore ty x s v=>(match cg C slots x,cg C slots s,cg C slots v with
  |some x,some s,some v=>aX (abx H x s v) λu=>cq (.val bS u)
  |_,_,_=>fZ)
 | .call {callee:=.builtin .append,args,argTypes}=>(match args.toList,argTypes.toList with
  | [a,b],[ta,tb]=>(match cg C slots a,cg C slots b with
   |some x,some y=>aX (abA C.P (.loc [t]) H ta tb x y) λp=>cq (.val p.1 p.2)
   |_,_=>fZ)
  |_,_=>fZ)
 | .call {callee:=.builtin .clear,args,argTypes}=>(match args.toList,argTypes.toList with
  | [a],[ta]=>(match cg C slots a with
   |some (.ref k off len)=>Nj C.P H ta k off len
   |_=>fZ)
  |_,_=>fZ)
 |.call {callee:=.builtin .max, ..}=>(match aT C mA f H slots t o with
  |some (.val v u)=>aX (FJ v) λv=>cq (.val v u)
  |_=>fZ)
 |.call {callee:=.builtin .min, ..}=>(match aT C mA f H slots t o with
  |some (.val v u)=>aX (FJ v) λv=>cq (.val v u)
  |_=>fZ)
 | .binOp .add ty x y _=>(match cg C slots x,cg C slots y with
  |some (.t (.str a)),some (.t (.str b))=>aX (M9 (r8 C.P .add ty x y (.t (.str a)) (.t (.str b)))) λv=>cq (.val v [])
  |_,_=>(match aT C mA f H slots t o with
   |some (.val v u)=>aX (FJ v) λv=>cq (.val v u)
   |_=>fZ))
 |.binOp .sub _ _ _ _=>(match aT C mA f H slots t o with
  |some (.val v u)=>aX (FJ v) λv=>cq (.val v u)
  |_=>fZ)
 |.binOp .mul _ _ _ _=>(match aT C mA f H slots t o with
  |some (.val v u)=>aX (FJ v) λv=>cq (.val v u)
  |_=>fZ)
 |.binOp .quo _ _ _ _=>(match aT C mA f H slots t o with
  |some (.val v u)=>aX (FJ v) λv=>cq (.val v u)
  |_=>fZ)
 |.binOp .shr _ _ _ _=>(match aT C mA f H slots t o with
  |some (.val v u)=>aX (FJ v) λv=>cq (.val v u)
  |_=>fZ)
 |.convert _ _ _=>(match aT C mA f H slots t o with
  |some (.val v u)=>aX (FJ v) λv=>cq (.val v u)
  |_=>fZ)
 |.binOp .neq ty x y _=>(match cg C slots x,cg C slots y with
  |some (.t (.agg a)),some (.t (.agg b))=>aX (M9 (r8 C.P .neq ty x y (.t (.agg a)) (.t (.agg b)))) λv=>cq (.val v [])
  |_,_=>nA (aT C mA f H slots t o))
 |.binOp .eql ty x y _=>(match cg C slots x,cg C slots y with
  |some (.t (.agg a)),some (.t (.agg b))=>aX (M9 (r8 C.P .eql ty x y (.t (.agg a)) (.t (.agg b)))) λv=>cq (.val v [])
  |_,_=>nA (aT C mA f H slots t o))
 |_=>nA (aT C mA f H slots t o)
theorem KS (H:Heap)(slots:List TV)(t:Nat)(o:Oper):cr ev (O4 C f H slots t o) (aT C ev f H slots t o):=by
 unfold O4;split
 ·rename_i fo args ats ho;unfold aT;rw[ho];simp only;split
  ·rename_i g akb hc;rw[hc];exact KQ _ _ _ _ _
  ·exact cr.no
 ·rename_i fo nm args ats ho;unfold aT;rw[ho];simp only;split
  ·rename_i g akb hc;rw[hc];exact KQ _ _ _ _ _
  ·exact cr.no
 ·rename_i c a b ho;split
  ·rename_i x u v h1 h2 h3;refine cr.of_eq (cr.bind (y:=λc=>some (.val (if c then u else v) [])) (DV x) λc _=>cr.ret _) ?_;unfold aT;rw[ho];simp only[evalOp,ho,h1,h2,h3];rfl
  ·exact cr.no
 ·rename_i ty x i ho;split
  ·rename_i a b h1 h2;refine cr.of_eq (CL (D7 C.P H ty a b)) ?_;unfold aT;rw[ho];simp only[evalOp,ho,h1,h2];rfl
  ·exact cr.no
 ·rename_i ty x i ho;split
  ·rename_i a b h1 h2;refine cr.of_eq (CL (Q7 C.P ty a b)) ?_;unfold aT;rw[ho];simp only[evalOp,ho,h1,h2];rfl
  ·exact cr.no
 ·rename_i ty a ho;split
  ·rename_i x h1;refine cr.of_eq (CL (T9 C.P H ty x)) ?_;unfold aT;rw[ho];simp only[evalOp,ho,h1];rfl
  ·exact cr.no
 ·rename_i ty a x ho;split
  ·rename_i u v h1 h2;refine cr.of_eq (cr.bind (y:=λq=>some (.val bS q)) (Q0 C.P H ty u v) λq _=>cr.ret _) ?_;unfold aT;rw[ho];simp only[evalOp,ho,h1,h2,x4];cases storeT C.P H ty u v<;>rfl
  ·exact cr.no
 ·rename_i s x i ho;split
  ·rename_i a h1;refine MP.bind (P:=λv=>∃off,iw C.P s i=some off/\qo H a off=some v) ?_ λv hv=>MP.ret ?_
   ·unfold D5;split
    ·rename_i off h2;exact(MP.O1 (Nd H a off)).mono λv hv=>⟨off,h2,hv⟩
    ·exact MP.no
   ·obtain⟨off,h2,h3⟩:=hv;unfold iw at h2;split at h2<;>try (simp at h2;done)
    rename_i ti BL;split at h2<;>try (simp at h2;done)
    rename_i fs hfs;split at h2<;>try (simp at h2;done)
    rename_i fd hfd;split at h2<;>try (simp at h2;done)
    rename_i tf SB;split at h2<;>try (simp at h2;done)
    rename_i hz;simp at h2;subst h2;unfold aT;rw[ho];simp only[evalOp,ho,h1,BL,hfs,hfd,SB,if_neg hz,h3,zi,Option.map_some]
  ·exact cr.no
 ·rename_i ty x lo hi mx ho;split
  ·rename_i v l h m h1 h2 h3 h4;refine cr.of_eq (Ni (o.dst.any (C.jN f)) C.P H (.loc [t]) ty v l h m) ?_;unfold aT Bf;rw[ho];simp only[evalOp,ho,h1,h2,h3,h4];cases xZ (o.dst.any (C.jN f)) C.P H (.loc [t]) ty v l h m with
   |some r=>rfl
   | none=>
     simp only
     cases qq C.P H ty v l h m<;>rfl
  ·exact cr.no
 ·rename_i ty x k ok ho;split
  ·rename_i a b h1 h2;refine cr.of_eq (CL (Uc C.P H ty a b ok)) ?_;unfold aT;rw[ho];simp only[evalOp,ho,h1,h2];rfl
  ·exact cr.no
 ·rename_i ty x k v ho;split
  ·rename_i a b c h1 h2 h3;refine cr.of_eq (cr.bind (y:=λq=>some (.val bS q)) (Ye C.P H ty a b c) λq _=>cr.ret _) ?_;unfold aT;rw[ho];simp only[evalOp,ho,h1,h2,h3,x4];cases jg C.P H ty a b c<;>rfl
  ·exact cr.no
 ·rename_i ty x k ho;split
  ·rename_i a b h1 h2;refine cr.of_eq (Yc C.P H ty a b) ?_;unfold aT;rw[ho];simp only[evalOp,ho,h1,h2];cases lz C.P H ty a b<;>rfl
  ·exact cr.no
 ·rename_i ty x s v ho;split
  ·rename_i a b c h1 h2 h3;refine cr.of_eq (cr.bind (y:=λq=>some (.val bS q)) (Yd H a b c) λq _=>cr.ret _) ?_;unfold aT;rw[ho];simp only[evalOp,ho,h1,h2,h3,x4];cases jc H a b c<;>rfl
  ·exact cr.no
 ·rename_i args ats ho;split
  ·rename_i a b ta tb ha hta;split
   ·rename_i x y hx hy;refine cr.of_eq (cr.bind (y:=λp=>some (.val p.1 p.2)) (Yg C (.loc [t]) H ta tb x y) λp _=>cr.ret _) ?_;unfold aT;rw[ho];have h1:iU C slots args.toList=some [x,y]:=by rw[ha];simp only[iU,hx,hy]
    have h2:kR C (.loc [t]) H .append [ta,tb] [x,y]=jM C.P (.loc [t]) H ta tb x y:=by delta kR;rfl
    simp only[evalOp,ho,h1,hta,h2];cases jM C.P (.loc [t]) H ta tb x y<;>rfl
   ·exact cr.no
  ·exact cr.no
 ·rename_i args ats ho;split
  ·rename_i a ta ha hta;split
   ·rename_i k off len hx;refine cr.of_eq Uj ?_;unfold aT;rw[ho];have h1:iU C slots args.toList=some [.ref k off len]:=by rw[ha];simp only[iU,hx]
    have h2:kR C (.loc [t]) H .clear [ta] [.ref k off len]=yq C.P H ta (.ref k off len):=by delta kR;rfl
    simp only[evalOp,ho,h1,hta,h2];cases yq C.P H ta (.ref k off len)<;>rfl
   ·exact cr.no
  ·exact cr.no
 ·rename_i akb ats ho;have e:aT C mA f H slots t o=aT C ev f H slots t o:=by
   unfold aT;rw[ho]
  split
  ·rename_i v u h;refine cr.of_eq (cr.bind (y:=λv=>some (.val v u)) (ox v) λc _=>cr.ret _) ?_;rw[← e,h];rfl
  ·exact cr.no
 ·rename_i akb ats ho;have e:aT C mA f H slots t o=aT C ev f H slots t o:=by
   unfold aT;rw[ho]
  split
  ·rename_i v u h;refine cr.of_eq (cr.bind (y:=λv=>some (.val v u)) (ox v) λc _=>cr.ret _) ?_;rw[← e,h];rfl
  ·exact cr.no
 ·rename_i ty x y r2 ho;have e:aT C mA f H slots t o=aT C ev f H slots t o:=by
   unfold aT;rw[ho]
  split
  ·rename_i a b h1 h2;refine cr.of_eq (cr.bind (y:=λv=>some (.val v [])) zQ λv _=>cr.ret _) ?_;unfold aT;rw[ho];simp only[evalOp,ho,h1,h2,zi];cases r8 C.P .add ty x y (.t (.str a)) (.t (.str b))<;>rfl
  ·split
   ·rename_i v u h;refine cr.of_eq (cr.bind (y:=λv=>some (.val v u)) (ox v) λc _=>cr.ret _) ?_;rw[← e,h];rfl
   ·exact cr.no
 ·rename_i ty x y r2 ho;have e:aT C mA f H slots t o=aT C ev f H slots t o:=by
   unfold aT;rw[ho]
  split
  ·rename_i v u h;refine cr.of_eq (cr.bind (y:=λv=>some (.val v u)) (ox v) λc _=>cr.ret _) ?_;rw[← e,h];rfl
  ·exact cr.no
 ·rename_i ty x y r2 ho;have e:aT C mA f H slots t o=aT C ev f H slots t o:=by
   unfold aT;rw[ho]
  split
  ·rename_i v u h;refine cr.of_eq (cr.bind (y:=λv=>some (.val v u)) (ox v) λc _=>cr.ret _) ?_;rw[← e,h];rfl
  ·exact cr.no
 ·rename_i ty x y r2 ho;have e:aT C mA f H slots t o=aT C ev f H slots t o:=by
   unfold aT;rw[ho]
  split
  ·rename_i v u h;refine cr.of_eq (cr.bind (y:=λv=>some (.val v u)) (ox v) λc _=>cr.ret _) ?_;rw[← e,h];rfl
  ·exact cr.no
 ·rename_i ty x y r2 ho;have e:aT C mA f H slots t o=aT C ev f H slots t o:=by
   unfold aT;rw[ho]
  split
  ·rename_i v u h;refine cr.of_eq (cr.bind (y:=λv=>some (.val v u)) (ox v) λc _=>cr.ret _) ?_;rw[← e,h];rfl
  ·exact cr.no
 ·rename_i ty x y ho;have e:aT C mA f H slots t o=aT C ev f H slots t o:=by
   unfold aT;rw[ho]
  split
  ·rename_i v u h;refine cr.of_eq (cr.bind (y:=λv=>some (.val v u)) (ox v) λc _=>cr.ret _) ?_;rw[← e,h];rfl
  ·exact cr.no
 ·rename_i ty x y r2 ho;split
  ·rename_i a b h1 h2;refine cr.of_eq (cr.bind (y:=λv=>some (.val v [])) zQ λv _=>cr.ret _) ?_;unfold aT;rw[ho];simp only[evalOp,ho,h1,h2,zi];cases r8 C.P .neq ty x y (.t (.agg a)) (.t (.agg b))<;>rfl
  ·have e:aT C mA f H slots t o=aT C ev f H slots t o:=by
    unfold aT;rw[ho]
   rw[← e];exact cr.opt _
 ·rename_i ty x y r2 ho;split
  ·rename_i a b h1 h2;refine cr.of_eq (cr.bind (y:=λv=>some (.val v [])) zQ λv _=>cr.ret _) ?_;unfold aT;rw[ho];simp only[evalOp,ho,h1,h2,zi];cases r8 C.P .eql ty x y (.t (.agg a)) (.t (.agg b))<;>rfl
  ·have e:aT C mA f H slots t o=aT C ev f H slots t o:=by
    unfold aT;rw[ho]
   rw[← e];exact cr.opt _
 ·rename_i h1 h2 h3 h4 h5 h6 h7 h8 h9 h10 h11 h12 h13 h14 h15 h16 h17 h18 h19 h20 h21 h22 h23 h24 h25;have e:aT C mA f H slots t o=aT C ev f H slots t o:=by
   unfold aT;split
   ·rfl
   ·rename_i fo args ats ho;exact absurd ho (h1 fo args ats)
   ·rename_i r nm args ats ho;exact absurd ho (h2 r nm args ats)
   ·rfl
  rw[← e];exact cr.opt _
def Yj (C:cE)(f:FuncId)(ops:Array Oper):List Oper->St->M (aK×St)
 | [],st=>cq (.normal,st)
 | o::r,st=>aX (CJ ops st.slots o) λw=>match w with
  |false=>Yj C f ops r {st with slots:=cU st.slots o.dst bS,tick:=st.tick+1}
  |true=>aX (O4 C f st.H st.slots st.tick o) λres=>match res with
   |.val v u=>Yj C f ops r {slots:=cU st.slots o.dst v,H:=st.H.dX u,tick:=st.tick+1}
   |.panic v u l=>cq (.panic v,{st with H:=(st.H.tU l).dX u,tick:=st.tick+1})
theorem IQ (ops:Array Oper):∀(l:List Oper) (st:St),cr ev (Yj C f ops l st) (Ch C ev f ops l st)
 | [],st=>cr.ret _
 | o ::r,st=>by
   refine cr.of_eq (cr.bind (y:=λw=>match w with
     |false=>Ch C ev f ops r {st with slots:=cU st.slots o.dst bS,tick:=st.tick+1}
     | true=>(aT C ev f st.H st.slots st.tick o).bind λres=>match res with
       |.val v u=>Ch C ev f ops r {slots:=cU st.slots o.dst v,H:=st.H.dX u,tick:=st.tick+1}
       |.panic v u l=>some (.panic v,{st with H:=(st.H.tU l).dX u,tick:=st.tick+1})) (DW ops st.slots o) λw _=> ?_) ?_
   · cases w with
     |false=>exact IQ ops r _
     | true=>
       refine cr.bind (KS st.H st.slots st.tick o) λres _=> ?_
       cases res with
       |val v u=>exact IQ ops r _
       |panic v u l=>exact cr.ret _
   · rw[ Ch]
     cases dH ops st.slots o with
     |none=>rfl
     | some w=>
       cases w with
       |false=>rfl
       | true=>
         show(aT C ev f st.H st.slots st.tick o).bind _=_
         cases aT C ev f st.H st.slots st.tick o with
         |none=>rfl
         |some res=>cases res<;>rfl
def Uk (bs:List Nat)(i:Nat):Option Nat->Bool
 |some j=>fB bs j i
 |none=>false
def KT (C:cE)(ev:aW)(f:FuncId)(ops:Array Oper)(t0 i:Nat)(o:Oper)(s:tN)(tO:Option Nat):Option Rec:=
 (dH ops s.slots o).bind λw=>match w with
  |false=>some ⟨[],.unwanted⟩
  | true=>(Mr C s.H s.slots o).bind λfp=>(aT C ev f (lW s.H fp) s.slots (t0+i) o).bind λres=>match res with
   |.val v u=>some ⟨fp,.val v u⟩
   |.panic v u l=>match tO with
    |some _=>none
    |none=>some ⟨fp,.panic v u l⟩
theorem abB (ops:Array Oper)(bs:List Nat)(t0 i:Nat)(o:Oper)(s:tN)(tO:Option Nat):Sk C ev f ops bs t0 i o s tO=bif Uk bs i tO then some ⟨[],.w5⟩ else KT C ev f ops t0 i o s tO:=by
 unfold Sk KT;simp only[ur,DJ];have e:(match dH ops s.slots o with
  |none=>none
  |some false=>some ⟨[],.unwanted⟩
  | some true=>
   match Mr C s.H s.slots o with
   |none=>none
   | some fp=>
    match aT C ev f (lW s.H fp) s.slots (t0+i) o with
    |none=>none
    |some (.val v u)=>some ⟨fp,.val v u⟩
    |some (.panic v u l)=>match tO with
     |some _=>none
     |none=>some ⟨fp,.panic v u l⟩:Option Rec)=KT C ev f ops t0 i o s tO:=by
  unfold KT
  cases dH ops s.slots o with
  |none=>rfl
  | some w=>
   cases w with
   |false=>rfl
   | true=>
    simp only[Option.bind_some]
    cases Mr C s.H s.slots o with
    |none=>rfl
    |some fp=>
     simp only[Option.bind_some]
     cases aT C ev f (lW s.H fp) s.slots (t0+i) o with
     |none=>rfl
     |some res=>cases res<;>rfl
 unfold KT at e;cases tO with
 |none=>exact e
 |some j=>
  show(match fB bs j i with|true=>_|false=>_)=bif fB bs j i then _ else _
  cases fB bs j i with
  |true=>rfl
  |false=>exact e
def fpO (C:cE)(H:Heap)(slots:List TV)(o:Oper):M (List Nm):=match o.op with
 |.call {callee:=.value fo,args,argTypes}=>(match lV C slots {callee:=.value fo,args,argTypes} with
  |some (_,akb)=>wC H eB [] (TV.iV akb)
  |none=>fZ)
 |.call {callee:=.invoke recv name,args,argTypes}=>(match cg C slots recv,iU C slots args.toList with
  |some v,some akb=>wC H eB [] (v.names++TV.iV akb)
  |_,_=>fZ)
 |_=>nA (Mr C H slots o)
theorem ad5 {H:Heap}{slots:List TV}{o:Oper}:MP ev (fpO C H slots o) λfp=>Mr C H slots o=some fp:=by
 unfold fpO;split
 ·rename_i fo args ats ho;split
  ·rename_i g akb hc;refine(s5 _ _ _).mono λS hS=> ?_
   unfold Mr;rw[ho];simp only[hc];exact hS.1
  ·exact MP.no
 ·rename_i recv name args ats ho;split
  ·rename_i v akb h1 h2;refine(s5 _ _ _).mono λS hS=> ?_
   unfold Mr;rw[ho];simp only[h1,h2];exact hS.1
  ·exact MP.no
 ·exact MP.O1 (cr.opt _)
def abC (C:cE)(f:FuncId)(ops:Array Oper)(bs:List Nat)(t0 i:Nat)(o:Oper)(s:tN)(tO:Option Nat):M Rec:=
 match Uk bs i tO with
 |true=>cq ⟨[],.w5⟩
 |false=>aX (CJ ops s.slots o) λw=>match w with
  |false=>cq ⟨[],.unwanted⟩
  | true=>aX (fpO C s.H s.slots o) λfp=>aX (O4 C f (lW s.H fp) s.slots (t0+i) o) λres=>match res with
    |.val v u=>cq ⟨fp,.val v u⟩
    |.panic v u l=>match tO with
     |some _=>fZ
     |none=>cq ⟨fp,.panic v u l⟩
theorem Yk (ops:Array Oper)(bs:List Nat)(t0 i:Nat)(o:Oper)(s:tN)(tO:Option Nat):cr ev (abC C f ops bs t0 i o s tO) (Sk C ev f ops bs t0 i o s tO):=by
 rw[abB];unfold abC;cases Uk bs i tO with
 |true=>exact cr.ret _
 | false=>
  refine cr.bind (DW ops s.slots o) λw _=> ?_
  cases w with
  |false=>exact cr.ret _
  | true=>
   simp only
   refine cr.bind ad5 λfp _=> ?_
   refine cr.bind (KS _ _ _ _) λres _=> ?_
   cases res with
   |val v u=>exact cr.ret _
   |panic v u l=>
    cases tO with
    |none=>exact cr.ret _
    |some _=>exact cr.no
def Ul (C:cE)(f:FuncId)(ops:Array Oper)(bs:List Nat)(t0:Nat):Nat->List Oper->tN->Option Nat->M (List Rec)
 |_,[],_,_=>cq []
 |i,o::r,s,tO=>aX (abC C f ops bs t0 i o s tO) λrec=>aX (Ul C f ops bs t0 (i+1) r (s.after o rec.res) (jW i tO rec.res)) λrs=>cq (rec::rs)
theorem KU (ops:Array Oper)(bs:List Nat)(t0:Nat):∀(l:List Oper) (i:Nat) (s:tN) (tO:Option Nat),cr ev (Ul C f ops bs t0 i l s tO) (yw C ev f ops bs t0 i l s tO)
 | [],i,s,tO=>cr.ret _
 | o::r,i,s,tO=>by
  refine cr.of_eq (cr.bind (Yk ops bs t0 i o s tO) λrec _=>cr.bind (y:=λrs=>some (rec::rs)) (KU ops bs t0 r (i+1) (s.after o rec.res) (jW i tO rec.res)) λrs _=>cr.ret _) ?_
  rw[yw]
  cases Sk C ev f ops bs t0 i o s tO with
  |none=>rfl
  |some rec=>
   simp only[Option.bind_some]
   cases yw C ev f ops bs t0 (i+1) r (s.after o rec.res) (jW i tO rec.res)<;>rfl
noncomputable def Nk (C:cE)(ops:Array Oper)(st:St)(recs:List Rec)(i:Nat)(x:Oper)(rx ry:Rec):Option Prop:=match x.op with
 | .lookup t m k ok=>(match rx.fp,rx.res,ry.res with
  | [nm],.val v [],.val _ [(nm',.map es _)]=>if nm=nm' then(match cg C (jd (x.looksAt ops) 0 (fP ops.toList recs (s0 st) (λ_=>true) i).slots) m,cg C (jd (x.looksAt ops) 0 (fP ops.toList recs (s0 st) (λ_=>true) i).slots) k with
   |some (.map n2),some kv=>if n2=nm then some (B3 C.P t es kv ok=some v) else none
   |_,_=>none) else none
  |_,_,_=>none)
 |_=>none
theorem Q9 {st:St}{ops:Array Oper}{recs:List Rec}{i:Nat}{x:Oper}{rx ry:Rec}{p:Prop}(h:Nk C ops st recs i x rx ry=some p)(hp:p):SZ C ev f ops st recs i x rx ry:=by
 unfold Nk at h;split at h
 ·rename_i t m k ok hx;split at h
  ·rename_i nm v w nm' es c h1 h2 h3;split at h
   ·rename_i hn;subst hn;split at h
    ·rename_i n2 kv h4 h5;split at h
     ·rename_i hn2;subst hn2;cases h;refine⟨_,_,_,_,h1,h2,h3, ?_⟩;have hg:Heap.get [(n2,aO.map es c)] n2=some (.map es c):=if_pos rfl;unfold aT;rw[hx];simp only[evalOp,hx,h4,h5,Ua hg,hp,zi,Option.map_some]
     ·cases h
    ·cases h
   ·cases h
  ·cases h
 ·cases h
noncomputable def Um (C:cE)(ops:Array Oper)(st:St)(recs:List Rec)(bs:List Nat)(i j:Nat):M Unit:=match ops.toList[i]?,ops.toList[j]?,recs[i]?,recs[j]? with
 | some x,some y,some rx,some ry=>(match fB bs i j||r9 ops x y rx ry with
  |true=>cq ()
  |false=>(match jX ops x y,Nk C ops st recs i x rx ry with
   |true,some p=>DU p
   |_,_=>fZ))
 |_,_,_,_=>cq ()
noncomputable def Un (C:cE)(ops:Array Oper)(st:St)(recs:List Rec)(bs:List Nat):Nat->Nat->M Unit
 |0,_=>cq ()
 |i+1,j=>aX (Um C ops st recs bs i j) λ_=>Un C ops st recs bs i j
noncomputable def Uo (C:cE)(ops:Array Oper)(st:St)(recs:List Rec)(bs:List Nat):Nat->M Unit
 |0=>cq ()
 |j+1=>aX (Un C ops st recs bs j j) λ_=>Uo C ops st recs bs j
def Nl (C:cE)(ev:aW)(f:FuncId)(ops:Array Oper)(st:St)(recs:List Rec)(i j:Nat):Prop:=∀(x y:Oper) (rx ry:Rec),ops.toList[i]?=some x->ops.toList[j]?=some y->recs[i]?=some rx->recs[j]?=some ry->
 fB (jH ops.toList []) i j=true\/r9 ops x y rx ry=true\/(jX ops x y=true/\SZ C ev f ops st recs i x rx ry)
theorem Up {ops:Array Oper}{st:St}{recs:List Rec}{i j:Nat}:MP ev (Um C ops st recs (jH ops.toList []) i j) λ_=>Nl C ev f ops st recs i j:=by
 unfold Um;split
 ·rename_i x y rx ry h1 h2 h3 h4;split
  ·rename_i hb;refine MP.ret λx' y' rx' ry' e1 e2 e3 e4=> ?_
   rw[h1] at e1;rw[h2] at e2;rw[h3] at e3;rw[h4] at e4;cases e1;cases e2;cases e3;cases e4;exact(Bool.or_eq_true _ _▸hb).imp (λh=>h) .inl
  ·split
   ·rename_i p hs hp;refine p0.mono λ_ hpp x' y' rx' ry' e1 e2 e3 e4=> ?_
    rw[h1] at e1;rw[h2] at e2;rw[h3] at e3;rw[h4] at e4;cases e1;cases e2;cases e3;cases e4;exact .inr (.inr ⟨hs,Q9 hp hpp⟩)
   ·exact MP.no
 ·rename_i hn;exact MP.ret λx y rx ry e1 e2 e3 e4=>absurd e4 (hn x y rx ry e1 e2 e3)
theorem KV {ops:Array Oper}{st:St}{recs:List Rec}{j:Nat}:∀(n:Nat),MP ev (Un C ops st recs (jH ops.toList []) n j) λ_=>∀i,i<n->Nl C ev f ops st recs i j
 |0=>MP.ret λi hi=>by omega
 | n +1=>MP.bind Up λ_ h1=>(KV n).mono λ_ h2 i hi=>by
   rcases Nat.lt_or_ge i n with h|h
   · exact h2 i h
   · have:i=n:=by omega
     subst this;exact h1
theorem KW {ops:Array Oper}{st:St}{recs:List Rec}:∀(n:Nat),MP ev (Uo C ops st recs (jH ops.toList []) n) λ_=>∀j,j<n->∀i,i<j->Nl C ev f ops st recs i j
 |0=>MP.ret λj hj=>by omega
 | n +1=>MP.bind (KV n) λ_ h1=>(KW n).mono λ_ h2 j hj=>by
   rcases Nat.lt_or_ge j n with h|h
   · exact h2 j h
   · have:j=n:=by omega
     subst this;exact h1
noncomputable def KX (C:cE)(f:FuncId)(ops:Array Oper)(st:St):M (aK×St):=
 aX (Ul C f ops (jH ops.toList []) st.tick 0 ops.toList {slots:=st.slots,H:=st.H} none) λrecs=>match qv 0 ops.toList with
  |true=>(match jx ops ops.toList recs (jH ops.toList []) ops.toList recs 0 with
   |true=>cq (QG ops st recs)
   |false=>aX (Uo C ops st recs (jH ops.toList []) ops.size) λ_=>cq (QG ops st recs))
  |false=>fZ
theorem Nn (hm:C.P.prog.follows .mixedOrders=true)(aC:aI C ev){ops:Array Oper}{st:St}{id:Nat}:MP ev (KX C f ops st) λp=>∀Q,Q p.1 p.2->AW C (.region id ops true) st Q:=
 MP.bind (MP.O1 (KU _ _ _ _ _ _ _)) λrecs Gu=>by
  split
  ·rename_i hb;split
   ·rename_i hf;exact MP.ret λQ hq G0 w0 G w a h0 hs hst=>yG hm aC Gu (λi j x y rx ry hij hx hy yF S0=>(Ib hf hij hx hy yF S0).imp (λh=>h) .inl) hb rfl hst λex a' w' hg=>⟨_,_,hq,Good.comp hs rfl hg⟩
   ·refine MP.bind (KW ops.size) λ_ hf=>MP.ret λQ hq G0 w0 G w a h0 hs hst=>yG hm aC Gu (λi j x y rx ry hij hx hy yF S0=>hf j (by
     have:=(List.getElem?_eq_some_iff.1 hy).1;simpa using this) i hij x y rx ry hx hy yF S0) hb rfl hst λex a' w' hg=>⟨_,_,hq,Good.comp hs rfl hg⟩
  ·exact MP.no
def O5 (C:cE)(f:FuncId):Code->St->M (aK×St)
 |.skip,st=>cq (.normal,st)
 |.label _,st=>cq (.normal,st)
 |.region _ ops draw,st=>match draw with
  |true=>KX C f ops st
  |false=>Yj C f ops ops.toList st
 |.exit id,st=>cq (.exit id,st)
 |.ret,st=>cq (.ret,st)
 |_,_=>fZ
theorem Yl (hm:C.P.prog.follows .mixedOrders=true)(aC:aI C ev):∀(c:Code) (st:St),MP ev (O5 C f c st) λp=>∀Q,Q p.1 p.2->AW C c st Q:=by
 have ev':∀{c:Code} {st:St} {m:M (aK×St)},cr ev m (evalCode C ev f 0 c st)->MP ev m λp=>∀Q,Q p.1 p.2->AW C c st Q:=λh=>(MP.O1 h).mono λp hp Q hq=>AW.eval hm aC hp hq
 intro c st;cases c with
 |skip=>exact ev' (cr.ret _)
 |label l=>exact ev' (cr.ret _)
 |region id ops draw=>
  cases draw with
  |true=>exact Nn hm aC
  |false=>exact ev' (IQ ops ops.toList st)
 |exit id=>exact ev' (cr.ret _)
 |ret=>exact ev' (cr.ret _)
 |_=>exact MP.no
theorem wD {P:Program}{c:Code}{R R':Exit->Act->World->Prop}(h:∀ex a w,R ex a w->R' ex a w):∀(n:Nat) {a:Act} {w:World},Code.rounds P c R n a w->Code.rounds P c R' n a w
 |0,_,_,h0=>h0
 |n+1,a,w,h1=>by
  rw[rounds_succ] at h1 ⊢
  refine wp_mono h1 λex a' w' hx=> ?_
  cases ex<;>first|exact wD h n hx|exact h _ _ _ hx
def JG (C:cE)(b:Code)(n:Nat)(st:St)(Q:aK->St->Prop):Prop:=∀(G0:Gh) (w0:World) (G:Gh) (w:World) (a a1:Act),(∀p,¬G0.dom (.loc p))->dz G0 w0 G w->a1.defers=a.defers->vG C G w st a1->
 Code.rounds C.P b (λex a' w'=>∃e st',Q e st'/\Good C G0 w0 a e st' ex a' w') n a1 w
theorem JG.mono {b:Code}{n:Nat}{st:St}{Q Q':aK->St->Prop}(h:JG C b n st Q)(k:∀e s,Q e s->Q' e s):JG C b n st Q':=λG0 w0 G w a a1 h0 hs hd hst=>wD (λ_ _ _ ⟨e,s,hq,hg⟩=>⟨e,s,k e s hq,hg⟩) n (h G0 w0 G w a a1 h0 hs hd hst)
theorem JG.loop {b:Code}{n:Nat}{st:St}{Q:aK->St->Prop}(h:JG C b n st Q):AW C (.loop b) st Q:=λG0 w0 G w a h0 hs hst=>wp_loop_rounds n (h G0 w0 G w a a h0 hs rfl hst)
def ad6 (C:cE)(b:Code)(n:Nat)(Q:aK->St->Prop):aK->St->Prop
 |.normal,s=>JG C b n s Q
 |e,s=>Q e s
theorem JG.succ {b:Code}{n:Nat}{st:St}{Q:aK->St->Prop}(h:AW C b st (ad6 C b n Q)):JG C b (n+1) st Q:=by
 intro G0 w0 G w a a1 h0 hs hd hst;rw[rounds_succ];refine wp_mono (h G0 w0 G w a1 h0 hs hst) λex a2 w2 ⟨e,st1,hq,hg⟩=> ?_
 cases e with
 |normal=>
  obtain⟨rfl,hd2,G1,hs1,j5⟩:=hg.qA
  exact hq G0 w0 G1 w2 a a2 h0 hs1 (hd2.trans hd) j5
 |exit id=>exact gL (hg.gK (by simp)) ⟨_,_,hq,Good.FD hd hg⟩
 |ret=>exact gL (hg.gK (by simp)) ⟨_,_,hq,Good.FD hd hg⟩
 |panic v=>exact gL (hg.gK (by simp)) ⟨_,_,hq,Good.FD hd hg⟩
inductive Fr where
 |c (x:Code)
 |b (id:Nat)
 |x (b:Code) (n:Nat)
def KE (C:cE)(Q:aK->St->Prop):List Fr->aK->St->Prop
 | [],e,s=>Q e s
 |.c x::K,.normal,s=>AW C x s (KE C Q K)
 |.c _::K,.exit i,s=>KE C Q K (.exit i) s
 |.c _::K,.ret,s=>KE C Q K .ret s
 |.c _::K,.panic v,s=>KE C Q K (.panic v) s
 |.b id::K,.exit i,s=>if i=id then KE C Q K .normal s else KE C Q K (.exit i) s
 |.b _::K,.normal,s=>KE C Q K .normal s
 |.b _::K,.ret,s=>KE C Q K .ret s
 |.b _::K,.panic v,s=>KE C Q K (.panic v) s
 |.x b n::K,.normal,s=>JG C b n s (KE C Q K)
 |.x _ _::K,.exit i,s=>KE C Q K (.exit i) s
 |.x _ _::K,.ret,s=>KE C Q K .ret s
 |.x _ _::K,.panic v,s=>KE C Q K (.panic v) s
theorem KE.seq {Q:aK->St->Prop}{a b:Code}{K:List Fr}{s:St}(h:KE C Q (.c a:: .c b::K) .normal s):KE C Q (.c (.seq a b)::K) .normal s:=by
 refine AW.seq (AW.mono h λe s' h=> ?_);cases e with
 |normal=>exact h
 |_=>exact h
theorem KE.block {Q:aK->St->Prop}{id:Nat}{x:Code}{K:List Fr}{s:St}(h:KE C Q (.c x:: .b id::K) .normal s):KE C Q (.c (.block id x)::K) .normal s:=by
 refine AW.block (AW.mono h λe s' h=> ?_);cases e with
 |exit i=>exact h
 |_=>exact h
theorem KE.cond {Q:aK->St->Prop}{c:Operand}{a b:Code}{K:List Fr}{s:St}{q:Bool}(hc:cg C s.slots c=some (.t (.bool q)))(h:KE C Q (.c (cond q a b)::K) .normal s):KE C Q (.c (.cond c a b)::K) .normal s:=by
 cases q with
 |true=>exact AW.cond hc (λ_=>h) λe=>by cases e
 |false=>exact AW.cond hc (λe=>by cases e) λ_=>h
theorem KE.round {Q:aK->St->Prop}{b:Code}{n:Nat}{K:List Fr}{s:St}(h:KE C Q (.c b:: .x b n::K) .normal s):JG C b (n+1) s (KE C Q K):=JG.succ (AW.mono h λe s' h=>by cases e<;>exact h)
theorem KE.rounds {Q:aK->St->Prop}{b:Code}{n:Nat}{K:List Fr}{s:St}(h:KE C Q (.x b n::K) .normal s):KE C Q (.c (.loop b)::K) .normal s:=JG.loop h
def uE:Code->Option Nat
 |.seq a b=>(uE a).or (uE b)
 |.cond _ a b=>(uE a).or (uE b)
 |.block _ c=>uE c
 |.loop c=>uE c
 |.region id _ _=>some id
 |_=>none
def isIn (l:List Nat):Option Nat->Bool
 |some r=>l.any (Nat.beq r)
 |none=>false
def goK (C:cE)(f:FuncId)(once:List Nat)(stop:Nat):Nat->List Fr->aK->St->M (List Fr×aK×St)
 |0,_,_,_=>fZ
 |_+1,[],e,s=>cq ([],e,s)
 | n+1,.x b i::K,e,s=>match e with
  |.normal=>(match i with
   |0=>fZ
   |i+1=>goK C f once stop n (.c b:: .x b i::K) .normal s)
  |e=>goK C f once stop n K e s
 | n+1,.b id::K,e,s=>match e with
  |.exit i=>(match Nat.beq i id with
   |true=>goK C f once stop n K .normal s
   |false=>goK C f once stop n K (.exit i) s)
  |e=>goK C f once stop n K e s
 | n+1,.c x::K,e,s=>match e with
  | .normal=>(match x with
   |.seq a b=>goK C f once stop n (.c a:: .c b::K) .normal s
   |.block id x=>goK C f once stop n (.c x:: .b id::K) .normal s
   |.loop x=>(match isIn once (uE x) with
    |true=>goK C f once stop n (.x x 40::K) .normal s
    |false=>cq (.c (.loop x)::K,.normal,s))
   |.cond c a b=>(match cg C s.slots c with
    |some (.t (.bool q))=>aX (TT q) λq=>goK C f once stop n (.c (cond q a b)::K) .normal s
    |_=>fZ)
   |.region id ops d=>(match Nat.beq id stop with
    |true=>cq (.c (.region id ops d)::K,.normal,s)
    |false=>aX (O5 C f (.region id ops d) s) λp=>goK C f once stop n K p.1 p.2)
   |x=>aX (O5 C f x s) λp=>goK C f once stop n K p.1 p.2)
  |e=>goK C f once stop n K e s
theorem uF (hm:C.P.prog.follows .mixedOrders=true)(aC:aI C ev){once:List Nat}{stop:Nat}:∀(n:Nat) (K:List Fr) (e:aK) (s:St),MP ev (goK C f once stop n K e s) λp=>∀Q,KE C Q p.1 p.2.1 p.2.2->KE C Q K e s:=by
 intro n;induction n with
 |zero=>intro K e s;exact MP.no
 | succ n ih =>
   intro K e s
   have code:∀(x:Code) (K:List Fr),MP ev (aX (O5 C f x s) λp=>goK C f once stop n K p.1 p.2) λp=>∀Q,KE C Q p.1 p.2.1 p.2.2->KE C Q (.c x::K) .normal s:=λx K=>
     MP.bind (Yl hm aC x s) λp hx=>(ih K p.1 p.2).mono λq hq Q hk=>hx _ (hq Q hk)
   cases K with
   |nil=>exact MP.ret λQ h=>h
   | cons fr K=>
     cases fr with
     | x b i=>
       cases e with
       | normal=>
         cases i with
         |zero=>exact MP.no
         |succ i=>exact(ih (.c b:: .x b i::K) .normal s).mono λq hq Q hk=>KE.round (hq Q hk)
       |exit i=>exact ih K (.exit i) s
       |ret=>exact ih K .ret s
       |panic v=>exact ih K (.panic v) s
     | b id=>
       cases e with
       | exit i=>
         cases hb:Nat.beq i id with
         | true=>
           simp only[goK,hb]
           refine(ih K .normal s).mono λq hq Q hk=> ?_
           show if i=id then _ else _
           rw[if_pos (Nat.eq_of_beq_eq_true hb)]
           exact hq Q hk
         | false=>
           simp only[goK,hb]
           refine(ih K (.exit i) s).mono λq hq Q hk=> ?_
           show if i=id then _ else _
           rw[if_neg (Nat.ne_of_beq_eq_false hb)]
           exact hq Q hk
       |normal=>exact ih K .normal s
       |ret=>exact ih K .ret s
       |panic v=>exact ih K (.panic v) s
     | c x =>
       cases e with
       |exit i=>exact ih K (.exit i) s
       |ret=>exact ih K .ret s
       |panic v=>exact ih K (.panic v) s
       | normal=>
         cases x with
         |seq a b=>exact(ih (.c a:: .c b::K) .normal s).mono λq hq Q hk=>KE.seq (hq Q hk)
         |block id x=>exact(ih (.c x:: .b id::K) .normal s).mono λq hq Q hk=>KE.block (hq Q hk)
         | loop x=>
           simp only[goK]
           split
           · exact(ih (.x x 40::K) .normal s).mono λq hq Q hk=>KE.rounds (hq Q hk)
           · exact MP.ret λQ h=>h
         | cond c a b=>
           simp only[goK]
           split
           · rename_i q hc
             refine MP.bind (MP.O1 (DV q)) λq' hq'=>(ih (.c (cond q' a b)::K) .normal s).mono λr hr Q hk=> ?_
             cases hq'
             exact KE.cond hc (hr Q hk)
           · exact MP.no
         | region id ops d=>
           simp only[goK]
           split
           · exact MP.ret λQ h=>h
           · exact code _ _
         |skip=>exact code .skip K
         |rangeFunc a b c d=>exact code (.rangeFunc a b c d) K
         |exit i=>exact code (.exit i) K
         |scope b=>exact code (.scope b) K
         |label l=>exact code (.label l) K
         |goto l=>exact code (.goto l) K
         |ret=>exact code .ret K
         |refuse w=>exact code (.refuse w) K
end ops
abbrev Ob (ev:aW):={c:Cl // c.holds ev}
def rq {α:Type}:Nat->α->List α->List α
 |0,_,l=>l
 |n+1,a,l=>a::rq n a l
abbrev vals {ev:aW}(l:List (Ob ev)):List Cl:=l.map (·.1)
section obs
variable {ev:aW}
abbrev oT:Ob ev:=⟨.b true true,rfl⟩
abbrev oF:Ob ev:=⟨.b false false,rfl⟩
abbrev oB {x c:Bool}(h:x=c):Ob ev:=⟨.b x c,h⟩
abbrev oC {g:FuncId}{akb:List TV}{os:List aO}{x:bk}(h:ev g akb os=some x):Ob ev:=⟨.r g akb os x,h⟩
abbrev oE {l:List Tree}{i:Nat}{x:Tree}(h:l[i]?=some x):Ob ev:=⟨.e l i x,h⟩
abbrev oV {x y:TV}(h:x=y):Ob ev:=⟨.v x y,h⟩
abbrev oN {o:aO}(h:∀σ,o.rn σ=some o):Ob ev:=⟨.n o,h⟩
theorem nC (l:List (Ob ev)):∀c∈vals l,c.holds ev:=λc hc=>by
 obtain⟨o,_,rfl⟩:=List.mem_map.1 hc;exact o.2
abbrev oU (ag:Bool)(sz:Nat)(es:List Tree)(h:dU ag sz es)(hn:es≠ []):Ob ev:=⟨.u ag sz es,h,hn⟩
abbrev oW (ag:Bool)(sz:Nat)(fs:List Tree)(h:dU ag sz fs):Ob ev:=⟨.w ag sz fs fs.length ((flat fs).map .t),rfl,rfl,h⟩
abbrev oA (a:Nat)(h:a<=70368744177664):Ob ev:=⟨.l a eP,h⟩
abbrev oZ:Ob ev:=⟨.z,trivial⟩
abbrev oQ (l:List Tree):Ob ev:=⟨.pp (((flat l).map TV.t).length=((flat l).map TV.t).length),rfl⟩
abbrev oP {p:Prop}(h:p):Ob ev:=⟨.pp p,h⟩
abbrev oO {x:Option TV}{v:TV}(h:x=some v):Ob ev:=⟨.po x v,h⟩
abbrev oK {x y:List TV}(h:x=y):Ob ev:=⟨.pc x y,h⟩
abbrev oM {x:Option (List (TV×TV×Nat)×Nat)}{y:List (TV×TV×Nat)}{c:Nat}(h:x=some (y,c)):Ob ev:=⟨.pm x y c,h⟩
abbrev oX (ag:Bool)(sz:Nat)(fs:List Tree)(len:Nat)(hl:len=fs.length)(h:dU ag sz fs):Ob ev:=⟨.w ag sz fs len ((flat fs).map .t),rfl,hl,h⟩
abbrev oH {l:List Tree}{i:Nat}{x:Tree}(h:l[i]?=some x):Ob ev:=⟨.l (i+1) l.length,(List.getElem?_eq_some_iff.1 h).1⟩
abbrev Mm (a b:Nat)(h:a+b<9223372036854775808):Ob ev:=⟨.v (.t (.int .i64 (IntKind.i64.wrap ((a:Int)+(b:Int))))) (.t (.int .i64 ((a+b:Nat):Int))),by
 show TV.t _=TV.t _;rw[wrap64 (by omega) (by omega)];rfl⟩
abbrev oJ {x:Option (TV×List (TV×TV×Nat)×Nat)}{v:TV}{y:List (TV×TV×Nat)}{c:Nat}(h:x=some (v,y,c)):Ob ev:=⟨.pe x v y c,h⟩
abbrev oR (a b:Nat)(h:a<=b):Ob ev:=⟨.l a b,h⟩
theorem B4 {sz:Nat}{es:List Tree}{i j m:Nat}{e:Tree}(hu:∀e∈es,e.cells.length=sz)(he:es[i]?=some e)(hj:j+m<=sz):i*sz+j+m<=((flat es).map TV.t).length:=by
 have hi:i<es.length:=(List.getElem?_eq_some_iff.1 he).1;rw[List.length_map,ff hu];have:(i+1) *sz<=es.length*sz:=Nat.mul_le_mul_right _ hi;rw[Nat.succ_mul] at this;omega
abbrev oS (n:Nat)(h:1<=n)(h2:n<9223372036854775807):Ob ev:=⟨.v (.t (.int .i64 (IntKind.i64.wrap ((n:Int) - 1)))) (.t (.int .i64 ((n - 1:Nat):Int))),by
 show TV.t _=TV.t _;rw[wrap64 (by omega) (by omega),show((n - 1:Nat):Int)=(n:Int) - 1 by omega]⟩
abbrev oG (k:IntKind)(a b:Int):Ob ev:=⟨.v (.t (.int k (if b>a then b else a))) (.t (.int k (max a b))),by
 show TV.t _=TV.t _;rw[show(if b>a then b else a)=max a b from by rw[Int.max_def];split<;>split<;>omega]⟩
abbrev oL (k:IntKind)(a b:Int):Ob ev:=⟨.v (.t (.int k (if b<a then b else a))) (.t (.int k (min a b))),by
 show TV.t _=TV.t _;rw[show(if b<a then b else a)=min a b from by rw[Int.min_def];split<;>split<;>omega]⟩
abbrev oI (n:Nat)(h:n<9223372036854775807):Ob ev:=⟨.v (.t (.int .i64 (IntKind.i64.wrap ((n:Int)+1)))) (.t (.int .i64 ((n+1:Nat):Int))),by
 show TV.t _=TV.t _;rw[wrap64 (by omega) (by omega)];rfl⟩
end obs
def O6 (S:List Nm)(slots:List TV):List Nat->Option (List (Nat×TV))
 | []=>some []
 | i::r=>match slots[i]?,O6 S slots r with
  |some v,some l=>(match v.rn (Kj S) with
   |some v=>some ((i,v)::l)
   |none=>none)
  |_,_=>none
def O7 (S:List Nm)(H:Heap):List Nm->M Heap
 | []=>cq []
 |k::r=>match H.get k,Kj S k with
  |some o,some k'=>aX (rnO (Kj S) o) λo=>aX (O7 S H r) λh=>cq ((k',o)::h)
  |_,_=>fZ
def B5 (n:Nat)(S ks:List Nm)(live:List Nat)(T:Nat)(s:St):M St:=
 match Nat.beq s.slots.length n&&S.all Nm.dS&&decide S.Nodup&&S.all (λk=>(s.H.get k).isSome)&&Nat.ble S.length T,O6 S s.slots live with
 |true,some sp=>aX (O7 S s.H ks) λH=>cq ⟨ei n sp,H,T⟩
 |_,_=>fZ
section norm
variable {ev:aW}{C:cE}
theorem KY {S:List Nm}{slots:List TV}:∀{live:List Nat} {sp:List (Nat×TV)},O6 S slots live=some sp->∀i,look sp i=.any\/∃v,slots[i]?=some v/\v.rn (Kj S)=some (look sp i)
 | [],sp,h,i=>by cases h;exact .inl rfl
 | j ::r,sp,h,i=>by
   simp only[O6] at h
   split at h
   · rename_i v l h1 h2
     split at h
     · rename_i v' h3
       cases h
       rw[nu]
       by_cases e:i=j
       · subst e;rw[if_pos rfl];exact .inr ⟨v,h1,h3⟩
       · rw[if_neg e];exact KY h2 i
     · cases h
   · cases h
theorem KZ {S:List Nm}{H:Heap}:∀{ks:List Nm},MP ev (O7 S H ks) λH'=>DA (Kj S) H H'
 | []=>MP.ret trivial
 | k ::r=>by
   simp only[O7]
   split
   · rename_i o k' h1 h2
     exact MP.bind Na λo' ho=>MP.bind (KZ (ks:=r)) λh hh=>MP.ret ⟨⟨k,o,h1,h2,.inl ho⟩,hh⟩
   · exact MP.no
theorem O8 {σ:Nm->Option Nm}:∀{xs ys:List TV},xs.length=ys.length->(∀(i:Nat) (y:TV),ys[i]?=some y->y=TV.any\/∃x:TV,xs[i]?=some x/\x.rn σ=some y)->q8 σ xs ys
 | [],[],_,_=>trivial
 | x ::xs,y::ys,hl,h=>by
   refine⟨?_,O8 (by simpa using hl) λi y hy=> ?_⟩
   · rcases h 0 y rfl with e|⟨x',e1,e2⟩
     · exact .inl e
     · cases e1;exact .inr e2
   · rcases h (i+1) y (by simpa using hy) with e|⟨x',e1,e2⟩
     · exact .inl e
     · exact .inr ⟨x',by simpa using e1,e2⟩
 | [],_::_,hl,_=>by simp at hl
 |_::_,[],hl,_=>by simp at hl
theorem s6 {n:Nat}{S ks:List Nm}{live:List Nat}{T:Nat}{s:St}:MP ev (B5 n S ks live T s) λs2=>Re C s s2:=by
 unfold B5;split
 ·rename_i sp hb hs;refine MP.bind KZ λH' h1=>MP.ret ?_
  simp only[Bool.and_eq_true] at hb;obtain⟨⟨⟨⟨b1,b2⟩,b3⟩,b4⟩,b5⟩:=hb;have hn:=Nat.eq_of_beq_eq_true b1;obtain⟨slots,H,t⟩:=s;refine Re.mk S (O8 (by rw[eS];exact hn) λi y hy=> ?_) h1 (of_decide_eq_true b3) b2 (λk hk=>List.all_eq_true.1 b4 k hk) (Nat.le_of_ble_eq_true b5);have hi:i<n:=by have:=(List.getElem?_eq_some_iff.1 hy).1;simpa [eS] using this
  rw[mB hi] at hy;cases hy;exact KY hs i
 ·exact MP.no
end norm
section rules
variable {ev:aW}{C:cE}{f:FuncId}{R:Type}
theorem AX.frames {c:Code}{st:St}{Q:R->aK->St->Prop}(h:∃r,KE C (Q r) [.c c] .normal st):AX C c st Q:=h.imp λ_ h=>AW.mono h λ_ _ h=>h
def abD (H:Heap)(v:TV):M (TV×List Nm):=match Iz v with
 |true=>aX (QZ H fL v) λp=>cq (.t p.1,p.2)
 |false=>cq (match pQ H fL v with
  |some (x,ks)=>(.t x,ks)
  |none=>(v,[]))
theorem Ym {H:Heap}{v:TV}:MP ev (abD H v) λp=>(∃x ks,pQ H fL v=some (x,ks)/\p=(.t x,ks))\/(pQ H fL v=none/\p=(v,[])):=by
 unfold abD;split
 ·exact MP.bind (IJ H fL v) λp hp=>MP.ret (.inl ⟨p.1,p.2,hp,rfl⟩)
 ·refine MP.ret ?_;cases h:pQ H fL v with
  |none=>exact .inr ⟨rfl,rfl⟩
  |some q=>exact .inl ⟨q.1,q.2,rfl,rfl⟩
def CM (C:cE)(fn:Func)(n:Nat)(st:St):M bk:=
 match iP C st fn.results.toList with
 |none=>fZ
 |some vs=>aX (abD st.H (u7 vs)) λp=>match nj (st.H.dX (cT st.H p.2)) 0 n with
  |none=>fZ
  |some os=>aX (IL os) λl=>aX (wC (st.H.dX (cT st.H p.2)) eB [] (p.1.names++l)) λR=>nA ((jY (st.H.dX (cT st.H p.2)) R).map λh=>.ret p.1 os h)
theorem GG {fn:Func}{n:Nat}{st:St}:MP ev (CM C fn n st) λr=>finish C fn n st=some r:=by
 unfold CM;split
 ·exact MP.no
 ·rename_i vs hv;refine MP.bind Ym λp hp=> ?_
  split
  ·exact MP.no
  ·rename_i os ho;refine MP.bind DZ λl hl=>MP.bind (s5 _ _ _) λR hR=>(MP.O1 (cr.opt _)).mono λr hr=> ?_
   have h1:=hR.1;rw[← hl] at h1;unfold finish;rcases hp with ⟨x,ks,h2,rfl⟩|⟨h2,rfl⟩
   ·simp only at ho h1 hr;simp only[hv,h2,ho,h1];exact hr
   ·simp only at ho h1 hr;simp only[hv,h2,ho,h1];exact hr
def Ra (C:cE)(fn:Func)(m:Nat)(p:List Fr×aK×St):M bk:=match p with
 |([],.normal,s)=>CM C fn m s
 |([],.ret,s)=>CM C fn m s
 |([],.panic v,s)=>(match v.names.any Nm.dS with
  |false=>cq (.panic v (pV s.H 0 m))
  |true=>fZ)
 |_=>fZ
theorem Yn {fn:Func}{m:Nat}{p:List Fr×aK×St}:MP ev (Ra C fn m p) λr=>KE C (Ks C fn m r) p.1 p.2.1 p.2.2:=by
 unfold Ra;split
 ·exact GG.mono λr h=>.inl h
 ·exact GG.mono λr h=>.inl h
 ·split
  ·rename_i hv;exact MP.ret ⟨hv,rfl⟩
  ·exact MP.no
 ·exact MP.no
theorem ad7 (hm:C.P.prog.follows .mixedOrders=true)(aC:aI C ev){fn:Func}{once:List Nat}{m n:Nat}{r:bk}{K:List Fr}{e:aK}{s:St}(obs:List (Ob ev))(h:aX (goK C f once 100000 n K e s) (Ra C fn m) (vals obs)=some (r,[],vals obs)):KE C (Ks C fn m r) K e s:=
 MP.bind (uF hm aC n K e s) (λp hp=>Yn.mono λr hr=>hp _ hr) _ _ _ _ h (nC obs)
def D8 (n:Nat)(S ks:List Nm)(live:List Nat)(T:Nat)(p:List Fr×aK×St):M St:=match p with
 |([],.normal,s)=>B5 n S ks live T s
 |_=>fZ
theorem Rb {n T:Nat}{S ks:List Nm}{live:List Nat}{p:List Fr×aK×St}:MP ev (D8 n S ks live T p) λs2=>KE C (λe s=>e=.normal/\Re C s s2) p.1 p.2.1 p.2.2:=by
 unfold D8;split
 ·exact s6.mono λs2 h=>⟨rfl,h⟩
 ·exact MP.no
theorem Uq (hm:C.P.prog.follows .mixedOrders=true)(aC:aI C ev){once:List Nat}{n k T:Nat}{S ks:List Nm}{live:List Nat}{s2:St}{K:List Fr}{e:aK}{s:St}(obs:List (Ob ev))(h:aX (goK C f once 100000 n K e s) (D8 k S ks live T) (vals obs)=some (s2,[],vals obs)):
 KE C (λe s=>e=.normal/\Re C s s2) K e s:=
 MP.bind (uF hm aC n K e s) (λp hp=>Rb.mono λr hr=>hp _ hr) _ _ _ _ h (nC obs)
def B6 (p:Code->Bool):Code->List Fr->Option (Code×List Fr)
 |.seq a b,K=>(B6 p a (.c b::K)).or (B6 p b K)
 |.cond _ a b,K=>(B6 p a K).or (B6 p b K)
 |.block id c,K=>B6 p c (.b id::K)
 |.loop c,K=>match p (.loop c) with
  |true=>some (c,K)
  |false=>B6 p c []
 |x,K=>match p x with
  |true=>some (x,K)
  |false=>none
def Yo (r:Nat):Code->Bool
 |.loop c=>match uE c with
  |some i=>Nat.beq i r
  |none=>false
 |_=>false
def ad8 (r:Nat):Code->Bool
 |.region id _ _=>Nat.beq id r
 |_=>false
def qD (B:Code)(r:Nat):Code×List Fr:=(B6 (Yo r) B []).getD (.skip,[])
def ad9 (B:Code)(r:Nat):Code×List Fr:=(B6 (ad8 r) B []).getD (.skip,[])
def O9 (n:Nat)(S ks:List Nm)(live:List Nat)(T:Nat)(p:List Fr×aK×St):M ((Code×List Fr)×St):=match p with
 |(.c (.loop b)::K,.normal,s)=>aX (B5 n S ks live T s) λs=>cq ((b,K),s)
 |_=>fZ
theorem Ur {n T:Nat}{S ks:List Nm}{live:List Nat}{p:List Fr×aK×St}:MP ev (O9 n S ks live T p) λq=>∃s,p=(.c (.loop q.1.1)::q.1.2,.normal,s)/\Re C s q.2:=by
 unfold O9;split
 ·exact MP.bind s6 λs2 h=>MP.ret ⟨_,rfl,h⟩
 ·exact MP.no
theorem aea (hm:C.P.prog.follows .mixedOrders=true)(aC:aI C ev){α:Type}(st:α->St)(ok:α->Prop)(μ:α->Nat)(x0:α){once:List Nat}{n k T:Nat}{S ks:List Nm}{live:List Nat}{K:List Fr}{e:aK}{s:St}{Q:R->aK->St->Prop}(L:Code×List Fr)(obs:List (Ob ev))
 (h:aX (goK C f once 100000 n K e s) (O9 k S ks live T) (vals obs)=some ((L,st x0),[],vals obs))(h0:ok x0)
 (hs:∀x,ok x->∃o,KE C (uy C st (λy=>ok y/\μ y<μ x) (λr=>KE C (Q r) L.2) o) [.c L.1] .normal (st x)):∃r,KE C (Q r) K e s:=by
 have key:∃p:List Fr×aK×St,(∀Q,KE C Q p.1 p.2.1 p.2.2->KE C Q K e s)/\∃s,p=(.c (.loop L.1)::L.2,.normal,s)/\Re C s (st x0):=
  MP.bind (uF hm aC n K e s) (λp hp=>Ur.mono λq hq=>show ∃p:List Fr×aK×St,(∀Q,KE C Q p.1 p.2.1 p.2.2->KE C Q K e s)/\∃s,p=(.c (.loop q.1.1)::q.1.2,.normal,s)/\Re C s q.2 from⟨p,hp,hq⟩) _ _ _ _ h (nC obs)
 obtain⟨p,hp,s',rfl,FE⟩:=key
 obtain⟨r,hr⟩:=AX.loop (C:=C) (Q:=λr=>KE C (Q r) L.2) st ok μ x0 FE h0 λx hx=>AX.frames (hs x hx)
 exact⟨r,hp _ hr⟩
abbrev GoR:=Option ((List Fr×aK×St)×List Cl×List Cl)
def exOf (r:GoR):aK:=match r with
 |some ((_,e,_),_,_)=>e
 |none=>.normal
def stOf (r:GoR):St:=match r with
 |some ((_,_,s),_,_)=>s
 |none=>⟨[],[],0⟩
def Pb (r:GoR):Option (List Cl×List Cl):=match r with
 |some (([],.exit _,_),c,e)=>some (c,e)
 |some (([],.ret,_),c,e)=>some (c,e)
 |some (([],.panic _,_),c,e)=>some (c,e)
 |_=>none
theorem aeb (hm:C.P.prog.follows .mixedOrders=true)(aC:aI C ev){α:Type}{st:α->St}{P:α->Prop}{Q:R->aK->St->Prop}{once:List Nat}{n:Nat}{K:List Fr}{e:aK}{s:St}(obs:List (Ob ev))(h:Pb (goK C f once 100000 n K e s (vals obs))=some ([],vals obs))
 (k:∃r,Q r (exOf (goK C f once 100000 n K e s (vals obs))) (stOf (goK C f once 100000 n K e s (vals obs)))):∃o,KE C (uy C st P Q o) K e s:=by
 have hv:=nC obs
 obtain⟨r,hr⟩:=k
 refine⟨.inr r, ?_⟩
 cases hg:goK C f once 100000 n K e s (vals obs) with
 |none=>rw[hg] at h;cases h
 | some q=>
  obtain⟨⟨K',e',s'⟩,c,em⟩:=q
  rw[hg] at h hr
  cases K' with
  |cons=>cases h
  |nil=>
   cases e' with
   |normal=>cases h
   |exit i=>cases h;exact uF hm aC _ _ _ _ _ _ _ _ hg hv _ hr
   |ret=>cases h;exact uF hm aC _ _ _ _ _ _ _ _ hg hv _ hr
   |panic v=>cases h;exact uF hm aC _ _ _ _ _ _ _ _ hg hv _ hr
def atO (n:Nat)(S ks:List Nm)(live:List Nat)(T:Nat)(p:List Fr×aK×St):M ((Code×List Fr)×St):=match p with
 |(.c x::K,.normal,s)=>aX (B5 n S ks live T s) λs=>cq ((x,K),s)
 |_=>fZ
theorem abE {n T:Nat}{S ks:List Nm}{live:List Nat}{p:List Fr×aK×St}:MP ev (atO n S ks live T p) λq=>∃s,p=(.c q.1.1::q.1.2,.normal,s)/\Re C s q.2:=by
 unfold atO;split
 ·exact MP.bind s6 λs2 h=>MP.ret ⟨_,rfl,h⟩
 ·exact MP.no
theorem Xl (hm:C.P.prog.follows .mixedOrders=true)(aC:aI C ev)(B:Code)(stop:Nat){once:List Nat}{n k T:Nat}{S ks:List Nm}{live:List Nat}{K:List Fr}{e:aK}{s:St}{Q:R->aK->St->Prop}{x:Code}{K':List Fr}(hL:ad9 B stop=(x,K'))(s2:St)(obs:List (Ob ev))
 (h:aX (goK C f once stop n K e s) (atO k S ks live T) (vals obs)=some ((ad9 B stop,s2),[],vals obs))(k:AX C x s2 λr=>KE C (Q r) K'):∃r,KE C (Q r) K e s:=by
 rw[hL] at h
 have key:∃p:List Fr×aK×St,(∀Q,KE C Q p.1 p.2.1 p.2.2->KE C Q K e s)/\∃s,p=(.c x::K',.normal,s)/\Re C s s2:=
  MP.bind (uF hm aC n K e s) (λp hp=>abE.mono λq hq=>show ∃p:List Fr×aK×St,(∀Q,KE C Q p.1 p.2.1 p.2.2->KE C Q K e s)/\∃s,p=(.c q.1.1::q.1.2,.normal,s)/\Re C s q.2 from⟨p,hp,hq⟩) _ _ _ _ h (nC obs)
 obtain⟨p,hp,s',rfl,FE⟩:=key
 obtain⟨r,hr⟩:=k
 exact⟨r,hp _ (AW.re FE hr)⟩
def abF (n:Nat)(S ks:List Nm)(live:List Nat)(T:Nat)(p:List Fr×aK×St):M (aK×St):=match p with
 |([],.normal,s)=>aX (B5 n S ks live T s) λs=>cq (.normal,s)
 |([],.ret,s)=>aX (B5 n S ks live T s) λs=>cq (.ret,s)
 |_=>fZ
theorem Yp {n T:Nat}{S ks:List Nm}{live:List Nat}{p:List Fr×aK×St}:MP ev (abF n S ks live T p) λq=>(q.1=.normal\/q.1=.ret)/\∃s,p=([],q.1,s)/\Re C s q.2:=by
 unfold abF;split
 ·exact MP.bind s6 λs2 h=>MP.ret ⟨.inl rfl,_,rfl,h⟩
 ·exact MP.bind s6 λs2 h=>MP.ret ⟨.inr rfl,_,rfl,h⟩
 ·exact MP.no
def Mn (C:cE)(Q:aK->St->Prop):aK->St->Prop:=λe s=>Q e s\/((e=.normal\/e=.ret\/∃i,e=.exit i)/\∃s2,Re C s s2/\Q e s2)
theorem Pc {Q:aK->St->Prop}{G0:Gh}{w0 w':World}{a a':Act}{ex:Exit}(h0:∀p,¬G0.dom (.loc p)):(∃e st',Mn C Q e st'/\Good C G0 w0 a e st' ex a' w')->∃e st',Q e st'/\Good C G0 w0 a e st' ex a' w':=by
 rintro ⟨e,st',hq,hg⟩;rcases hq with hq|⟨he,s2,FE,hq⟩
 ·exact⟨e,st',hq,hg⟩
 ·rcases he with rfl|rfl|⟨i,rfl⟩
  ·obtain⟨G1,hs1,hd,e1,j5⟩:=hg;obtain⟨G2,hs2,FC⟩:=FE G0 w0 G1 w' a' h0 hs1 j5;exact⟨.normal,s2,hq,G2,hs2,hd,e1,FC⟩
  ·obtain⟨G1,hs1,hd,e1,j5⟩:=hg;obtain⟨G2,hs2,FC⟩:=FE G0 w0 G1 w' a' h0 hs1 j5;exact⟨.ret,s2,hq,G2,hs2,hd,e1,FC⟩
  ·obtain⟨G1,hs1,hd,e1,j5⟩:=hg;obtain⟨G2,hs2,FC⟩:=FE G0 w0 G1 w' a' h0 hs1 j5;exact⟨.exit i,s2,hq,G2,hs2,hd,e1,FC⟩
theorem AW.oy {c:Code}{st:St}{Q:aK->St->Prop}(h:AW C c st (Mn C Q)):AW C c st Q:=λG0 w0 G w a h0 hs hst=>wp_mono (h G0 w0 G w a h0 hs hst) λex a' w' hp=>Pc h0 hp
theorem JG.oy {b:Code}{n:Nat}{st:St}{Q:aK->St->Prop}(h:JG C b n st (Mn C Q)):JG C b n st Q:=λG0 w0 G w a a1 h0 hs hd hst=>wD (λ_ _ _ hp=>Pc h0 hp) n (h G0 w0 G w a a1 h0 hs hd hst)
theorem KE.zT {Q:aK->St->Prop}:∀{K:List Fr} {e:aK} {s:St},KE C (Mn C Q) K e s->Mn C (KE C Q K) e s
 | [],_,_,h=>h
 |.c x::K,.normal,s,h=>.inl (AW.oy (AW.mono h λ_ _ h=>KE.zT h))
 |.c _::K,.exit i,s,h=>KE.zT (K:=K) h
 |.c _::K,.ret,s,h=>KE.zT (K:=K) h
 |.c _::K,.panic v,s,h=>KE.zT (K:=K) h
 | .b id::K,.exit i,s,h=>by
   by_cases e:i=id
   · have h:KE C (Mn C Q) K .normal s:=by
       have h:(if i=id then KE C (Mn C Q) K .normal s else KE C (Mn C Q) K (.exit i) s):=h
       rwa [if_pos e] at h
     rcases KE.zT h with h|⟨_,s2,FE,h⟩
     · exact .inl (show(if i=id then KE C Q K .normal s else KE C Q K (.exit i) s) by rwa [if_pos e])
     · exact .inr ⟨.inr (.inr ⟨i,rfl⟩),s2,FE,show(if i=id then KE C Q K .normal s2 else KE C Q K (.exit i) s2) by rwa [if_pos e]⟩
   · have h:KE C (Mn C Q) K (.exit i) s:=by
       have h:(if i=id then KE C (Mn C Q) K .normal s else KE C (Mn C Q) K (.exit i) s):=h
       rwa [if_neg e] at h
     rcases KE.zT h with h|⟨_,s2,FE,h⟩
     · exact .inl (show(if i=id then KE C Q K .normal s else KE C Q K (.exit i) s) by rwa [if_neg e])
     · exact .inr ⟨.inr (.inr ⟨i,rfl⟩),s2,FE,show(if i=id then KE C Q K .normal s2 else KE C Q K (.exit i) s2) by rwa [if_neg e]⟩
 |.b _::K,.normal,s,h=>KE.zT (K:=K) h
 |.b _::K,.ret,s,h=>KE.zT (K:=K) h
 |.b _::K,.panic v,s,h=>KE.zT (K:=K) h
 |.x _ _::K,.normal,s,h=>.inl (JG.oy (JG.mono h λ_ _ h=>KE.zT (K:=K) h))
 |.x _ _::K,.exit i,s,h=>KE.zT (K:=K) h
 |.x _ _::K,.ret,s,h=>KE.zT (K:=K) h
 |.x _ _::K,.panic v,s,h=>KE.zT (K:=K) h
def zU:List Fr->aK->Bool
 | [],_=>false
 |.c _::_,.normal=>true
 |.c _::K,e=>zU K e
 |.b id::K,.exit i=>if i=id then zU K .normal else zU K (.exit i)
 |.b _::K,e=>zU K e
 |.x _ _::_,.normal=>false
 |.x _ _::K,e=>zU K e
theorem KE.oy {Q:aK->St->Prop}:∀{K:List Fr} {e:aK} {s:St},zU K e=true->KE C (Mn C Q) K e s->KE C Q K e s
 | [],_,_,hd,_=>by cases hd
 |.c x::K,.normal,s,_,h=>AW.oy (AW.mono h λ_ _ h=>KE.zT h)
 |.c _::K,.exit i,s,hd,h=>KE.oy (K:=K) hd h
 |.c _::K,.ret,s,hd,h=>KE.oy (K:=K) hd h
 |.c _::K,.panic v,s,hd,h=>KE.oy (K:=K) hd h
 |.b id::K,.exit i,s,hd,h=>by
  have h:(if i=id then KE C (Mn C Q) K .normal s else KE C (Mn C Q) K (.exit i) s):=h
  have hd:(if i=id then zU K .normal else zU K (.exit i))=true:=hd
  show(if i=id then KE C Q K .normal s else KE C Q K (.exit i) s)
  by_cases e:i=id
  · rw[if_pos e] at h hd ⊢;exact KE.oy hd h
  · rw[if_neg e] at h hd ⊢;exact KE.oy hd h
 |.b _::K,.normal,s,hd,h=>KE.oy (K:=K) hd h
 |.b _::K,.ret,s,hd,h=>KE.oy (K:=K) hd h
 |.b _::K,.panic v,s,hd,h=>KE.oy (K:=K) hd h
 |.x _ _::_,.normal,_,hd,_=>by cases hd
 |.x _ _::K,.exit i,s,hd,h=>KE.oy (K:=K) hd h
 |.x _ _::K,.ret,s,hd,h=>KE.oy (K:=K) hd h
 |.x _ _::K,.panic v,s,hd,h=>KE.oy (K:=K) hd h
theorem abG (hm:C.P.prog.follows .mixedOrders=true)(aC:aI C ev){once:List Nat}{n k T:Nat}{S ks:List Nm}{live:List Nat}{K:List Fr}{e:aK}{s:St}{Q:R->aK->St->Prop}(e2:aK)(s2:St)(obs:List (Ob ev))(hd:zU K e=true)
 (h:aX (goK C f once 100000 n K e s) (abF k S ks live T) (vals obs)=some ((e2,s2),[],vals obs))(k:∃r,Q r e2 s2):∃r,KE C (Q r) K e s:=by
 have key:∀Q,Q e2 s2->KE C (Mn C Q) K e s:=
  MP.bind (uF hm aC n K e s) (λp hp=>Yp.mono λq hq=>show ∀Q:aK->St->Prop,Q q.1 q.2->KE C (Mn C Q) K e s fromλQ hk=>hp _ (by
   obtain⟨he,s',e1,FE⟩:=hq;rw[e1];exact .inr ⟨he.elim .inl λh=>.inr (.inl h),q.2,FE,hk⟩)) _ _ _ _ h (nC obs)
 exact k.imp λr hr=>KE.oy hd (key _ hr)
theorem bw (b:Bool):b=true\/b=false:=by cases b<;>simp
theorem kF (hm:C.P.prog.follows .mixedOrders=true)(aC:aI C ev){fn:Func}{m:Nat}{r:bk}{K:List Fr}{e:aK}{s:St}(obs:List (Ob ev))(h:aX (goK C 0 [] 100000 3000 K e s) (Ra C fn m) (vals obs)=some (r,[],vals obs)):KE C (Ks C fn m r) K e s:=ad7 hm aC obs h
theorem kO (hm:C.P.prog.follows .mixedOrders=true)(aC:aI C ev){α:Type}{st:α->St}{P:α->Prop}{Q:R->aK->St->Prop}{K:List Fr}{e:aK}{s:St}(obs:List (Ob ev))(h:Pb (goK C 0 [] 100000 3000 K e s (vals obs))=some ([],vals obs))
 (k:∃r,Q r (exOf (goK C 0 [] 100000 3000 K e s (vals obs))) (stOf (goK C 0 [] 100000 3000 K e s (vals obs)))):∃o,KE C (uy C st P Q o) K e s:=aeb hm aC obs h k
theorem elt (l:List Tree)(i:Nat)(h:i<l.length):∃e,l[i]?=some e:=⟨_,List.getElem?_eq_getElem h⟩
def D9:Code->List Fr->List Fr
 |.seq a b,K=>D9 a (.c b::K)
 |.block id c,K=>D9 c (.b id::K)
 |x,K=>.c x::K
theorem yO:∀(a:Code) (K:List Fr),∃x F,D9 a K=.c x::F
 |.seq a b,K=>yO a (.c b::K)
 |.block id c,K=>yO c (.b id::K)
 |.region _ _ _,_=>⟨_,_,rfl⟩
 |.cond _ _ _,_=>⟨_,_,rfl⟩
 |.loop _,_=>⟨_,_,rfl⟩
 |.rangeFunc _ _ _ _,_=>⟨_,_,rfl⟩
 |.exit _,_=>⟨_,_,rfl⟩
 |.scope _,_=>⟨_,_,rfl⟩
 |.label _,_=>⟨_,_,rfl⟩
 |.goto _,_=>⟨_,_,rfl⟩
 |.ret,_=>⟨_,_,rfl⟩
 |.refuse _,_=>⟨_,_,rfl⟩
 |.skip,_=>⟨_,_,rfl⟩
def Ea (r:Nat):Code->List Fr->Option ((Code×Code)×List Fr)
 |.seq a b,K=>match isIn [r] (uE b) with
  |true=>some ((a,b),K)
  |false=>(Ea r a (.c b::K)).or (Ea r b K)
 |.cond _ a b,K=>(Ea r a K).or (Ea r b K)
 |.block id c,K=>Ea r c (.b id::K)
 |.loop c,_=>Ea r c []
 |_,_=>none
def Yq (B:Code)(r:Nat):(Code×Code)×List Fr:=(Ea r B []).getD ((.skip,.skip),[])
theorem KE.q8 {Q Q':aK->St->Prop}{G:List Fr}(hq:∀e s,Q e s->KE C Q' G e s):∀{F:List Fr} {e:aK} {s:St},KE C Q F e s->KE C Q' (F++G) e s
 | [],e,s,h=>hq e s h
 |.c x::F,.normal,s,h=>AW.mono (show AW C x s (KE C Q F) from h) λ_ _ h=>KE.q8 hq h
 |.c _::F,.exit i,s,h=>KE.q8 hq (F:=F) h
 |.c _::F,.ret,s,h=>KE.q8 hq (F:=F) h
 |.c _::F,.panic v,s,h=>KE.q8 hq (F:=F) h
 |.b id::F,.exit i,s,h=>by
  have h:(if i=id then KE C Q F .normal s else KE C Q F (.exit i) s):=h
  show(if i=id then KE C Q' (F++G) .normal s else KE C Q' (F++G) (.exit i) s)
  by_cases e:i=id
  · rw[if_pos e] at h ⊢;exact KE.q8 hq h
  · rw[if_neg e] at h ⊢;exact KE.q8 hq h
 |.b _::F,.normal,s,h=>KE.q8 hq (F:=F) h
 |.b _::F,.ret,s,h=>KE.q8 hq (F:=F) h
 |.b _::F,.panic v,s,h=>KE.q8 hq (F:=F) h
 |.x _ _::F,.normal,s,h=>JG.mono h λ_ _ h=>KE.q8 hq (F:=F) h
 |.x _ _::F,.exit i,s,h=>KE.q8 hq (F:=F) h
 |.x _ _::F,.ret,s,h=>KE.q8 hq (F:=F) h
 |.x _ _::F,.panic v,s,h=>KE.q8 hq (F:=F) h
def Us (n:Nat)(S ks:List Nm)(live:List Nat)(T:Nat)(p:List Fr×aK×St):M (List Fr×St):=match p with
 |(K,.normal,s)=>aX (B5 n S ks live T s) λs=>cq (K,s)
 |_=>fZ
theorem Ut {n T:Nat}{S ks:List Nm}{live:List Nat}{p:List Fr×aK×St}:MP ev (Us n S ks live T p) λq=>∃s,p=(q.1,.normal,s)/\Re C s q.2:=by
 unfold Us;split
 ·exact MP.bind s6 λs2 h=>MP.ret ⟨_,rfl,h⟩
 ·exact MP.no
theorem Pd (hm:C.P.prog.follows .mixedOrders=true)(aC:aI C ev){α:Type}(st:α->St)(ok:α->Prop)(stop:Nat){once:List Nat}{n k T:Nat}{S ks:List Nm}{live:List Nat}{K:List Fr}{e:aK}{s:St}{Q:R->aK->St->Prop}(L:(Code×Code)×List Fr)(s0:St)(obs:List (Ob ev))
 (h:aX (goK C f once stop n K e s) (Us k S ks live T) (vals obs)=some ((D9 L.1.1 []++ .c L.1.2::L.2,s0),[],vals obs))
 (h1:∃o,KE C (uy C st ok (λr=>KE C (Q r) (.c L.1.2::L.2)) o) (D9 L.1.1 []) .normal s0)
 (h2:∀x,ok x->∃r,KE C (Q r) (.c L.1.2::L.2) .normal (st x)):∃r,KE C (Q r) K e s:=by
 have key:∃p:List Fr×aK×St,(∀Q,KE C Q p.1 p.2.1 p.2.2->KE C Q K e s)/\∃s,p=(D9 L.1.1 []++ .c L.1.2::L.2,.normal,s)/\Re C s s0:=
  MP.bind (uF hm aC n K e s) (λp hp=>Ut.mono λq hq=>show ∃p:List Fr×aK×St,(∀Q,KE C Q p.1 p.2.1 p.2.2->KE C Q K e s)/\∃s,p=(q.1,.normal,s)/\Re C s q.2 from⟨p,hp,hq⟩) _ _ _ _ h (nC obs)
 obtain⟨p,hp,s',rfl,FE⟩:=key
 have fin:∃r,KE C (Q r) (D9 L.1.1 []++ .c L.1.2::L.2) .normal s0:=by
  obtain⟨o,ho⟩:=h1;cases o with
  |inl y=>
   obtain⟨r,hr⟩:=h2 y.1 y.2
   refine⟨r,KE.q8 (λe s hq=> ?_) ho⟩
   obtain⟨rfl,FE⟩:=hq
   exact AW.re FE hr
  |inr r=>
   refine⟨r,KE.q8 (λe s hq=> ?_) ho⟩
   cases e with
   |normal=>exact False.elim hq
   |exit i=>exact hq
   |ret=>exact hq
   |panic v=>exact hq
 obtain⟨r,hr⟩:=fin
 refine⟨r,hp _ ?_⟩
 obtain⟨x,F,hF⟩:=yO L.1.1 []
 rw[hF] at hr ⊢
 exact AW.re FE hr
end rules
attribute [irreducible] goK KE stOf exOf
end Go.Abs
noncomputable section
namespace Go.Abs
open Go
open Classical in
def iK {α:Type}(A:α->List TV×List aO)(P:α->Prop)(R:α->bk):List TV->List aO->Option bk:=λa o=>if h:∃x,P x/\A x=(a,o) then some (R h.choose) else none
theorem dh {α:Type}{C:cE}{g:FuncId}{A:α->List TV×List aO}{P:α->Prop}{R:α->bk}(h:∀x,P x->aq C g (A x).1 (A x).2 (R x)):kJ C g (iK A P R):=λa o q hq=>by
 unfold iK at hq;split at hq
 ·rename_i hp;cases hq;have h2:=h _ hp.choose_spec.1;rw[hp.choose_spec.2] at h2;exact h2
 ·cases hq
theorem fI {α:Type}{ev:aW}{g:FuncId}{A:α->List TV×List aO}{P:α->Prop}{R:α->bk}(h:Has ev g (iK A P R))(inj:∀x y,P x->P y->A x=A y->x=y)(x:α)(hx:P x){a:List TV}{o:List aO}{r:bk}(ha:A x=(a,o))(hr:R x=r):ev g a o=some r:=by
 refine h _ _ _ ?_;have hp:∃y,P y/\A y=(a,o):=⟨x,hx,ha⟩;unfold iK;rw[dif_pos hp,inj _ x hp.choose_spec.1 hx (hp.choose_spec.2.trans ha.symm),hr]
def FK (a b:List TV->List aO->Option bk):List TV->List aO->Option bk:=λx o=>match a x o with
 |some r=>some r
 |none=>b x o
theorem CN {C:cE}{g:FuncId}{a b:List TV->List aO->Option bk}(ha:kJ C g a)(hb:kJ C g b):kJ C g (FK a b):=λx o r h=>by
 unfold FK at h;split at h
 ·rename_i r' h1;cases h;exact ha _ _ _ h1
 ·exact hb _ _ _ h
theorem xA {ev:aW}{g:FuncId}{a b:List TV->List aO->Option bk}(h:Has ev g (FK a b)):Has ev g a:=λx o r hr=>h _ _ _ (by unfold FK;rw[hr])
theorem CO {ev:aW}{g:FuncId}{a b:List TV->List aO->Option bk}(h:Has ev g (FK a b))(hd:∀x o r,b x o=some r->a x o=none):Has ev g b:=λx o r hr=>h _ _ _ (by unfold FK;rw[hd x o r hr];exact hr)
theorem GH {α β:Type}{A:α->List TV×List aO}{P:α->Prop}{R:α->bk}{A':β->List TV×List aO}{P':β->Prop}{R':β->bk}(n n':Nat)(h:∀x,(A x).2.length=n)(h':∀x,(A' x).2.length=n')(hne:n≠n'):
 ∀x o r,iK A' P' R' x o=some r->iK A P R x o=none:=λx o r hr=>by
 unfold iK at hr ⊢
 split at hr
 ·rename_i hp;obtain⟨y,_,hy⟩:=hp;refine dif_neg λ⟨z,_,hz⟩=>hne ?_
  have e1:=h z;have e2:=h' y;rw[hz] at e1;rw[hy] at e2;exact e1.symm.trans e2
 ·cases hr
theorem Rc {ag:Bool}{e f:Tree}(h1:wg e=ag)(h2:wg f=ag)(h:e.cells=f.cells):e=f:=by
 subst h1;cases e<;>cases f<;>simp_all [wg,Tree.cells]
theorem K0 {ag:Bool}{sz:Nat}(hz:0<sz):∀{es fs:List Tree},dU ag sz es->dU ag sz fs->flat es=flat fs->es=fs
 | [],[],_,_,_=>rfl
 | [],f::fs,_,hf,h=>by
  have h1:=(hf f List.mem_cons_self).1;have hl:0=(f.cells++flat fs).length:=congrArg List.length h;rw[List.length_append] at hl;omega
 |e::es,[],he,_,h=>by
  have h1:=(he e List.mem_cons_self).1
  have hl:(e.cells++flat es).length=0:=congrArg List.length h
  rw[List.length_append] at hl
  omega
 |e::es,f::fs,he,hf,h=>by
  have h1:=he e List.mem_cons_self
  have h2:=hf f List.mem_cons_self
  have h:e.cells++flat es=f.cells++flat fs:=h
  obtain⟨h3,h4⟩:=List.append_inj h (h1.1.trans h2.1.symm)
  rw[Rc h1.2.2 h2.2.2 h3,K0 hz (λx hx=>he x (List.mem_cons_of_mem _ hx)) (λx hx=>hf x (List.mem_cons_of_mem _ hx)) h4]
theorem fJ {ag:Bool}{sz:Nat}(hz:0<sz){es fs:List Tree}(he:dU ag sz es)(hf:dU ag sz fs)(h:(flat es).map TV.t=(flat fs).map TV.t):es=fs:=
 K0 hz he hf ((List.map_inj_right (λ_ _ e=>TV.t.inj e)).1 h)
def yP (k:Nat)(p:List TV×List aO):List TV:=match p.2[k]? with
 |some (.arr _ _ _ cs)=>cs
 |_=>[]
def vB (k:Nat)(p:List TV×List aO):List (TV×TV×Nat)×Nat:=match p.2[k]? with
 |some (.map es c)=>(es,c)
 |_=>([],0)
def yc (k j:Nat)(p:List TV×List aO):List Tree:=match p.2[k]? with
 |some (.cells _ cs)=>(match cs[j]? with
  |some (.t (.sl l))=>l
  |_=>[])
 |_=>[]
def IU (k:Nat)(p:List TV×List aO):Int:=match p.1[k]? with
 |some (.t (.int _ n))=>n
 |_=>0
def aec (k:Nat)(p:List TV×List aO):Tree:=match p.1[k]? with
 |some (.t (.iface _ x))=>x
 |some (.t x)=>x
 |_=>.bT
def aed (k:Nat)(p:List TV×List aO):List Tree:=match p.1[k]? with
 |some (.t (.sl l))=>l
 |_=>[]
theorem Uu {n:Nat}(h:n<9223372036854775807):TV.t (.int .u64 (IntKind.u64.wrap (n:Int)))=.t (.int .u64 (n:Int)):=by
 have:IntKind.u64.wrap (n:Int)=(n:Int):=by
  simp only[IntKind.wrap,IntKind.bits,IntKind.signed,Bool.false_and,Bool.false_eq_true,if_false];omega
 rw[this]
theorem Uv {n:Nat}(h:n<9223372036854775807):TV.t (.int .i64 (IntKind.i64.wrap (n:Int)))=.t (.int .i64 (n:Int)):=by
 rw[wrap64 (by omega) (by omega)]
theorem Pe {n:Nat}:TV.t (.int .u64 ((n:Int).fdiv 2))=.t (.int .u64 ((n / 2:Nat):Int)):=by
 rw[show(n:Int).fdiv 2=((n / 2:Nat):Int) by rw[Int.fdiv_eq_ediv_of_nonneg _ (by omega)];rfl]
def K1 (k j:Nat)(p:List TV×List aO):List UInt8:=match aec k p with
 |.agg cs=>(match cs[j]? with
  |some (.str s)=>s
  |_=>[])
 |_=>[]
theorem IV {n:Nat}(h:n<4611686018427387904):TV.t (.int .i64 (IntKind.i64.wrap ((IntKind.i64.wrap ((n:Int) - 1)).tdiv 2)))=.t (.int .i64 (((n - 1)/ 2:Nat):Int)):=by
 cases n with
 |zero=>rfl
 |succ k=>
  have e1:IntKind.i64.wrap (k:Int)=(k:Int):=wrap64 (by omega) (by omega)
  have e2:IntKind.i64.wrap ((k / 2:Nat):Int)=((k / 2:Nat):Int):=wrap64 (by omega) (by omega)
  have e3:(k:Int).tdiv 2=((k / 2:Nat):Int):=by rw[Int.tdiv_eq_ediv_of_nonneg (by omega)];rfl
  rw[show((k+1:Nat):Int) - 1=(k:Int) by omega,e1,e3,e2]
  rfl
theorem yQ {n:Nat}(h:n<4611686018427387904):TV.t (.int .i64 (IntKind.i64.wrap (2* (n:Int))))=.t (.int .i64 ((2*n:Nat):Int)):=by
 rw[wrap64 (by omega) (by omega)];rfl
theorem Rf {sz:Nat}{es:List Tree}{i:Nat}{e e':Tree}{vs:List Tree}(hu:∀e∈es,e.cells.length=sz)(he:es[i]?=some e)(hv:vs.length=sz)(hc:e'.cells=vs):cD ((flat es).map .t) (i*sz+0) (vs.map .t)=(flat (es.set i e')).map .t:=
 KJ hu he (by omega) (by
  have h:=hu e (List.mem_of_getElem? he);rw[hc,List.drop_eq_nil_of_le (by omega),List.append_nil,List.take_zero,List.nil_append])
theorem swap_perm {l:List Tree}{i j:Nat}{x y:Tree}(hx:l[i]?=some x)(hy:l[j]?=some y):((l.set i y).set j x).Perm l:=by
 obtain⟨h1,rfl⟩:=List.getElem?_eq_some_iff.1 hx;obtain⟨h2,rfl⟩:=List.getElem?_eq_some_iff.1 hy;exact List.set_set_perm h1 h2
end Go.Abs
end
