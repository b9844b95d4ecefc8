/- Whole paths by the kernel: the interpreter asks for what it cannot tell (truths, answers of calls, elements of lists), and what it was told is proved beside. -/
import Derived.Test.YtnfnihgmankidaaGreatDoorQ
set_option linter.unusedVariables false
set_option linter.unusedSimpArgs false
noncomputable section
namespace Go.Abs
open Go
inductive Cl where
 |b (x c:Bool)
 |r (g:FuncId) (akR:List TV) (os:List aK) (x:bB)
 |e (l:List Tree) (i:Nat) (x:Tree)
 |y (s:List UInt8) (i:Nat) (x:UInt8)
 |v (x y:TV)
 |n (o:aK)
 |z
 |u (ag:Bool) (sz:Nat) (es:List Tree)
 |w (ag:Bool) (sz:Nat) (fs:List Tree) (len:Nat) (cs:List TV)
 |l (a b:Nat)
 |pp (p:Prop)
 |po (x:Option TV) (v:TV)
 |pc (x y:List TV)
 |pm (x:Option (List (TV×TV×Nat)×Nat)) (y:List (TV×TV×Nat)) (c:Nat)
 |pe (x:Option (TV×List (TV×TV×Nat)×Nat)) (v:TV) (y:List (TV×TV×Nat)) (c:Nat)
def Cl.holds (ev:aT):Cl->Prop
 |.b p q=>p=q
 |.r g akR os q=>ev g akR os=some q
 |.e k i q=>k[i]?=some q
 |.y k i q=>k[i]?=some q
 |.v p q=>p=q
 |.n o=>∀σ,o.rn σ=some o
 |.z=>True
 |.u ag sz es=>ey ag sz es/\es≠ []
 |.w ag sz fs len cs=>cs=(flat fs).map TV.t/\len=fs.length/\ey ag sz fs
 |.l p q=>p<=q
 |.pp p=>p
 |.po p q=>p=some q
 |.pc p q=>p=q
 |.pm p q d=>p=some (q,d)
 |.pe p k q d=>p=some (k,q,d)
abbrev M (α:Type):=List Cl->Option (α×List Cl×List Cl)
section monad
variable {α β:Type}{ev:aT}
def bY (a:α):M α:=λcl=>some (a,cl,[])
def fG:M α:=λ_=>none
def mO (x:Option α):M α:=λcl=>match x with
 |some a=>some (a,cl,[])
 |none=>none
def aS (m:M α)(k:α->M β):M β:=λcl=>match m cl with
 |some (a,cl1,e1)=>(match k a cl1 with
  |some (b,cl2,e2)=>some (b,cl2,e1++e2)
  |none=>none)
 |none=>none
def TP (x:Bool):M Bool:=λcl=>match cl with
 |.b _ c::r=>some (c,r,[.b x c])
 |_=>none
def XP (l:List Tree)(i:Nat):M Tree:=λcl=>match cl with
 |.e _ _ x::r=>some (x,r,[.e l i x])
 |_=>none
def aa4 (s:List UInt8)(i:Nat):M UInt8:=λcl=>match cl with
 |.y _ _ x::r=>some (x,r,[.y s i x])
 |_=>none
def aa5 (g:FuncId)(akR:List TV)(os:List aK):M bB:=λcl=>match cl with
 |.r _ _ _ x::r=>some (x,r,[.r g akR os x])
 |_=>none
def Ft (v:TV):M TV:=λcl=>match cl with
 |.v _ y::r=>some (y,r,[.v v y])
 |.z::r=>some (v,r,[.z])
 |_=>none
def TQ (ag:Bool)(sz:Nat)(es:List Tree):M Bool:=λcl=>match cl with
 |.u _ _ _::r=>some (true,r,[.u ag sz es])
 |.pp _::r=>some (false,r,[.pp (es=[])])
 |_=>none
def QX (ag:Bool)(sz:Nat)(len:Nat)(cs:List TV):M (List Tree):=λcl=>match cl with
 |.w _ _ fs _ _::r=>some (fs,r,[.w ag sz fs len cs])
 |_=>none
def x9 (a b:Nat):M Unit:=λcl=>match cl with
 |.l _ _::r=>some ((),r,[.l a b])
 |_=>none
def DE (p:Prop):M Unit:=λcl=>match cl with
 |.pp _::r=>some ((),r,[.pp p])
 |_=>none
def MU (x:Option TV):M TV:=λcl=>match cl with
 |.po _ v::r=>some (v,r,[.po x v])
 |_=>none
def TR (x:List TV):M (List TV):=λcl=>match cl with
 |.pc _ y::r=>some (y,r,[.pc x y])
 |_=>none
def XQ (x:Option (List (TV×TV×Nat)×Nat)):M (List (TV×TV×Nat)×Nat):=λcl=>match cl with
 |.pm _ y c::r=>some ((y,c),r,[.pm x y c])
 |_=>none
def aa6 (x:Option (TV×List (TV×TV×Nat)×Nat)):M (TV×List (TV×TV×Nat)×Nat):=λcl=>match cl with
 |.pe _ v y c::r=>some ((v,y,c),r,[.pe x v y c])
 |_=>none
def b9 (ev:aT)(m:M α)(x:Option α):Prop:=∀cl a AA em,m cl=some (a,AA,em)->(∀c∈em,c.holds ev)->x=some a
theorem b9.ret (a:α):b9 ev (bY a) (some a):=λcl b AA em h _=>by cases h;rfl
theorem b9.no {x:Option α}:b9 ev fG x:=λcl b AA em h _=>by cases h
theorem b9.opt (x:Option α):b9 ev (mO x) x:=λcl b AA em h _=>by
 cases x with
 |none=>cases h
 |some a=>cases h;rfl
theorem b9.bind {m:M α}{x:Option α}{k:α->M β}{y:α->Option β}(hm:b9 ev m x)(hk:∀a,x=some a->b9 ev (k a) (y a)):b9 ev (aS m k) (x.bind y):=λcl b AA em h he=>by
 unfold aS at h;split at h
 ·rename_i a cl1 e1 h1;split at h
  ·rename_i b' cl2 e2 h2;cases h;have hx:=hm _ _ _ _ h1 λc hc=>he c (List.mem_append_left _ hc)
   rw[hx];exact hk a hx _ _ _ _ h2 λc hc=>he c (List.mem_append_right _ hc)
  ·cases h
 ·cases h
theorem b9.of_eq {m:M α}{x y:Option α}(h:b9 ev m x)(e:x=y):b9 ev m y:=e▸h
theorem DF (x:Bool):b9 ev (TP x) (some x):=λcl a AA em h he=>by
 unfold TP at h;split at h
 ·cases h;have:=he _ (List.mem_singleton_self _);exact congrArg some this
 ·cases h
theorem Kj (l:List Tree)(i:Nat):b9 ev (XP l i) l[i]?:=λcl a AA em h he=>by
 unfold XP at h;split at h
 ·cases h;exact he _ (List.mem_singleton_self _)
 ·cases h
theorem TS (s:List UInt8)(i:Nat):b9 ev (aa4 s i) s[i]?:=λcl a AA em h he=>by
 unfold aa4 at h;split at h
 ·cases h;exact he _ (List.mem_singleton_self _)
 ·cases h
theorem TT (g:FuncId)(akR:List TV)(os:List aK):b9 ev (aa5 g akR os) (ev g akR os):=λcl a AA em h he=>by
 unfold aa5 at h;split at h
 ·cases h;exact he _ (List.mem_singleton_self _)
 ·cases h
theorem nF (v:TV):b9 ev (Ft v) (some v):=λcl a AA em h he=>by
 unfold Ft at h;split at h
 ·cases h;have:=he _ (List.mem_singleton_self _);exact congrArg some this
 ·cases h;rfl
 ·cases h
def MP (ev:aT)(m:M α)(P:α->Prop):Prop:=∀cl a AA em,m cl=some (a,AA,em)->(∀c∈em,c.holds ev)->P a
theorem MP.ret {a:α}{P:α->Prop}(h:P a):MP ev (bY a) P:=λcl b AA em hm _=>by cases hm;exact h
theorem MP.no {P:α->Prop}:MP ev fG P:=λcl b AA em h _=>by cases h
theorem MP.OT {m:M α}{x:Option α}(h:b9 ev m x):MP ev m λa=>x=some a:=h
theorem MP.mono {m:M α}{P Q:α->Prop}(h:MP ev m P)(k:∀a,P a->Q a):MP ev m Q:=λcl a AA em hm he=>k a (h cl a AA em hm he)
theorem MP.bind {m:M α}{P:α->Prop}{k:α->M β}{Q:β->Prop}(hm:MP ev m P)(hk:∀a,P a->MP ev (k a) Q):MP ev (aS m k) Q:=λcl b AA em h he=>by
 unfold aS at h;split at h
 ·rename_i a cl1 e1 h1;split at h
  ·rename_i b' cl2 e2 h2;cases h;exact hk a (hm _ _ _ _ h1 λc hc=>he c (List.mem_append_left _ hc)) _ _ _ _ h2 λc hc=>he c (List.mem_append_right _ hc)
  ·cases h
 ·cases h
theorem TU {ag:Bool}{sz:Nat}{es:List Tree}:MP ev (TQ ag sz es) λb=>cond b (ey ag sz es/\es≠ []) (es=[]):=λcl a AA em h he=>by
 unfold TQ at h;split at h
 ·cases h;exact he _ (List.mem_singleton_self _)
 ·cases h;exact he _ (List.mem_singleton_self _)
 ·cases h
theorem Cm {ag:Bool}{sz len:Nat}{cs:List TV}:MP ev (QX ag sz len cs) λfs=>cs=(flat fs).map TV.t/\len=fs.length/\ey ag sz fs:=λcl a AA em h he=>by
 unfold QX at h;split at h
 ·cases h;exact he _ (List.mem_singleton_self _)
 ·cases h
theorem jV {x y:Nat}:MP ev (x9 x y) λ_=>x<=y:=λcl a AA em h he=>by
 unfold x9 at h;split at h
 ·cases h;exact he _ (List.mem_singleton_self _)
 ·cases h
theorem ou {p:Prop}:MP ev (DE p) λ_=>p:=λcl a AA em h he=>by
 unfold DE at h;split at h
 ·cases h;exact he _ (List.mem_singleton_self _)
 ·cases h
theorem zg {x:Option TV}:MP ev (MU x) λv=>x=some v:=λcl a AA em h he=>by
 unfold MU at h;split at h
 ·cases h;exact he _ (List.mem_singleton_self _)
 ·cases h
theorem Ih {x:List TV}:MP ev (TR x) λy=>x=y:=λcl a AA em h he=>by
 unfold TR at h;split at h
 ·cases h;exact he _ (List.mem_singleton_self _)
 ·cases h
theorem OU {x:Option (List (TV×TV×Nat)×Nat)}:MP ev (XQ x) λy=>x=some y:=λcl a AA em h he=>by
 unfold XQ at h;split at h
 ·cases h;exact he _ (List.mem_singleton_self _)
 ·cases h
theorem XR {x:Option (TV×List (TV×TV×Nat)×Nat)}:MP ev (aa6 x) λy=>x=some y:=λcl a AA em h he=>by
 unfold aa6 at h;split at h
 ·cases h;exact he _ (List.mem_singleton_self _)
 ·cases h
end monad
section ops
variable {ev:aT}{C:cE}{f:FuncId}
def Cn (ops:Array Oper)(slots:List TV)(o:Oper):M Bool:=
 match o.guard with
 |none=>bY true
 | some (j,want)=>match(ops[j]?).bind (·.dst) with
  |none=>bY false
  |some d=>match slots[d]? with
   |some (.t (.bool b))=>aS (TP b) λc=>bY (c==want)
   |some (.t (.cT []))=>bY false
   |none=>bY false
   |_=>fG
theorem DG (ops:Array Oper)(slots:List TV)(o:Oper):b9 ev (Cn ops slots o) (dF ops slots o):=by
 unfold Cn dF;cases o.guard with
 |none=>exact b9.ret _
 | some p=>
  obtain⟨j,want⟩:=p
  simp only
  cases (ops[j]?).bind (·.dst) with
  |none=>exact b9.ret _
  |some d=>
   simp only
   generalize slots[d]?=z
   split
   · exact b9.bind (x:=some _) (y:=λc=>some (c==want)) (DF _) λc _=>b9.ret _
   · exact b9.ret _
   · exact b9.ret _
   · exact b9.no
mutual
def Ii:TV->Bool
 |.ref _ _ _=>true
 |.agg cs=>hasRefs cs
 |.cT cs=>hasRefs cs
 |.iface _ v=>Ii v
 |_=>false
def hasRefs:List TV->Bool
 | []=>false
 |v::r=>Ii v||hasRefs r
end
def OV (g:TV->M (Tree×List Nm)):List TV->M (List Tree×List Nm)
 | []=>bY ([],[])
 |v::r=>aS (g v) λp=>aS (OV g r) λq=>bY (p.1::q.1,p.2++q.2)
def QY (H:Heap):Nat->TV->M (Tree×List Nm)
 |0,v=>mO (oe H 0 v)
 | n+1,v=>match v with
  |.ref k 0 len=>(match H.get k with
   |some (.arr g bx fz cs)=>if 0<bx then aS (QX g.2 bx len cs) λfs=>bY (.sl fs,[k]) else fG
   |_=>fG)
  |.agg cs=>aS (OV (QY H n) cs) λp=>bY (.agg p.1,p.2)
  |.cT cs=>aS (OV (QY H n) cs) λp=>bY (.cT p.1,p.2)
  |v=>mO (oe H (n+1) v)
theorem Ij {g:TV->M (Tree×List Nm)}{g':TV->Option (Tree×List Nm)}(h:∀v,MP ev (g v) λp=>g' v=some p):∀(l:List TV),MP ev (OV g l) λp=>yF g' l=some p
 | []=>MP.ret rfl
 |v::r=>MP.bind (h v) λp hp=>MP.bind (Ij h r) λq hq=>MP.ret (by simp only[yF,hp,hq])
theorem Ik (H:Heap):∀(n:Nat) (v:TV),MP ev (QY H n v) λp=>oe H n v=some p
 |0,v=>MP.OT (b9.opt _)
 | n + 1,v=>by
   unfold QY
   split
   · rename_i k len
     split
     · rename_i g bx fz cs hk
       split
       · rename_i hz
         refine MP.bind Cm λfs hf=>MP.ret ?_
         obtain⟨rfl,rfl,hu⟩:=hf
         obtain⟨g1,g2⟩:=g
         exact OI hk hu hz rfl
       · exact MP.no
     · exact MP.no
   · rename_i cs
     exact MP.bind (Ij (Ik H n) cs) λp hp=>MP.ret (by simp only[oe,hp])
   · rename_i cs
     exact MP.bind (Ij (Ik H n) cs) λp hp=>MP.ret (by simp only[oe,hp])
   · exact MP.OT (b9.opt _)
def DH (H:Heap):List TV->M (List TV×List Nm)
 | []=>bY ([],[])
 | v::r=>aS (DH H r) λp=>match Ii v with
  |true=>aS (QY H fT v) λq=>bY (.t q.1::p.1,q.2++p.2)
  |false=>bY (match oe H fT v with
   |some (x,k)=>(.t x::p.1,k++p.2)
   |none=>(v::p.1,p.2))
theorem DI (H:Heap):∀(l:List TV),MP ev (DH H l) λp=>lg H l=p
 | []=>MP.ret rfl
 | v ::r=>by
   refine MP.bind (DI H r) λp hp=> ?_
   split
   · refine MP.bind (Ik H fT v) λq hq=>MP.ret ?_
     simp only[lg,hp,hq]
   · refine MP.ret ?_
     simp only[lg,hp]
     cases oe H fT v<;>rfl
def XS:aK->Bool
 |.arr _ _ _ _=>true
 |.map _ _=>true
 |_=>false
def XT (o:aK):M aK:=λcl=>match cl with
 |.n _::r=>some (o,r,[.n o])
 |_=>none
theorem Kk {o:aK}:MP ev (XT o) λo'=>o'=o/\∀σ,o.rn σ=some o:=λcl a AA em h he=>by
 unfold XT at h;split at h
 ·cases h;exact⟨rfl,he _ (List.mem_singleton_self _)⟩
 ·cases h
def rnO (σ:Nm->Option Nm)(o:aK):M aK:=match XS o with
 |true=>XT o
 |false=>mO (o.rn σ)
theorem MV {σ:Nm->Option Nm}{o:aK}:MP ev (rnO σ o) λo'=>o.rn σ=some o':=by
 unfold rnO;split
 ·exact Kk.mono λo' h=>by rw[h.1];exact h.2 σ
 ·exact MP.OT (b9.opt _)
mutual
theorem mP:∀{v v':TV},v.rn (λ_=>none)=some v'->v.names=[]
 |.t _,_,_=>rfl
 |.any,_,_=>rfl
 |.bX,_,_=>rfl
 |.mB _,_,_=>rfl
 |.jf _ _,_,_=>rfl
 |.ref _ _ _,_,h=>by simp[TV.rn] at h
 |.ptr _ _,_,h=>by simp[TV.rn] at h
 |.je _ _ _,_,h=>by simp[TV.rn] at h
 |.map _,_,h=>by simp[TV.rn] at h
 | .agg cs,_,h=>by
   simp only[TV.rn,Option.map_eq_some_iff] at h
   obtain⟨a,h,_⟩:=h
   simp only[TV.names,jP h]
 | .cT cs,_,h=>by
   simp only[TV.rn,Option.map_eq_some_iff] at h
   obtain⟨a,h,_⟩:=h
   simp only[TV.names,jP h]
 | .iface _ v,_,h=>by
   simp only[TV.rn,Option.map_eq_some_iff] at h
   obtain⟨a,h,_⟩:=h
   simp only[TV.names,mP h]
 | .fn _ fs cs,_,h=>by
   simp only[TV.rn] at h
   split at h
   · rename_i h1 h2
     simp only[TV.names,jP h1,jP h2,List.append_nil]
   · cases h
theorem jP:∀{l l':List TV},TV.Aj (λ_=>none) l=some l'->TV.iG l=[]
 | [],_,_=>rfl
 | v ::r,_,h=>by
   simp only[TV.Aj] at h
   split at h
   · rename_i h1 h2
     simp only[TV.iG,mP h1,jP h2,List.append_nil]
   · cases h
end
theorem BE:∀{es es':List (TV×TV×Nat)},Sc (λ_=>none) es=some es'->G9 es=[]
 | [],_,_=>rfl
 | (k,v,b)::r,_,h=>by
   simp only[Sc] at h
   split at h
   · rename_i h1 h2 h3
     simp only[G9,mP h1,mP h2,BE h3,List.append_nil]
   · cases h
theorem aK.mP {o:aK}(h:o.rn (λ_=>none)=some o):o.names=[]:=by
 cases o with
 |cells ty cs=>
  simp only[aK.rn,Option.map_eq_some_iff] at h
  obtain⟨a,h,_⟩:=h
  exact jP h
 |arr g e fz cs=>
  simp only[aK.rn,Option.map_eq_some_iff] at h
  obtain⟨a,h,_⟩:=h
  exact jP h
 |map es c=>
  simp only[aK.rn,Option.map_eq_some_iff] at h
  obtain⟨a,h,_⟩:=h
  exact BE h
 |dead=>rfl
def Il (o:aK):M (List Nm):=match XS o with
 |true=>aS (XT o) λ_=>bY []
 |false=>bY o.names
def ZO (o:aK):Prop:=XS o=true->∀σ,o.rn σ=some o
theorem Kl {o:aK}:MP ev (Il o) λl=>o.names=l/\ZO o:=by
 unfold Il;split
 ·exact MP.bind Kk λ_ h=>MP.ret ⟨aK.mP (h.2 _),λ_=>h.2⟩
 ·rename_i hb;exact MP.ret ⟨rfl,λh=>by rw[hb] at h;cases h⟩
def Im:List aK->M (List Nm)
 | []=>bY []
 |o::r=>aS (Il o) λl=>aS (Im r) λl2=>bY (l++l2)
theorem DJ:∀{os:List aK},MP ev (Im os) λl=>os.flatMap aK.names=l
 | []=>MP.ret rfl
 |o::r=>MP.bind Kl λl h=>MP.bind DJ λl2 h2=>MP.ret (by rw[List.flatMap_cons,h.1,h2])
def vA (H:Heap):Nat->List Nm->List Nm->M (List Nm)
 |_,done,[]=>bY done
 |0,_,_=>fG
 | n+1,done,k::todo=>match decide (k∈done) with
  |true=>vA H n done todo
  |false=>(match H.get k with
   |some o=>aS (Il o) λl=>vA H n (done++[k]) (todo++l)
   |none=>fG)
def MW (H:Heap)(k:Nm):Prop:=∀o,H.get k=some o->ZO o
theorem rP {H:Heap}:∀(n:Nat) (done todo:List Nm),MP ev (vA H n done todo) λS=>reach H n done todo=some S/\((∀k∈done,MW H k)->∀k∈S,MW H k)
 |0,done,[]=>MP.ret ⟨rfl,λh=>h⟩
 |n+1,done,[]=>MP.ret ⟨rfl,λh=>h⟩
 |0,_,_::_=>MP.no
 | n + 1,done,k::todo=>by
   unfold vA reach
   split
   · rename_i hd
     rw[if_pos (of_decide_eq_true hd)]
     exact rP n done todo
   · rename_i hd
     rw[if_neg (of_decide_eq_false hd)]
     split
     · rename_i o ho
       refine MP.bind Kl λl hl=>(rP n (done++[k]) (todo++l)).mono λS hS=>⟨by simp only[ho,hl.1];exact hS.1,λh=>hS.2 λk' hk'=> ?_⟩
       rcases List.mem_append.1 hk' with hk'|hk'
       · exact h k' hk'
       · rw[List.mem_singleton.1 hk']
         intro o' ho'
         rw[ho] at ho'
         cases ho'
         exact hl.2
     · exact MP.no
def rnB (σ:Nm->Option Nm)(o:aK):Option aK:=match XS o with
 |true=>some o
 |false=>o.rn σ
def Co (H:Heap)(S:List Nm):List Nm->Option (List aK)
 | []=>some []
 |k::r=>match H.get k,Co H S r with
  |some o,some os=>(rnB (W4 S) o).map (· ::os)
  |_,_=>none
theorem DK {H:Heap}{S:List Nm}:∀{l:List Nm},(∀k∈l,MW H k)->Co H S l=mH H S l
 | [],_=>rfl
 | k::r,h=>by
  simp only[Co,mH,DK λk' hk'=>h k' (List.mem_cons_of_mem _ hk')]
  cases ho:H.get k with
  |none=>rfl
  | some o=>
   have e:rnB (W4 S) o=o.rn (W4 S):=by
    unfold rnB
    split
    · rename_i hb;exact(h k List.mem_cons_self o ho hb _).symm
    · rfl
   cases mH H S r with
   |none=>rfl
   |some os=>simp only[e]
def TW (H:Heap)(keep:Bool)(args:List TV):M (List TV×List Nm):=match keep with
 |true=>bY (args,[])
 |false=>DH H args
theorem TX {H:Heap}{keep:Bool}{args:List TV}:MP ev (TW H keep args) λp=>Jt H keep args=p:=by
 cases keep with
 |true=>exact MP.ret rfl
 |false=>exact DI H args
def Gx (H1:Heap)(args:List TV):M (List Nm×List TV×List aK):=aS (vA H1 eN [] (TV.iG args)) λS=>
 if S.Nodup then(match TV.Aj (W4 S) args,Co H1 S S with
  |some akR,some os=>bY (S,akR,os)
  |_,_=>fG) else fG
theorem Km {H1:Heap}{args:List TV}:MP ev (Gx H1 args) λq=>reach H1 eN [] (TV.iG args)=some q.1/\q.1.Nodup/\TV.Aj (W4 q.1) args=some q.2.1/\mH H1 q.1 q.1=some q.2.2:=
 MP.bind (rP _ _ _) λS hS=>by
  split
  ·rename_i hn;split
   ·rename_i akR os h1 h2;exact MP.ret ⟨hS.1,hn,h1,by rw[← DK (hS.2 λk hk=>by cases hk)];exact h2⟩
   ·exact MP.no
  ·exact MP.no
def DL (S:List Nm)(t:Nat):List Nm->List aK->M Heap
 | [],[]=>bY []
 |k::r,o::os=>aS (rnO (nu S t) o) λo=>aS (DL S t r os) λh=>bY ((k,o)::h)
 |_,_=>fG
theorem DM {S:List Nm}{t:Nat}:∀{l:List Nm} {os:List aK},MP ev (DL S t l os) λh=>nc S t l os=some h
 | [],[]=>MP.ret rfl
 |k::r,o::os=>MP.bind MV λo' h1=>MP.bind DM λh h2=>MP.ret (by simp only[nc,h1,h2])
 | [],_::_=>MP.no
 |_::_,[]=>MP.no
def zh (S:List Nm)(t:Nat):Heap->M Heap
 | []=>bY []
 |(k,o)::r=>match nu S t k with
  |some k=>aS (rnO (nu S t) o) λo=>aS (zh S t r) λh=>bY ((k,o)::h)
  |none=>fG
theorem DN {S:List Nm}{t:Nat}:∀{l:Heap},MP ev (zh S t l) λh=>kJ S t l=some h
 | []=>MP.ret rfl
 | (k,o)::r=>by
   unfold zh
   split
   · rename_i k' hk
     exact MP.bind MV λo' h1=>MP.bind DN λh h2=>MP.ret (by simp only[kJ,hk,h1,h2])
   · exact MP.no
def TY (H:Heap)(g:FuncId)(args:List TV)(t:Nat)(keep:Bool):M pL:=aS (TW H keep args) λp=>aS (Gx (H.dR (cW H p.2)) p.1) λq=>aS (aa5 g q.2.1 q.2.2) λx=>match x with
 |.ret v os' news=>aS (mO (v.rn (nu q.1 t))) λv=>aS (DL q.1 t q.1 os') λh=>aS (zh q.1 t news) λh'=>bY (.val v ((cW H p.2).filter (λr=> !(q.1.contains r.1))++h++h'))
 |.panic v os'=>aS (mO (v.rn (nu q.1 t))) λv=>aS (mO (lp q.1 t q.1 os')) λh=>bY (.panic v ((cW H p.2).filter (λr=> !(q.1.contains r.1))++h.1) h.2)
theorem Kn (H:Heap)(g:FuncId)(args:List TV)(t:Nat)(keep:Bool):b9 ev (TY H g args t keep) (qv ev H g args t keep):=by
 refine MP.bind TX λp hp=>MP.bind Km λq hq=>MP.bind (MP.OT (TT g q.2.1 q.2.2)) λx hx=> ?_
 obtain⟨h1,h2,h3,h4⟩:=hq;obtain⟨p1,p2⟩:=p;simp only at h1 h3 h4;split
 ·refine MP.bind (MP.OT (b9.opt _)) λv h5=>MP.bind DM λh h6=>MP.bind DN λh' h7=>MP.ret ?_
  unfold qv;rw[hp];simp only[h1,if_pos h2,h3,h4,hx,h5,h6,h7]
 ·refine MP.bind (MP.OT (b9.opt _)) λv h5=>MP.bind (MP.OT (b9.opt _)) λh h6=>MP.ret ?_
  unfold qv;rw[hp];simp only[h1,if_pos h2,h3,h4,hx,h5,h6]
def Io:TV->Option Nat
 |.t (.int _ (.ofNat n))=>some n
 |_=>none
theorem th {v:TV}{n:Nat}(h:Io v=some n):eT v=some n:=by
 unfold Io at h;split at h
 ·cases h;simp[eT]
 ·cases h
def tj (P:ij)(H:Heap)(t:TypeId)(x i:TV):M TV:=
 match aW P t,Io i with
 | some ti,some n=>(match ti.desc,x with
  |.slice elem,.t (.sl es)=>(match aW P elem with
   |some te=>aS (XP es n) λe=>mO (if e.cells.length=te.size then some (.jf e.cells 0) else none)
   |none=>fG)
  |.slice elem,.mB es=>(match aW P elem with
   |some te=>aS (XP es n) λe=>mO (if e.cells.length=te.size then some (.jf e.cells 0) else none)
   |none=>fG)
  |.slice elem,.ref k 0 len=>(match aW P elem,H.get k with
   |some te,some (.arr g bx _ cs)=>if te.size=bx/\0<bx then aS (QX g.2 bx len cs) λ_=>aS (x9 (n+1) len) λ_=>bY (.je k cs.length (n*bx)) else fG
   |_,_=>fG)
  |_,_=>mO (dG P H t x i))
 |_,_=>mO (dG P H t x i)
theorem xy (P:ij)(H:Heap)(t:TypeId)(x i:TV):b9 ev (tj P H t x i) (dG P H t x i):=by
 unfold tj;split
 ·rename_i ti n ht hn;have hi:=th hn;split
  ·rename_i elem es hd;split
   ·rename_i te hte;refine b9.of_eq (b9.bind (Kj es n) λe _=>b9.opt _) ?_;unfold dG;rw[ht,hi];simp only[hd,hte];cases es[n]? <;>rfl
   ·exact b9.no
  ·rename_i elem es hd;split
   ·rename_i te hte;refine b9.of_eq (b9.bind (Kj es n) λe _=>b9.opt _) ?_;unfold dG;rw[ht,hi];simp only[hd,hte];cases es[n]? <;>rfl
   ·exact b9.no
  ·rename_i elem k len hd;split
   ·rename_i te g bx fz cs hte hk;split
    ·rename_i hc;obtain⟨hc,hz⟩:=hc;refine MP.bind Cm λfs hf=>MP.bind jV λ_ hl=>MP.ret ?_
     obtain⟨rfl,rfl,hu⟩:=hf;have h2:iE H k 0 fs.length=some (g,bx,fz,(flat fs).map .t):=by
      unfold iE;simp only[hk];rw[if_pos ⟨hz,by rw[Nat.zero_add,hu.length]⟩]
     unfold dG;rw[ht,hi];simp only[hd,hte,h2,hc,Nat.zero_add];rw[if_pos ⟨trivial,hl⟩]
    ·exact MP.no
   ·exact MP.no
  ·exact b9.opt _
 ·exact b9.opt _
def T3 (P:ij)(H:Heap)(t:TypeId)(a:TV):M TV:=match a with
 |.je k m o=>(match aW P t,H.get k with
  |some ti,some (.arr _ _ _ cs)=>aS (DE (cs.length=m)) λ_=>MU (partT ti.agg ti.size cs o)
  |_,_=>fG)
 |a=>mO (loadT P H t a)
theorem T4 (P:ij)(H:Heap)(t:TypeId)(a:TV):b9 ev (T3 P H t a) (loadT P H t a):=by
 unfold T3;split
 ·rename_i k m o;split
  ·rename_i ti g bx fz cs ht hk;refine MP.bind ou λ_ hm=>zg.mono λv hv=> ?_
   subst hm;simp only[loadT,ht,sI,hk,if_true];exact hv
  ·exact MP.no
 ·exact b9.opt _
def MX (P:ij)(H:Heap)(t:TypeId)(a x:TV):M (List (Nm×aK)):=match a with
 | .je k m o=>(match aW P t,H.get k with
  |some ti,some (.arr g bx false cs)=>(match decide (x.cells.length=ti.size)&&x.cells.all TV.leaf with
   |true=>aS (DE (cs.length=m)) λ_=>aS (x9 (o+ti.size) cs.length) λ_=>aS (TR (cr cs o x.cells)) λcs'=>bY [(k,.arr g bx false cs')]
   |false=>fG)
  |_,_=>fG)
 |a=>mO (storeT P H t a x)
theorem QZ (P:ij)(H:Heap)(t:TypeId)(a x:TV):b9 ev (MX P H t a x) (storeT P H t a x):=by
 unfold MX;split
 ·rename_i k m o;split
  ·rename_i ti g bx cs ht hk;split
   ·rename_i hb;refine MP.bind ou λ_ hm=>MP.bind jV λ_ hl=>MP.bind Ih λcs' hc=>MP.ret ?_
    subst hm hc;exact sta ht hk hb hl
   ·exact MP.no
  ·exact MP.no
 ·exact b9.opt _
def Ip (H:Heap)(a:TV)(n:Nat):M TV:=match a with
 |.je k m o=>(match H.get k with
  |some (.arr _ _ _ cs)=>aS (DE (cs.length=m)) λ_=>bY (.je k m (o+n))
  |_=>fG)
 |a=>mO (pH H a n)
theorem MY (H:Heap)(a:TV)(n:Nat):b9 ev (Ip H a n) (pH H a n):=by
 unfold Ip;split
 ·rename_i k m o;split
  ·rename_i g bx fz cs hk;refine MP.bind ou λ_ hm=>MP.ret ?_
   simp only[pH,hk,if_pos hm]
  ·exact MP.no
 ·exact b9.opt _
def DO (P:ij)(H:Heap)(s i:Nat)(a:TV):M TV:=match lN P s i with
 |some off=>Ip H a off
 |none=>fG
def Ko (o:Option TV)(d:Nat):Option Nat:=match o with
 |none=>some d
 |some v=>Io v
theorem zi {o:Option TV}{d n:Nat}(h:Ko o d=some n):ec o d=some n:=by
 cases o with
 |none=>exact h
 |some v=>exact th h
theorem Q0 {ag:Bool}{sz:Nat}{fs:List Tree}(hu:ey ag sz fs)(h:Nat):((flat fs).map TV.t).take (h*sz)=(flat (fs.take h)).map TV.t:=by
 rw[← List.map_take];congr 1;induction h generalizing fs with
 |zero=>simp[flat]
 | succ n ih=>
  cases fs with
  |nil=>simp[flat]
  |cons e r=>
   have he:e.cells.length=sz:=(hu e List.mem_cons_self).1
   have e1:flat (e::r)=e.cells++flat r:=by simp[flat]
   have e2:flat ((e::r).take (n+1))=e.cells++flat (r.take n):=by simp[flat]
   rw[e1,e2,Nat.succ_mul,Nat.add_comm,← he,List.take_length_add_append,he,ih λx hx=>hu x (List.mem_cons_of_mem _ hx)]
def DP (b:Bool)(P:ij)(H:Heap)(nm:Nm)(t:TypeId)(x:TV)(lo hi mx:Option TV):M pL:=
 let old:M pL:=mO (match w8 b P H nm t x lo hi mx with
  |some r=>some (.val r.1 r.2)
  |none=>match pJ P H t x lo hi mx with
   |some (r,ks)=>some (.val r (cW H ks))
   |none=>none)
 match x,mx with
 | .t (.str s),none=>(match aW P t,Ko lo 0,Ko hi s.length with
  |some ti,some l,some h=>(match ti.desc with
   |.string=>aS (x9 l h) λ_=>aS (x9 h s.length) λ_=>bY (.val (.t (.str ((s.take h).drop l))) [])
   |_=>fG)
  |_,_,_=>fG)
 | .t (.sl es),none=>(match aW P t,Ko lo 0,Ko hi es.length with
  | some ti,some l,some h=>(match ti.desc with
   |.slice elem=>(match aW P elem with
    |some te=>aS (DE (jF te.size es=true)) λ_=>aS (x9 l h) λ_=>aS (x9 h es.length) λ_=>bY (.val (.t (.sl ((es.take h).drop l))) [])
    |none=>fG)
   |_=>fG)
  |_,_,_=>fG)
 | .ref k 0 len,none=>(match b,lo,hi.bind Io with
  | true,none,some h=>(match aW P t,H.get k with
   | some ti,some (.arr g bx false cs)=>(match ti.desc with
    |.slice elem=>(match aW P elem with
     |some te=>if te.size=bx/\0<bx then aS (QX g.2 bx len cs) λfs=>aS (x9 h len) λ_=>bY (.val (.ref nm 0 h) [(k,.dead),(nm,.arr g bx false ((flat (fs.take h)).map .t))]) else fG
     |none=>fG)
    |_=>fG)
   |_,_=>fG)
  |_,_,_=>old)
 |_,_=>old
theorem AB        (b:Bool)(P:ij)(H:Heap)(nm:Nm)(t:TypeId)(x:TV)(lo hi mx:Option TV):b9 ev (DP b P H nm t x lo hi mx) (match w8 b P H nm t x lo hi mx with
 |some r=>some (.val r.1 r.2)
 | none=>match pJ P H t x lo hi mx with
   |some (r,ks)=>some (.val r (cW H ks))
   |none=>none):=by
 unfold DP
 simp only
 split
 ·rename_i s;split
  ·rename_i ti l h ht hl hh;have hl':=zi hl;have CZ:=zi hh;split
   ·rename_i hd;refine MP.bind jV λ_ h1=>MP.bind jV λ_ h2=>MP.ret ?_
    rw[G6];simp only[pJ,ht,hd,hl',CZ,if_pos (And.intro h1 h2)];rfl
   ·exact MP.no
  ·exact MP.no
 ·rename_i es;split
  ·rename_i ti l h ht hl hh;have hl':=zi hl;have CZ:=zi hh;split
   ·rename_i elem hd;split
    ·rename_i te hte;refine MP.bind ou λ_ h0=>MP.bind jV λ_ h1=>MP.bind jV λ_ h2=>MP.ret ?_
     rw[G6];have e1:xM H (.t (.sl es))=some es.length:=rfl;have e2:ec none es.length=some es.length:=rfl;simp only[pJ,ht,hd,hte,e1,e2,hl',CZ,Option.isNone_none,Bool.true_or,if_pos (And.intro h1 (And.intro h2 (Nat.le_refl _))),h0,if_true,Option.isSome_none,Bool.false_and,Qc,Bool.false_eq_true,if_false];rfl
    ·exact MP.no
   ·exact MP.no
  ·exact MP.no
 ·rename_i k len;split
  ·rename_i h hh;split
   ·rename_i ti g bx cs ht hk;split
    ·rename_i elem hd;split
     ·rename_i te hte;split
      ·rename_i hc;refine MP.bind Cm λfs hf=>MP.bind jV λ_ h1=>MP.ret ?_
       obtain⟨rfl,rfl,hu⟩:=hf;cases hi with
       |none=>cases hh
       | some hv=>
         have CZ:=th hh
         have h2:iE H k 0 fs.length=some (g,bx,false,(flat fs).map .t):=by
           unfold iE
           simp only[hk]
           rw[if_pos ⟨hc.2,by rw[Nat.zero_add,hu.length]⟩]
         simp only[w8,if_true,xN,ht,CZ,h2,hd,hte,if_pos (And.intro hc.1 h1),Q0 hu]
      ·exact MP.no
     ·exact MP.no
    ·exact MP.no
   ·exact MP.no
  ·exact b9.opt _
 ·exact b9.opt _
def BF (P:ij)(t:TypeId)(es:List (TV×TV×Nat))(k:TV)(ok:Bool):Option TV:=
 match aW P t with
 | some ti=>match ti.desc with
  | .map kt et=>match aW P kt,aW P et with
   | some tk,some te=>
    if uL P es.isEmpty kt k=true then
     match k9 P kt tk.desc k es 0,te.zero with
     |some (some (_,v,_)),_=>some (if ok then oa [v,.t (.bool true)] else v)
     |some none,some z=>some (if ok then oa [z,.t (.bool false)] else z)
     |_,_=>none
    else none
   |_,_=>none
  |_=>none
 |none=>none
theorem T6 {P:ij}{H:Heap}{t:TypeId}{k:TV}{ok:Bool}{m:Nm}{es:List (TV×TV×Nat)}{c:Nat}(hk:H.get m=some (.map es c)):sK P H t (.map m) k ok=BF P t es k ok:=by
 unfold sK BF;simp only[mapOf,hk];cases aW P t with
 |none=>rfl
 |some ti=>
  simp only
  cases ti.desc<;>try rfl
  rename_i kt et
  simp only
  cases aW P kt<;>cases aW P et<;>rfl
def T7 (P:ij)(H:Heap)(t:TypeId)(x k:TV)(ok:Bool):M TV:=match x with
 |.map m=>(match H.get m with
  |some (.map es _)=>MU (BF P t es k ok)
  |_=>fG)
 |x=>mO (sK P H t x k ok)
theorem T8 (P:ij)(H:Heap)(t:TypeId)(x k:TV)(ok:Bool):b9 ev (T7 P H t x k ok) (sK P H t x k ok):=by
 unfold T7;split
 ·split
  ·rename_i hk;refine zg.mono λv hv=> ?_
   rw[T6 hk];exact hv
  ·exact MP.no
 ·exact b9.opt _
def aa7 (P:ij)(t:TypeId)(es:List (TV×TV×Nat))(c:Nat)(k v:TV):Option (List (TV×TV×Nat)×Nat):=
 match aW P t with
 | some ti=>match ti.desc with
  | .map kt _=>match aW P kt with
   | some tk=>
    if uL P false kt k=true then
     match k9 P kt tk.desc k es 0 with
     |some (some (i,_,b))=>some (es.set i (k,v,b),c)
     |some none=>some (es++[(k,v,c)],c+1)
     |none=>none
    else none
   |none=>none
  |_=>none
 |none=>none
theorem adz {P:ij}{H:Heap}{t:TypeId}{k v:TV}{m:Nm}{es:List (TV×TV×Nat)}{c:Nat}(hk:H.get m=some (.map es c)){p:List (TV×TV×Nat)×Nat}(h:aa7 P t es c k v=some p):iR P H t (.map m) k v=some [(m,.map p.1 p.2)]:=by
 unfold aa7 at h;split at h<;>try (cases h;done)
 rename_i ti ht;split at h<;>try (cases h;done)
 rename_i kt et hd;split at h<;>try (cases h;done)
 rename_i tk OA;split at h<;>try (cases h;done)
 rename_i hc;unfold iR;simp only[ht,hd,hk,OA,if_pos hc];split at h<;>cases h<;>simp_all
def Q5 (P:ij)(t:TypeId)(es:List (TV×TV×Nat))(c:Nat)(k:TV):Option (TV×List (TV×TV×Nat)×Nat):=
 match aW P t with
 | some ti=>match ti.desc with
  | .map kt et=>match aW P kt,aW P et with
   | some tk,some te=>
    if uL P false kt k=true then
     match k9 P kt tk.desc k es 0,te.zero with
     |some (some (i,v,b)),_=>some (oa [v,.t (.int .i64 b)],es.set i (k,v,b),c)
     |some none,some z=>some (oa [z,.t (.int .i64 c)],es++[(k,z,c)],c+1)
     |_,_=>none
    else none
   |_,_=>none
  |_=>none
 |none=>none
theorem adA {P:ij}{H:Heap}{t:TypeId}{k:TV}{m:Nm}{es:List (TV×TV×Nat)}{c:Nat}(hk:H.get m=some (.map es c)){p:TV×List (TV×TV×Nat)×Nat}(h:Q5 P t es c k=some p):kX P H t (.map m) k=some (p.1,[(m,.map p.2.1 p.2.2)]):=by
 unfold Q5 at h;split at h<;>try (cases h;done)
 rename_i ti ht;split at h<;>try (cases h;done)
 rename_i kt et hd;split at h<;>try (cases h;done)
 rename_i tk te OA hte;split at h<;>try (cases h;done)
 rename_i hc;unfold kX;simp only[ht,hd,hk,OA,hte,if_pos hc];split at h<;>cases h<;>simp_all
def aa8 (P:ij)(H:Heap)(t:TypeId)(x k:TV):M pL:=match x with
 |.map m=>(match H.get m with
  |some (.map es c)=>aS (aa6 (Q5 P t es c k)) λp=>bY (.val p.1 [(m,.map p.2.1 p.2.2)])
  |_=>fG)
 |x=>mO ((kX P H t x k).map λp=>.val p.1 p.2)
theorem XU (P:ij)(H:Heap)(t:TypeId)(x k:TV):b9 ev (aa8 P H t x k) ((kX P H t x k).map λp=>.val p.1 p.2):=by
 unfold aa8;split
 ·split
  ·rename_i hk;refine MP.bind XR λp hp=>MP.ret ?_
   rw[adA hk hp];rfl
  ·exact MP.no
 ·exact b9.opt _
def T9 (es:List (TV×TV×Nat))(c:Nat)(n:Int)(v:TV):Option (List (TV×TV×Nat)×Nat):=match og es n 0 with
 |some i=>match es[i]? with
  |some (k,_,b)=>some (es.set i (k,v,b),c)
  |none=>none
 |none=>none
theorem adB {H:Heap}{v:TV}{kk:IntKind}{n:Int}{m:Nm}{es:List (TV×TV×Nat)}{c:Nat}(hk:H.get m=some (.map es c)){p:List (TV×TV×Nat)×Nat}(h:T9 es c n v=some p):iM H (.map m) (.t (.int kk n)) v=some [(m,.map p.1 p.2)]:=by
 unfold T9 at h;split at h<;>try (cases h;done)
 rename_i i hi;split at h<;>try (cases h;done)
 rename_i k w b he;cases h;unfold iM;simp only[hk,hi,he]
def aa9 (H:Heap)(x s v:TV):M (List (Nm×aK)):=match x,s with
 |.map m,.t (.int _ n)=>(match H.get m with
  |some (.map es c)=>aS (XQ (T9 es c n v)) λp=>bY [(m,.map p.1 p.2)]
  |_=>fG)
 |x,s=>mO (iM H x s v)
theorem XV (H:Heap)(x s v:TV):b9 ev (aa9 H x s v) (iM H x s v):=by
 unfold aa9;split
 ·split
  ·rename_i hk;refine MP.bind OU λp hp=>MP.ret ?_
   exact adB hk hp
  ·exact MP.no
 ·exact b9.opt _
section
variable {P:ij}{ty kt et:TypeId}{ti tk te:TI}{s:List UInt8}{es:List (TV×TV×Nat)}
end
def abb (P:ij)(H:Heap)(t:TypeId)(x k v:TV):M (List (Nm×aK)):=match x with
 |.map m=>(match H.get m with
  |some (.map es c)=>aS (XQ (aa7 P t es c k v)) λp=>bY [(m,.map p.1 p.2)]
  |_=>fG)
 |x=>mO (iR P H t x k v)
theorem XW (P:ij)(H:Heap)(t:TypeId)(x k v:TV):b9 ev (abb P H t x k v) (iR P H t x k v):=by
 unfold abb;split
 ·split
  ·rename_i hk;refine MP.bind OU λp hp=>MP.ret ?_
   exact adz hk hp
  ·exact MP.no
 ·exact b9.opt _
def MZ (P:ij)(t:TypeId)(x i:TV):M TV:=
 match aW P t,Io i with
 |some ti,some n=>(match ti.desc,x with
  |.string,.t (.str s)=>aS (aa4 s n) λb=>bY (.t (.int .u8 b.toNat))
  |_,_=>mO (pI P t x i))
 |_,_=>mO (pI P t x i)
theorem Q6 (P:ij)(t:TypeId)(x i:TV):b9 ev (MZ P t x i) (pI P t x i):=by
 unfold MZ;split
 ·rename_i ti n ht hn;have hi:=th hn;split
  ·rename_i s hd;refine b9.of_eq (b9.bind (y:=λb=>some (.t (.int .u8 b.toNat))) (TS s n) λe _=>b9.ret _) ?_;unfold pI;rw[ht,hi];simp only[hd];cases s[n]? <;>rfl
  ·exact b9.opt _
 ·exact b9.opt _
def Q7 (m:M TV):M pL:=aS m λv=>bY (.val v [])
theorem Cp {m:M TV}{x:Option TV}(h:b9 ev m x):b9 ev (Q7 m) (match yD x with
 |some (v,u)=>some (.val v u)
 |none=>none):=by
 refine b9.of_eq (b9.bind (y:=λv=>some (.val v [])) h λa _=>b9.ret _) ?_
 cases x<;>rfl
def abd:TV->Option (List Tree)
 |.t (.sl es)=>some es
 |.mB es=>some es
 |_=>none
theorem XX {v:TV}{es:List Tree}(h:abd v=some es):OJ v es:=by
 unfold abd at h;split at h
 ·cases h;exact .inl rfl
 ·cases h;exact .inr rfl
 ·cases h
def abe ( P:ij)(nm:Nm)(H:Heap)(st xt:TypeId)(s x:TV):M (TV×List (Nm×aK)):=
 match aW P st with
 | some ti=>(match ti.desc with
  | .slice elem=>(match aW P elem,abd x with
   | some te,some es=>(match te.zero with
    | some z=>if te.size≠0/\z.cells.length=te.size/\te.bytes≠0/\st=xt then
      aS (TQ te.agg te.size es) λb=>match b with
      |false=>mO (jx P nm H st xt s (.t (.sl [])))
      | true=>(match s with
       |.bX=>aS (x9 (es.length*te.bytes) eC) λ_=>bY (.ref nm 0 es.length,[(nm,.arr (elem,te.agg) te.size false ((flat es).map .t))])
       |.mB []=>aS (x9 (es.length*te.bytes) eC) λ_=>bY (.ref nm 0 es.length,[(nm,.arr (elem,te.agg) te.size false ((flat es).map .t))])
       |.ref k 0 len=>(match H.get k with
        | some (.arr g bx fz cs)=>if g=(elem,te.agg)/\bx=te.size then aS (QX te.agg te.size len cs) λfs=>aS (x9 ((len+es.length) *te.bytes) eC) λ_=>bY (.ref k 0 (fs++es).length,[(k,.arr (elem,te.agg) te.size fz ((flat (fs++es)).map .t))])
          else fG
        |_=>fG)
       |_=>fG)
     else fG
    |none=>fG)
   |_,_=>fG)
  |_=>fG)
 |none=>fG
theorem XY      (C:cE)(nm:Nm)(H:Heap)(st xt:TypeId)(s x:TV):b9 ev (abe C.P nm H st xt s x) (jx C.P nm H st xt s x):=by
 unfold abe;split
 ·rename_i ti ht;split
  ·rename_i elem hd;split
   ·rename_i te es hte hx;have hv:=XX hx;split
    ·rename_i z hz;split
     ·rename_i hc;obtain⟨c1,c2,c3,rfl⟩:=hc;have hA:Bw C.P st elem te:=⟨⟨ti,ht,hd⟩,hte,z,hz,c1,c2,c3⟩;refine MP.bind TU λb hu=> ?_
      cases b with
      | false=>
        obtain rfl:es=[]:=hu
        have e:jx C.P nm H st st s x=jx C.P nm H st st s (.t (.sl [])):=by
          rcases hv with rfl|rfl<;>rfl
        rw[e]
        exact MP.OT (b9.opt _)
      |true=>
      obtain⟨hu,hne⟩:=hu;simp only;split
      ·refine MP.bind jV λ_ hb=>MP.ret ?_
       exact qz hA (HZ hv hu) (by simpa using hne) hu.o8 (by simp only[if_pos hb])
      ·refine MP.bind jV λ_ hb=>MP.ret ?_
       refine qz hA (HZ hv hu) (by simpa using hne) hu.o8 ?_;have e:eB H te.agg te.size (.mB [])=some (0,[]):=rfl;simp only[e,Nat.zero_add,if_pos hb,List.nil_append]
      ·rename_i k len;split
       ·rename_i g bx fz cs hk;split
        ·rename_i hg;obtain⟨rfl,rfl⟩:=hg;refine MP.bind Cm λfs hf=>MP.bind jV λ_ hb=>MP.ret ?_
         obtain⟨rfl,rfl,hf⟩:=hf;refine qz hA (HZ hv hu) (by simpa using hne) hu.o8 ?_;have h2:iE H k 0 fs.length=some ((elem,te.agg),te.size,fz,(flat fs).map .t):=by
          unfold iE;simp only[hk];rw[if_pos ⟨by omega,by rw[Nat.zero_add,hf.length]⟩]
         simp only[h2,hb,and_self,if_true,flat,List.flatMap_append,List.map_append,List.length_append]
        ·exact MP.no
       ·exact MP.no
      ·exact MP.no
     ·exact MP.no
    ·exact MP.no
   ·exact MP.no
  ·exact MP.no
 ·exact MP.no
def orM {α:Type}(a b:M α):M α:=λcl=>match a cl with
 |some r=>some r
 |none=>b cl
theorem Ua {α:Type}{a b:M α}{Q:α->Prop}(h:MP ev a Q)(k:MP ev b Q):MP ev (orM a b) Q:=λcl v AA em hm he=>by
 unfold orM at hm;split at hm
 ·rename_i r hr;cases hm;exact h _ _ _ _ hr he
 ·exact k _ _ _ _ hm he
def Ub (P:ij)(H:Heap)(t:TypeId)(k:Nm)(off len:Nat)(i:TV):M TV:=match aW P t,Io i,H.get k with
 | some ti,some n,some (.arr g bx fz cs)=>(match ti.desc with
  |.slice elem=>(match aW P elem with
   |some te=>if te.size=bx/\0<bx then aS (DE ((off+len) *bx=cs.length)) λ_=>aS (x9 (n+1) len) λ_=>bY (.je k cs.length ((off+n) *bx)) else fG
   |none=>fG)
  |_=>fG)
 |_,_,_=>fG
theorem XZ {P:ij}{H:Heap}{t:TypeId}{k:Nm}{off len:Nat}{i:TV}:MP ev (Ub P H t k off len i) λv=>dG P H t (.ref k off len) i=some v:=by
 unfold Ub;split
 ·rename_i ti n g bx fz cs ht hn hk;have hi:=th hn;split
  ·rename_i elem hd;split
   ·rename_i te hte;split
    ·rename_i hc;refine MP.bind ou λ_ hp=>MP.bind jV λ_ hl=>MP.ret ?_
     have h2:iE H k off len=some (g,bx,fz,cs):=by
      unfold iE;simp only[hk];rw[if_pos ⟨hc.2,hp⟩]
     unfold dG;rw[ht,hi];simp only[hd,hte,h2,hc.1];rw[if_pos ⟨trivial,hl⟩]
    ·exact MP.no
   ·exact MP.no
  ·exact MP.no
 ·exact MP.no
def ya (P:ij)(H:Heap)(t:TypeId)(x i:TV):M TV:=match x with
 |.ref k off len=>orM (Ub P H t k off len i) (tj P H t (.ref k off len) i)
 |x=>tj P H t x i
theorem DQ (P:ij)(H:Heap)(t:TypeId)(x i:TV):b9 ev (ya P H t x i) (dG P H t x i):=by
 unfold ya;split
 ·exact Ua (XZ.mono λv hv=>hv) (xy P H t _ i)
 ·exact xy P H t _ i
def Uc (P:ij)(H:Heap)(t:TypeId)(k:Nm)(off len:Nat)(lv:TV):M pL:=match aW P t,H.get k,Io lv with
 | some ti,some (.arr g bx fz cs),some l=>(match ti.desc with
  |.slice elem=>(match aW P elem with
   |some te=>if bx=te.size/\0<bx then aS (DE ((off+len) *bx=cs.length)) λ_=>aS (x9 l len) λ_=>bY (.val (.ref k (off+l) (len - l)) []) else fG
   |none=>fG)
  |_=>fG)
 |_,_,_=>fG
theorem Ud {b:Bool}{P:ij}{H:Heap}{nm:Nm}{t:TypeId}{x lv:TV}{hi mx:Option TV}:w8 b P H nm t x (some lv) hi mx=none:=by
 cases b with
 |false=>rfl
 |true=>
  show xN P H nm t x (some lv) hi mx=none
  unfold xN
  split
  · rename_i h;cases h
  · rfl
def AE (b:Bool)(P:ij)(H:Heap)(nm:Nm)(t:TypeId)(x:TV)(lo hi mx:Option TV):Option pL:=match w8 b P H nm t x lo hi mx with
 |some r=>some (.val r.1 r.2)
 |none=>match pJ P H t x lo hi mx with
  |some (r,ks)=>some (.val r (cW H ks))
  |none=>none
theorem X0 {b:Bool}{P:ij}{H:Heap}{nm:Nm}{t:TypeId}{k:Nm}{off len:Nat}{lv:TV}:MP ev (Uc P H t k off len lv) λr=>AE b P H nm t (.ref k off len) (some lv) none none=some r:=by
 unfold Uc;split
 ·rename_i ti g bx fz cs l ht hk hl;have hl':=th hl;split
  ·rename_i elem hd;split
   ·rename_i te hte;split
    ·rename_i hc;refine MP.bind ou λ_ hp=>MP.bind jV λ_ h1=>MP.ret ?_
     have h2:iE H k off len=some (g,bx,fz,cs):=by
      unfold iE;simp only[hk];rw[if_pos ⟨hc.2,hp⟩]
     unfold AE;rw[Ud];have e0:xM H (.ref k off len)=some len:=rfl;have e1:ec (some lv) 0=some l:=hl';have e2:ec none len=some len:=rfl;simp only[pJ,ht,hd,hte,e0,e1,e2,Option.isNone_none,Bool.true_or,h2,hc.1,and_self,if_true];rw[if_pos ⟨h1,Nat.le_refl len⟩];rfl
    ·exact MP.no
   ·exact MP.no
  ·exact MP.no
 ·exact MP.no
def M0 (P:ij)(H:Heap)(nm:Nm)(t:TypeId)(k:Nm)(len:Nat)(hv:TV):M pL:=match aW P t,H.get k,Io hv with
 | some ti,some (.arr g bx false cs),some h=>(match ti.desc with
  |.slice elem=>(match aW P elem with
   |some te=>if te.size=bx/\0<bx then aS (DE ((0+len) *bx=cs.length)) λ_=>aS (x9 h len) λ_=>aS (TR (cs.take (h*bx))) λcs'=>bY (.val (.ref nm 0 h) [(k,.dead),(nm,.arr g bx false cs')]) else fG
   |none=>fG)
  |_=>fG)
 |_,_,_=>fG
theorem Ue {P:ij}{H:Heap}{nm:Nm}{t:TypeId}{k:Nm}{len:Nat}{hv:TV}:MP ev (M0 P H nm t k len hv) λr=>AE true P H nm t (.ref k 0 len) none (some hv) none=some r:=by
 unfold M0;split
 ·rename_i ti g bx cs h ht hk hh;have CZ:=th hh;split
  ·rename_i elem hd;split
   ·rename_i te hte;split
    ·rename_i hc;refine MP.bind ou λ_ hp=>MP.bind jV λ_ h1=>MP.bind Ih λcs' hq=>MP.ret ?_
     subst hq;have h2:iE H k 0 len=some (g,bx,false,cs):=by
      unfold iE;simp only[hk];rw[if_pos ⟨hc.2,hp⟩]
     unfold AE;simp only[w8,if_true,xN,ht,CZ,h2,hd,hte,if_pos (And.intro hc.1 h1)]
    ·exact MP.no
   ·exact MP.no
  ·exact MP.no
 ·exact MP.no
def M1 (b:Bool)(P:ij)(H:Heap)(nm:Nm)(t:TypeId)(x:TV)(lo hi mx:Option TV):M pL:=match x,lo,hi,mx with
 |.ref k off len,some lv,none,none=>orM (Uc P H t k off len lv) (DP b P H nm t (.ref k off len) (some lv) none none)
 |.ref k 0 len,none,some hv,none=>orM (match b with
  |true=>M0 P H nm t k len hv
  |false=>fG) (DP b P H nm t (.ref k 0 len) none (some hv) none)
 |x,lo,hi,mx=>DP b P H nm t x lo hi mx
theorem M3 (b:Bool)(P:ij)(H:Heap)(nm:Nm)(t:TypeId)(x:TV)(lo hi mx:Option TV):b9 ev (M1 b P H nm t x lo hi mx) (AE b P H nm t x lo hi mx):=by
 unfold M1;split
 ·exact Ua X0 (AB b P H nm t _ _ _ _)
 ·refine Ua ?_ (AB b P H nm t _ _ _ _);cases b with
  |true=>exact Ue
  |false=>exact MP.no
 ·exact AB b P H nm t _ _ _ _
def M4 (P:ij)(H:Heap)(t:TypeId)(k:Nm)(off len:Nat):M pL:=match aW P t,H.get k with
 | some ti,some (.arr g bx false cs)=>(match ti.desc with
  | .slice elem=>(match aW P elem with
   |some te=>(match te.zero with
    |some z=>if(te.size=bx/\0<bx)/\z.cells.length=te.size/\z.cells.all TV.leaf=true then aS (DE ((off+len) *bx=cs.length)) λ_=>aS (TR (cr cs (off*bx) (qO len z.cells))) λcs'=>bY (.val (.t (.cT [])) [(k,.arr g bx false cs')]) else fG
    |none=>fG)
   |none=>fG)
  |_=>fG)
 |_,_=>fG
theorem Uf {P:ij}{H:Heap}{t:TypeId}{k:Nm}{off len:Nat}:MP ev (M4 P H t k off len) λr=>(xO P H t (.ref k off len)).map (λp=>pL.val p.1 p.2)=some r:=by
 unfold M4;split
 ·rename_i ti g bx cs ht hk;split
  ·rename_i elem hd;split
   ·rename_i te hte;split
    ·rename_i z hz;split
     ·rename_i hc;obtain⟨⟨hc1,eE⟩,gI,gK⟩:=hc;refine MP.bind ou λ_ hp=>MP.bind Ih λcs' hq=>MP.ret ?_
      subst hq;subst hc1;have h2:iE H k off len=some (g,te.size,false,cs):=by
       unfold iE;simp only[hk];rw[if_pos ⟨eE,hp⟩]
      simp only[xO,ht,hd,hte,hz,h2];rw[if_pos ⟨trivial,gI,gK⟩];rfl
     ·exact MP.no
    ·exact MP.no
   ·exact MP.no
  ·exact MP.no
 ·exact MP.no
def OW (C:cE)(f:FuncId)(H:Heap)(slots:List TV)(t:Nat)(o:Oper):M pL:=
 match o.op with
 |.call {callee:=.value fo,args,argTypes}=>(match lq C slots {callee:=.value fo,args,argTypes} with
  |some (g,akR)=>TY H g akR t (Ju C f o)
  |none=>fG)
 |.call {callee:=.invoke recv name,args,argTypes}=>(match Cc C H slots recv name args with
  |some (g,akR)=>TY H g akR t (Ju C f o)
  |none=>fG)
 |.pick c a b=>(match bU C slots c,bU C slots a,bU C slots b with
  |some (.t (.bool x)),some u,some v=>aS (TP x) λc=>bY (.val (if c then u else v) [])
  |_,_,_=>fG)
 |.indexAddr ty x i=>(match bU C slots x,bU C slots i with
  |some x,some i=>Q7 (ya C.P H ty x i)
  |_,_=>fG)
 |.index ty x i=>(match bU C slots x,bU C slots i with
  |some x,some i=>Q7 (MZ C.P ty x i)
  |_,_=>fG)
 |.load ty a=>(match bU C slots a with
  |some a=>Q7 (T3 C.P H ty a)
  |_=>fG)
 |.store ty a x=>(match bU C slots a,bU C slots x with
  |some a,some x=>aS (MX C.P H ty a x) λu=>bY (.val bN u)
  |_,_=>fG)
 |.fieldAddr s x i=>(match bU C slots x with
  |some a=>Q7 (DO C.P H s i a)
  |_=>fG)
 |.slice ty x lo hi mx=>(match bU C slots x,uM C slots lo,uM C slots hi,uM C slots mx with
  |some v,some l,some h,some m=>M1 (o.dst.any (C.jy f)) C.P H (.loc [t]) ty v l h m
  |_,_,_,_=>fG)
 |.lookup ty x k ok=>(match bU C slots x,bU C slots k with
  |some x,some k=>Q7 (T7 C.P H ty x k ok)
  |_,_=>fG)
 |.mapUpdate ty x k v=>(match bU C slots x,bU C slots k,bU C slots v with
  |some x,some k,some v=>aS (abb C.P H ty x k v) λu=>bY (.val bN u)
  |_,_,_=>fG)
 |.mapEntry ty x k=>(match bU C slots x,bU C slots k with
  |some x,some k=>aa8 C.P H ty x k
  |_,_=>fG)
 |.entryStore ty x s v=>(match bU C slots x,bU C slots s,bU C slots v with
  |some x,some s,some v=>aS (aa9 H x s v) λu=>bY (.val bN u)
  |_,_,_=>fG)
 | .call {callee:=.builtin .append,args,argTypes}=>(match args.toList,argTypes.toList with
  | [a,b],[ta,tb]=>(match bU C slots a,bU C slots b with
   |some x,some y=>aS (abe C.P (.loc [t]) H ta tb x y) λp=>bY (.val p.1 p.2)
   |_,_=>fG)
  |_,_=>fG)
 | .call {callee:=.builtin .clear,args,argTypes}=>(match args.toList,argTypes.toList with
  | [a],[ta]=>(match bU C slots a with
   |some (.ref k off len)=>M4 C.P H ta k off len
   |_=>fG)
  |_,_=>fG)
 |.call {callee:=.builtin .max, ..}=>(match aP C mC f H slots t o with
  |some (.val v u)=>aS (Ft v) λv=>bY (.val v u)
  |_=>fG)
 |.call {callee:=.builtin .min, ..}=>(match aP C mC f H slots t o with
  |some (.val v u)=>aS (Ft v) λv=>bY (.val v u)
  |_=>fG)
 | .binOp .add ty x y _=>(match bU C slots x,bU C slots y with
  |some (.t (.str a)),some (.t (.str b))=>aS (MU (qP C.P .add ty x y (.t (.str a)) (.t (.str b)))) λv=>bY (.val v [])
  |_,_=>(match aP C mC f H slots t o with
   |some (.val v u)=>aS (Ft v) λv=>bY (.val v u)
   |_=>fG))
 |.binOp .sub _ _ _ _=>(match aP C mC f H slots t o with
  |some (.val v u)=>aS (Ft v) λv=>bY (.val v u)
  |_=>fG)
 |.binOp .mul _ _ _ _=>(match aP C mC f H slots t o with
  |some (.val v u)=>aS (Ft v) λv=>bY (.val v u)
  |_=>fG)
 |.binOp .quo _ _ _ _=>(match aP C mC f H slots t o with
  |some (.val v u)=>aS (Ft v) λv=>bY (.val v u)
  |_=>fG)
 |.binOp .shr _ _ _ _=>(match aP C mC f H slots t o with
  |some (.val v u)=>aS (Ft v) λv=>bY (.val v u)
  |_=>fG)
 |.convert _ _ _=>(match aP C mC f H slots t o with
  |some (.val v u)=>aS (Ft v) λv=>bY (.val v u)
  |_=>fG)
 |.binOp .neq ty x y _=>(match bU C slots x,bU C slots y with
  |some (.t (.agg a)),some (.t (.agg b))=>aS (MU (qP C.P .neq ty x y (.t (.agg a)) (.t (.agg b)))) λv=>bY (.val v [])
  |_,_=>mO (aP C mC f H slots t o))
 |.binOp .eql ty x y _=>(match bU C slots x,bU C slots y with
  |some (.t (.agg a)),some (.t (.agg b))=>aS (MU (qP C.P .eql ty x y (.t (.agg a)) (.t (.agg b)))) λv=>bY (.val v [])
  |_,_=>mO (aP C mC f H slots t o))
 |_=>mO (aP C mC f H slots t o)
theorem Kq (H:Heap)(slots:List TV)(t:Nat)(o:Oper):b9 ev (OW C f H slots t o) (aP C ev f H slots t o):=by
 unfold OW;split
 ·rename_i fo args ats ho;unfold aP;rw[ho];simp only;split
  ·rename_i g akR hc;rw[hc];exact Kn _ _ _ _ _
  ·exact b9.no
 ·rename_i fo nm args ats ho;unfold aP;rw[ho];simp only;split
  ·rename_i g akR hc;rw[hc];exact Kn _ _ _ _ _
  ·exact b9.no
 ·rename_i c a b ho;split
  ·rename_i x u v h1 h2 h3;refine b9.of_eq (b9.bind (y:=λc=>some (.val (if c then u else v) [])) (DF x) λc _=>b9.ret _) ?_;unfold aP;rw[ho];simp only[evalOp,ho,h1,h2,h3];rfl
  ·exact b9.no
 ·rename_i ty x i ho;split
  ·rename_i a b h1 h2;refine b9.of_eq (Cp (DQ C.P H ty a b)) ?_;unfold aP;rw[ho];simp only[evalOp,ho,h1,h2];rfl
  ·exact b9.no
 ·rename_i ty x i ho;split
  ·rename_i a b h1 h2;refine b9.of_eq (Cp (Q6 C.P ty a b)) ?_;unfold aP;rw[ho];simp only[evalOp,ho,h1,h2];rfl
  ·exact b9.no
 ·rename_i ty a ho;split
  ·rename_i x h1;refine b9.of_eq (Cp (T4 C.P H ty x)) ?_;unfold aP;rw[ho];simp only[evalOp,ho,h1];rfl
  ·exact b9.no
 ·rename_i ty a x ho;split
  ·rename_i u v h1 h2;refine b9.of_eq (b9.bind (y:=λq=>some (.val bN q)) (QZ C.P H ty u v) λq _=>b9.ret _) ?_;unfold aP;rw[ho];simp only[evalOp,ho,h1,h2,w9];cases storeT C.P H ty u v<;>rfl
  ·exact b9.no
 ·rename_i s x i ho;split
  ·rename_i a h1;refine MP.bind (P:=λv=>∃off,lN C.P s i=some off/\pH H a off=some v) ?_ λv hv=>MP.ret ?_
   ·unfold DO;split
    ·rename_i off h2;exact(MP.OT (MY H a off)).mono λv hv=>⟨off,h2,hv⟩
    ·exact MP.no
   ·obtain⟨off,h2,h3⟩:=hv;unfold lN at h2;split at h2<;>try (simp at h2;done)
    rename_i ti C0;split at h2<;>try (simp at h2;done)
    rename_i fs hfs;split at h2<;>try (simp at h2;done)
    rename_i fd hfd;split at h2<;>try (simp at h2;done)
    rename_i tf Sr;split at h2<;>try (simp at h2;done)
    rename_i hz;simp at h2;subst h2;unfold aP;rw[ho];simp only[evalOp,ho,h1,C0,hfs,hfd,Sr,if_neg hz,h3,yD,Option.map_some]
  ·exact b9.no
 ·rename_i ty x lo hi mx ho;split
  ·rename_i v l h m h1 h2 h3 h4;refine b9.of_eq (M3 (o.dst.any (C.jy f)) C.P H (.loc [t]) ty v l h m) ?_;unfold aP AE;rw[ho];simp only[evalOp,ho,h1,h2,h3,h4];cases w8 (o.dst.any (C.jy f)) C.P H (.loc [t]) ty v l h m with
   |some r=>rfl
   | none=>
     simp only
     cases pJ C.P H ty v l h m<;>rfl
  ·exact b9.no
 ·rename_i ty x k ok ho;split
  ·rename_i a b h1 h2;refine b9.of_eq (Cp (T8 C.P H ty a b ok)) ?_;unfold aP;rw[ho];simp only[evalOp,ho,h1,h2];rfl
  ·exact b9.no
 ·rename_i ty x k v ho;split
  ·rename_i a b c h1 h2 h3;refine b9.of_eq (b9.bind (y:=λq=>some (.val bN q)) (XW C.P H ty a b c) λq _=>b9.ret _) ?_;unfold aP;rw[ho];simp only[evalOp,ho,h1,h2,h3,w9];cases iR C.P H ty a b c<;>rfl
  ·exact b9.no
 ·rename_i ty x k ho;split
  ·rename_i a b h1 h2;refine b9.of_eq (XU C.P H ty a b) ?_;unfold aP;rw[ho];simp only[evalOp,ho,h1,h2];cases kX C.P H ty a b<;>rfl
  ·exact b9.no
 ·rename_i ty x s v ho;split
  ·rename_i a b c h1 h2 h3;refine b9.of_eq (b9.bind (y:=λq=>some (.val bN q)) (XV H a b c) λq _=>b9.ret _) ?_;unfold aP;rw[ho];simp only[evalOp,ho,h1,h2,h3,w9];cases iM H a b c<;>rfl
  ·exact b9.no
 ·rename_i args ats ho;split
  ·rename_i a b ta tb ha hta;split
   ·rename_i x y hx hy;refine b9.of_eq (b9.bind (y:=λp=>some (.val p.1 p.2)) (XY C (.loc [t]) H ta tb x y) λp _=>b9.ret _) ?_;unfold aP;rw[ho];have h1:iF C slots args.toList=some [x,y]:=by rw[ha];simp only[iF,hx,hy]
    have h2:kj C (.loc [t]) H .append [ta,tb] [x,y]=jx C.P (.loc [t]) H ta tb x y:=by delta kj;rfl
    simp only[evalOp,ho,h1,hta,h2];cases jx C.P (.loc [t]) H ta tb x y<;>rfl
   ·exact b9.no
  ·exact b9.no
 ·rename_i args ats ho;split
  ·rename_i a ta ha hta;split
   ·rename_i k off len hx;refine b9.of_eq Uf ?_;unfold aP;rw[ho];have h1:iF C slots args.toList=some [.ref k off len]:=by rw[ha];simp only[iF,hx]
    have h2:kj C (.loc [t]) H .clear [ta] [.ref k off len]=xO C.P H ta (.ref k off len):=by delta kj;rfl
    simp only[evalOp,ho,h1,hta,h2];cases xO C.P H ta (.ref k off len)<;>rfl
   ·exact b9.no
  ·exact b9.no
 ·rename_i akR ats ho;have e:aP C mC f H slots t o=aP C ev f H slots t o:=by
   unfold aP;rw[ho]
  split
  ·rename_i v u h;refine b9.of_eq (b9.bind (y:=λv=>some (.val v u)) (nF v) λc _=>b9.ret _) ?_;rw[← e,h];rfl
  ·exact b9.no
 ·rename_i akR ats ho;have e:aP C mC f H slots t o=aP C ev f H slots t o:=by
   unfold aP;rw[ho]
  split
  ·rename_i v u h;refine b9.of_eq (b9.bind (y:=λv=>some (.val v u)) (nF v) λc _=>b9.ret _) ?_;rw[← e,h];rfl
  ·exact b9.no
 ·rename_i ty x y r2 ho;have e:aP C mC f H slots t o=aP C ev f H slots t o:=by
   unfold aP;rw[ho]
  split
  ·rename_i a b h1 h2;refine b9.of_eq (b9.bind (y:=λv=>some (.val v [])) zg λv _=>b9.ret _) ?_;unfold aP;rw[ho];simp only[evalOp,ho,h1,h2,yD];cases qP C.P .add ty x y (.t (.str a)) (.t (.str b))<;>rfl
  ·split
   ·rename_i v u h;refine b9.of_eq (b9.bind (y:=λv=>some (.val v u)) (nF v) λc _=>b9.ret _) ?_;rw[← e,h];rfl
   ·exact b9.no
 ·rename_i ty x y r2 ho;have e:aP C mC f H slots t o=aP C ev f H slots t o:=by
   unfold aP;rw[ho]
  split
  ·rename_i v u h;refine b9.of_eq (b9.bind (y:=λv=>some (.val v u)) (nF v) λc _=>b9.ret _) ?_;rw[← e,h];rfl
  ·exact b9.no
 ·rename_i ty x y r2 ho;have e:aP C mC f H slots t o=aP C ev f H slots t o:=by
   unfold aP;rw[ho]
  split
  ·rename_i v u h;refine b9.of_eq (b9.bind (y:=λv=>some (.val v u)) (nF v) λc _=>b9.ret _) ?_;rw[← e,h];rfl
  ·exact b9.no
 ·rename_i ty x y r2 ho;have e:aP C mC f H slots t o=aP C ev f H slots t o:=by
   unfold aP;rw[ho]
  split
  ·rename_i v u h;refine b9.of_eq (b9.bind (y:=λv=>some (.val v u)) (nF v) λc _=>b9.ret _) ?_;rw[← e,h];rfl
  ·exact b9.no
 ·rename_i ty x y r2 ho;have e:aP C mC f H slots t o=aP C ev f H slots t o:=by
   unfold aP;rw[ho]
  split
  ·rename_i v u h;refine b9.of_eq (b9.bind (y:=λv=>some (.val v u)) (nF v) λc _=>b9.ret _) ?_;rw[← e,h];rfl
  ·exact b9.no
 ·rename_i ty x y ho;have e:aP C mC f H slots t o=aP C ev f H slots t o:=by
   unfold aP;rw[ho]
  split
  ·rename_i v u h;refine b9.of_eq (b9.bind (y:=λv=>some (.val v u)) (nF v) λc _=>b9.ret _) ?_;rw[← e,h];rfl
  ·exact b9.no
 ·rename_i ty x y r2 ho;split
  ·rename_i a b h1 h2;refine b9.of_eq (b9.bind (y:=λv=>some (.val v [])) zg λv _=>b9.ret _) ?_;unfold aP;rw[ho];simp only[evalOp,ho,h1,h2,yD];cases qP C.P .neq ty x y (.t (.agg a)) (.t (.agg b))<;>rfl
  ·have e:aP C mC f H slots t o=aP C ev f H slots t o:=by
    unfold aP;rw[ho]
   rw[← e];exact b9.opt _
 ·rename_i ty x y r2 ho;split
  ·rename_i a b h1 h2;refine b9.of_eq (b9.bind (y:=λv=>some (.val v [])) zg λv _=>b9.ret _) ?_;unfold aP;rw[ho];simp only[evalOp,ho,h1,h2,yD];cases qP C.P .eql ty x y (.t (.agg a)) (.t (.agg b))<;>rfl
  ·have e:aP C mC f H slots t o=aP C ev f H slots t o:=by
    unfold aP;rw[ho]
   rw[← e];exact b9.opt _
 ·rename_i h1 h2 h3 h4 h5 h6 h7 h8 h9 h10 h11 h12 h13 h14 h15 h16 h17 h18 h19 h20 h21 h22 h23 h24 h25;have e:aP C mC f H slots t o=aP C ev f H slots t o:=by
   unfold aP;split
   ·rfl
   ·rename_i fo args ats ho;exact absurd ho (h1 fo args ats)
   ·rename_i r nm args ats ho;exact absurd ho (h2 r nm args ats)
   ·rfl
  rw[← e];exact b9.opt _
def X4 (C:cE)(f:FuncId)(ops:Array Oper):List Oper->St->M (aI×St)
 | [],st=>bY (.normal,st)
 | o::r,st=>aS (Cn ops st.slots o) λw=>match w with
  |false=>X4 C f ops r {st with slots:=cZ st.slots o.dst bN,tick:=st.tick+1}
  |true=>aS (OW C f st.H st.slots st.tick o) λres=>match res with
   |.val v u=>X4 C f ops r {slots:=cZ st.slots o.dst v,H:=st.H.dR u,tick:=st.tick+1}
   |.panic v u l=>bY (.panic v,{st with H:=(st.H.sL l).dR u,tick:=st.tick+1})
theorem Iq (ops:Array Oper):∀(l:List Oper) (st:St),b9 ev (X4 C f ops l st) (BT C ev f ops l st)
 | [],st=>b9.ret _
 | o ::r,st=>by
   refine b9.of_eq (b9.bind (y:=λw=>match w with
     |false=>BT C ev f ops r {st with slots:=cZ st.slots o.dst bN,tick:=st.tick+1}
     | true=>(aP C ev f st.H st.slots st.tick o).bind λres=>match res with
       |.val v u=>BT C ev f ops r {slots:=cZ st.slots o.dst v,H:=st.H.dR u,tick:=st.tick+1}
       |.panic v u l=>some (.panic v,{st with H:=(st.H.sL l).dR u,tick:=st.tick+1})) (DG ops st.slots o) λw _=> ?_) ?_
   · cases w with
     |false=>exact Iq ops r _
     | true=>
       refine b9.bind (Kq st.H st.slots st.tick o) λres _=> ?_
       cases res with
       |val v u=>exact Iq ops r _
       |panic v u l=>exact b9.ret _
   · rw[ BT]
     cases dF ops st.slots o with
     |none=>rfl
     | some w=>
       cases w with
       |false=>rfl
       | true=>
         show(aP C ev f st.H st.slots st.tick o).bind _=_
         cases aP C ev f st.H st.slots st.tick o with
         |none=>rfl
         |some res=>cases res<;>rfl
def Ug (bs:List Nat)(i:Nat):Option Nat->Bool
 |some j=>eU bs j i
 |none=>false
def Kr (C:cE)(ev:aT)(f:FuncId)(ops:Array Oper)(t0 i:Nat)(o:Oper)(s:sG)(sH:Option Nat):Option Rec:=
 (dF ops s.slots o).bind λw=>match w with
  |false=>some ⟨[],.unwanted⟩
  | true=>(L6 C s.H s.slots o).bind λfp=>(aP C ev f (lu s.H fp) s.slots (t0+i) o).bind λres=>match res with
   |.val v u=>some ⟨fp,.val v u⟩
   |.panic v u l=>match sH with
    |some _=>none
    |none=>some ⟨fp,.panic v u l⟩
theorem abf (ops:Array Oper)(bs:List Nat)(t0 i:Nat)(o:Oper)(s:sG)(sH:Option Nat):Sd C ev f ops bs t0 i o s sH=bif Ug bs i sH then some ⟨[],.wg⟩ else Kr C ev f ops t0 i o s sH:=by
 unfold Sd Kr;simp only[s5,Du];have e:(match dF ops s.slots o with
  |none=>none
  |some false=>some ⟨[],.unwanted⟩
  | some true=>
   match L6 C s.H s.slots o with
   |none=>none
   | some fp=>
    match aP C ev f (lu s.H fp) s.slots (t0+i) o with
    |none=>none
    |some (.val v u)=>some ⟨fp,.val v u⟩
    |some (.panic v u l)=>match sH with
     |some _=>none
     |none=>some ⟨fp,.panic v u l⟩:Option Rec)=Kr C ev f ops t0 i o s sH:=by
  unfold Kr
  cases dF ops s.slots o with
  |none=>rfl
  | some w=>
   cases w with
   |false=>rfl
   | true=>
    simp only[Option.bind_some]
    cases L6 C s.H s.slots o with
    |none=>rfl
    |some fp=>
     simp only[Option.bind_some]
     cases aP C ev f (lu s.H fp) s.slots (t0+i) o with
     |none=>rfl
     |some res=>cases res<;>rfl
 unfold Kr at e;cases sH with
 |none=>exact e
 |some j=>
  show(match eU bs j i with|true=>_|false=>_)=bif eU bs j i then _ else _
  cases eU bs j i with
  |true=>rfl
  |false=>exact e
def fpO (C:cE)(H:Heap)(slots:List TV)(o:Oper):M (List Nm):=match o.op with
 |.call {callee:=.value fo,args,argTypes}=>(match lq C slots {callee:=.value fo,args,argTypes} with
  |some (_,akR)=>vA H eN [] (TV.iG akR)
  |none=>fG)
 |.call {callee:=.invoke recv name,args,argTypes}=>(match bU C slots recv,iF C slots args.toList with
  |some v,some akR=>vA H eN [] (v.names++TV.iG akR)
  |_,_=>fG)
 |_=>mO (L6 C H slots o)
theorem adC {H:Heap}{slots:List TV}{o:Oper}:MP ev (fpO C H slots o) λfp=>L6 C H slots o=some fp:=by
 unfold fpO;split
 ·rename_i fo args ats ho;split
  ·rename_i g akR hc;refine(rP _ _ _).mono λS hS=> ?_
   unfold L6;rw[ho];simp only[hc];exact hS.1
  ·exact MP.no
 ·rename_i recv name args ats ho;split
  ·rename_i v akR h1 h2;refine(rP _ _ _).mono λS hS=> ?_
   unfold L6;rw[ho];simp only[h1,h2];exact hS.1
  ·exact MP.no
 ·exact MP.OT (b9.opt _)
def abg (C:cE)(f:FuncId)(ops:Array Oper)(bs:List Nat)(t0 i:Nat)(o:Oper)(s:sG)(sH:Option Nat):M Rec:=
 match Ug bs i sH with
 |true=>bY ⟨[],.wg⟩
 |false=>aS (Cn ops s.slots o) λw=>match w with
  |false=>bY ⟨[],.unwanted⟩
  | true=>aS (fpO C s.H s.slots o) λfp=>aS (OW C f (lu s.H fp) s.slots (t0+i) o) λres=>match res with
    |.val v u=>bY ⟨fp,.val v u⟩
    |.panic v u l=>match sH with
     |some _=>fG
     |none=>bY ⟨fp,.panic v u l⟩
theorem X5 (ops:Array Oper)(bs:List Nat)(t0 i:Nat)(o:Oper)(s:sG)(sH:Option Nat):b9 ev (abg C f ops bs t0 i o s sH) (Sd C ev f ops bs t0 i o s sH):=by
 rw[abf];unfold abg;cases Ug bs i sH with
 |true=>exact b9.ret _
 | false=>
  refine b9.bind (DG ops s.slots o) λw _=> ?_
  cases w with
  |false=>exact b9.ret _
  | true=>
   simp only
   refine b9.bind adC λfp _=> ?_
   refine b9.bind (Kq _ _ _ _) λres _=> ?_
   cases res with
   |val v u=>exact b9.ret _
   |panic v u l=>
    cases sH with
    |none=>exact b9.ret _
    |some _=>exact b9.no
def Uh (C:cE)(f:FuncId)(ops:Array Oper)(bs:List Nat)(t0:Nat):Nat->List Oper->sG->Option Nat->M (List Rec)
 |_,[],_,_=>bY []
 |i,o::r,s,sH=>aS (abg C f ops bs t0 i o s sH) λrec=>aS (Uh C f ops bs t0 (i+1) r (s.after o rec.res) (jG i sH rec.res)) λrs=>bY (rec::rs)
theorem Ks (ops:Array Oper)(bs:List Nat)(t0:Nat):∀(l:List Oper) (i:Nat) (s:sG) (sH:Option Nat),b9 ev (Uh C f ops bs t0 i l s sH) (xQ C ev f ops bs t0 i l s sH)
 | [],i,s,sH=>b9.ret _
 | o::r,i,s,sH=>by
  refine b9.of_eq (b9.bind (X5 ops bs t0 i o s sH) λrec _=>b9.bind (y:=λrs=>some (rec::rs)) (Ks ops bs t0 r (i+1) (s.after o rec.res) (jG i sH rec.res)) λrs _=>b9.ret _) ?_
  rw[xQ]
  cases Sd C ev f ops bs t0 i o s sH with
  |none=>rfl
  |some rec=>
   simp only[Option.bind_some]
   cases xQ C ev f ops bs t0 (i+1) r (s.after o rec.res) (jG i sH rec.res)<;>rfl
noncomputable def M5 (C:cE)(ops:Array Oper)(st:St)(recs:List Rec)(i:Nat)(x:Oper)(rx ry:Rec):Option Prop:=match x.op with
 | .lookup t m k ok=>(match rx.fp,rx.res,ry.res with
  | [nm],.val v [],.val _ [(nm',.map es _)]=>if nm=nm' then(match bU C (iN (x.looksAt ops) 0 (fh ops.toList recs (s0 st) (λ_=>true) i).slots) m,bU C (iN (x.looksAt ops) 0 (fh ops.toList recs (s0 st) (λ_=>true) i).slots) k with
   |some (.map n2),some kv=>if n2=nm then some (BF C.P t es kv ok=some v) else none
   |_,_=>none) else none
  |_,_,_=>none)
 |_=>none
theorem Q8 {st:St}{ops:Array Oper}{recs:List Rec}{i:Nat}{x:Oper}{rx ry:Rec}{p:Prop}(h:M5 C ops st recs i x rx ry=some p)(hp:p):SS C ev f ops st recs i x rx ry:=by
 unfold M5 at h;split at h
 ·rename_i t m k ok hx;split at h
  ·rename_i nm v w nm' es c h1 h2 h3;split at h
   ·rename_i hn;subst hn;split at h
    ·rename_i n2 kv h4 h5;split at h
     ·rename_i hn2;subst hn2;cases h;refine⟨_,_,_,_,h1,h2,h3, ?_⟩;have hg:Heap.get [(n2,aK.map es c)] n2=some (.map es c):=if_pos rfl;unfold aP;rw[hx];simp only[evalOp,hx,h4,h5,T6 hg,hp,yD,Option.map_some]
     ·cases h
    ·cases h
   ·cases h
  ·cases h
 ·cases h
noncomputable def Ui (C:cE)(ops:Array Oper)(st:St)(recs:List Rec)(bs:List Nat)(i j:Nat):M Unit:=match ops.toList[i]?,ops.toList[j]?,recs[i]?,recs[j]? with
 | some x,some y,some rx,some ry=>(match eU bs i j||qQ ops x y rx ry with
  |true=>bY ()
  |false=>(match jH ops x y,M5 C ops st recs i x rx ry with
   |true,some p=>DE p
   |_,_=>fG))
 |_,_,_,_=>bY ()
noncomputable def Uj (C:cE)(ops:Array Oper)(st:St)(recs:List Rec)(bs:List Nat):Nat->Nat->M Unit
 |0,_=>bY ()
 |i+1,j=>aS (Ui C ops st recs bs i j) λ_=>Uj C ops st recs bs i j
noncomputable def Uk (C:cE)(ops:Array Oper)(st:St)(recs:List Rec)(bs:List Nat):Nat->M Unit
 |0=>bY ()
 |j+1=>aS (Uj C ops st recs bs j j) λ_=>Uk C ops st recs bs j
def M6 (C:cE)(ev:aT)(f:FuncId)(ops:Array Oper)(st:St)(recs:List Rec)(i j:Nat):Prop:=∀(x y:Oper) (rx ry:Rec),ops.toList[i]?=some x->ops.toList[j]?=some y->recs[i]?=some rx->recs[j]?=some ry->
 eU (jt ops.toList []) i j=true\/qQ ops x y rx ry=true\/(jH ops x y=true/\SS C ev f ops st recs i x rx ry)
theorem Ul {ops:Array Oper}{st:St}{recs:List Rec}{i j:Nat}:MP ev (Ui C ops st recs (jt ops.toList []) i j) λ_=>M6 C ev f ops st recs i j:=by
 unfold Ui;split
 ·rename_i x y rx ry h1 h2 h3 h4;split
  ·rename_i hb;refine MP.ret λx' y' rx' ry' e1 e2 e3 e4=> ?_
   rw[h1] at e1;rw[h2] at e2;rw[h3] at e3;rw[h4] at e4;cases e1;cases e2;cases e3;cases e4;exact(Bool.or_eq_true _ _▸hb).imp (λh=>h) .inl
  ·split
   ·rename_i p hs hp;refine ou.mono λ_ hpp x' y' rx' ry' e1 e2 e3 e4=> ?_
    rw[h1] at e1;rw[h2] at e2;rw[h3] at e3;rw[h4] at e4;cases e1;cases e2;cases e3;cases e4;exact .inr (.inr ⟨hs,Q8 hp hpp⟩)
   ·exact MP.no
 ·rename_i hn;exact MP.ret λx y rx ry e1 e2 e3 e4=>absurd e4 (hn x y rx ry e1 e2 e3)
theorem Kt {ops:Array Oper}{st:St}{recs:List Rec}{j:Nat}:∀(n:Nat),MP ev (Uj C ops st recs (jt ops.toList []) n j) λ_=>∀i,i<n->M6 C ev f ops st recs i j
 |0=>MP.ret λi hi=>by omega
 | n +1=>MP.bind Ul λ_ h1=>(Kt n).mono λ_ h2 i hi=>by
   rcases Nat.lt_or_ge i n with h|h
   · exact h2 i h
   · have:i=n:=by omega
     subst this;exact h1
theorem Ku {ops:Array Oper}{st:St}{recs:List Rec}:∀(n:Nat),MP ev (Uk C ops st recs (jt ops.toList []) n) λ_=>∀j,j<n->∀i,i<j->M6 C ev f ops st recs i j
 |0=>MP.ret λj hj=>by omega
 | n +1=>MP.bind (Kt n) λ_ h1=>(Ku n).mono λ_ h2 j hj=>by
   rcases Nat.lt_or_ge j n with h|h
   · exact h2 j h
   · have:j=n:=by omega
     subst this;exact h1
noncomputable def Kv (C:cE)(f:FuncId)(ops:Array Oper)(st:St):M (aI×St):=
 aS (Uh C f ops (jt ops.toList []) st.tick 0 ops.toList {slots:=st.slots,H:=st.H} none) λrecs=>match pM 0 ops.toList with
  |true=>(match jk ops ops.toList recs (jt ops.toList []) ops.toList recs 0 with
   |true=>bY (QE ops st recs)
   |false=>aS (Uk C ops st recs (jt ops.toList []) ops.size) λ_=>bY (QE ops st recs))
  |false=>fG
theorem M7 (hm:C.P.prog.follows .mixedOrders=true)(aC:aF C ev){ops:Array Oper}{st:St}{id:Nat}:MP ev (Kv C f ops st) λp=>∀Q,Q p.1 p.2->AW C (.region id ops true) st Q:=
 MP.bind (MP.OT (Ks _ _ _ _ _ _ _)) λrecs Gp=>by
  split
  ·rename_i hb;split
   ·rename_i hf;exact MP.ret λQ hq G0 w0 G w a h0 hs hst=>xZ hm aC Gp (λi j x y rx ry hij hx hy xY SU=>(HG hf hij hx hy xY SU).imp (λh=>h) .inl) hb rfl hst λex a' w' hg=>⟨_,_,hq,Good.comp hs rfl hg⟩
   ·refine MP.bind (Ku ops.size) λ_ hf=>MP.ret λQ hq G0 w0 G w a h0 hs hst=>xZ hm aC Gp (λi j x y rx ry hij hx hy xY SU=>hf j (by
     have:=(List.getElem?_eq_some_iff.1 hy).1;simpa using this) i hij x y rx ry hx hy xY SU) hb rfl hst λex a' w' hg=>⟨_,_,hq,Good.comp hs rfl hg⟩
  ·exact MP.no
def OX (C:cE)(f:FuncId):Code->St->M (aI×St)
 |.skip,st=>bY (.normal,st)
 |.label _,st=>bY (.normal,st)
 |.region _ ops draw,st=>match draw with
  |true=>Kv C f ops st
  |false=>X4 C f ops ops.toList st
 |.exit id,st=>bY (.exit id,st)
 |.ret,st=>bY (.ret,st)
 |_,_=>fG
theorem X6 (hm:C.P.prog.follows .mixedOrders=true)(aC:aF C ev):∀(c:Code) (st:St),MP ev (OX C f c st) λp=>∀Q,Q p.1 p.2->AW C c st Q:=by
 have ev':∀{c:Code} {st:St} {m:M (aI×St)},b9 ev m (evalCode C ev f 0 c st)->MP ev m λp=>∀Q,Q p.1 p.2->AW C c st Q:=λh=>(MP.OT h).mono λp hp Q hq=>AW.eval hm aC hp hq
 intro c st;cases c with
 |skip=>exact ev' (b9.ret _)
 |label l=>exact ev' (b9.ret _)
 |region id ops draw=>
  cases draw with
  |true=>exact M7 hm aC
  |false=>exact ev' (Iq ops ops.toList st)
 |exit id=>exact ev' (b9.ret _)
 |ret=>exact ev' (b9.ret _)
 |_=>exact MP.no
theorem vB {P:Program}{c:Code}{R R':Exit->Act->World->Prop}(h:∀ex a w,R ex a w->R' ex a w):∀(n:Nat) {a:Act} {w:World},Code.rounds P c R n a w->Code.rounds P c R' n a w
 |0,_,_,h0=>h0
 |n+1,a,w,h1=>by
  rw[rounds_succ] at h1 ⊢
  refine wp_mono h1 λex a' w' hx=> ?_
  cases ex<;>first|exact vB h n hx|exact h _ _ _ hx
def Jn (C:cE)(b:Code)(n:Nat)(st:St)(Q:aI->St->Prop):Prop:=∀(G0:Gh) (w0:World) (G:Gh) (w:World) (a a1:Act),(∀p,¬G0.dom (.loc p))->dw G0 w0 G w->a1.defers=a.defers->uI C G w st a1->
 Code.rounds C.P b (λex a' w'=>∃e st',Q e st'/\Good C G0 w0 a e st' ex a' w') n a1 w
theorem Jn.mono {b:Code}{n:Nat}{st:St}{Q Q':aI->St->Prop}(h:Jn C b n st Q)(k:∀e s,Q e s->Q' e s):Jn C b n st Q':=λG0 w0 G w a a1 h0 hs hd hst=>vB (λ_ _ _ ⟨e,s,hq,hg⟩=>⟨e,s,k e s hq,hg⟩) n (h G0 w0 G w a a1 h0 hs hd hst)
theorem Jn.loop {b:Code}{n:Nat}{st:St}{Q:aI->St->Prop}(h:Jn C b n st Q):AW C (.loop b) st Q:=λG0 w0 G w a h0 hs hst=>wp_loop_rounds n (h G0 w0 G w a a h0 hs rfl hst)
def adD (C:cE)(b:Code)(n:Nat)(Q:aI->St->Prop):aI->St->Prop
 |.normal,s=>Jn C b n s Q
 |e,s=>Q e s
theorem Jn.succ {b:Code}{n:Nat}{st:St}{Q:aI->St->Prop}(h:AW C b st (adD C b n Q)):Jn C b (n+1) st Q:=by
 intro G0 w0 G w a a1 h0 hs hd hst;rw[rounds_succ];refine wp_mono (h G0 w0 G w a1 h0 hs hst) λex a2 w2 ⟨e,st1,hq,hg⟩=> ?_
 cases e with
 |normal=>
  obtain⟨rfl,hd2,G1,hs1,jN⟩:=hg.pS
  exact hq G0 w0 G1 w2 a a2 h0 hs1 (hd2.trans hd) jN
 |exit id=>exact gy (hg.gx (by simp)) ⟨_,_,hq,Good.Fp hd hg⟩
 |ret=>exact gy (hg.gx (by simp)) ⟨_,_,hq,Good.Fp hd hg⟩
 |panic v=>exact gy (hg.gx (by simp)) ⟨_,_,hq,Good.Fp hd hg⟩
inductive Fr where
 |c (x:Code)
 |b (id:Nat)
 |x (b:Code) (n:Nat)
def KE (C:cE)(Q:aI->St->Prop):List Fr->aI->St->Prop
 | [],e,s=>Q e s
 |.c x::K,.normal,s=>AW C x s (KE C Q K)
 |.c _::K,.exit i,s=>KE C Q K (.exit i) s
 |.c _::K,.ret,s=>KE C Q K .ret s
 |.c _::K,.panic v,s=>KE C Q K (.panic v) s
 |.b id::K,.exit i,s=>if i=id then KE C Q K .normal s else KE C Q K (.exit i) s
 |.b _::K,.normal,s=>KE C Q K .normal s
 |.b _::K,.ret,s=>KE C Q K .ret s
 |.b _::K,.panic v,s=>KE C Q K (.panic v) s
 |.x b n::K,.normal,s=>Jn C b n s (KE C Q K)
 |.x _ _::K,.exit i,s=>KE C Q K (.exit i) s
 |.x _ _::K,.ret,s=>KE C Q K .ret s
 |.x _ _::K,.panic v,s=>KE C Q K (.panic v) s
theorem KE.seq {Q:aI->St->Prop}{a b:Code}{K:List Fr}{s:St}(h:KE C Q (.c a:: .c b::K) .normal s):KE C Q (.c (.seq a b)::K) .normal s:=by
 refine AW.seq (AW.mono h λe s' h=> ?_);cases e with
 |normal=>exact h
 |_=>exact h
theorem KE.block {Q:aI->St->Prop}{id:Nat}{x:Code}{K:List Fr}{s:St}(h:KE C Q (.c x:: .b id::K) .normal s):KE C Q (.c (.block id x)::K) .normal s:=by
 refine AW.block (AW.mono h λe s' h=> ?_);cases e with
 |exit i=>exact h
 |_=>exact h
theorem KE.cond {Q:aI->St->Prop}{c:Operand}{a b:Code}{K:List Fr}{s:St}{q:Bool}(hc:bU C s.slots c=some (.t (.bool q)))(h:KE C Q (.c (cond q a b)::K) .normal s):KE C Q (.c (.cond c a b)::K) .normal s:=by
 cases q with
 |true=>exact AW.cond hc (λ_=>h) λe=>by cases e
 |false=>exact AW.cond hc (λe=>by cases e) λ_=>h
theorem KE.round {Q:aI->St->Prop}{b:Code}{n:Nat}{K:List Fr}{s:St}(h:KE C Q (.c b:: .x b n::K) .normal s):Jn C b (n+1) s (KE C Q K):=Jn.succ (AW.mono h λe s' h=>by cases e<;>exact h)
theorem KE.rounds {Q:aI->St->Prop}{b:Code}{n:Nat}{K:List Fr}{s:St}(h:KE C Q (.x b n::K) .normal s):KE C Q (.c (.loop b)::K) .normal s:=Jn.loop h
def tq:Code->Option Nat
 |.seq a b=>(tq a).or (tq b)
 |.cond _ a b=>(tq a).or (tq b)
 |.block _ c=>tq c
 |.loop c=>tq c
 |.region id _ _=>some id
 |_=>none
def isIn (l:List Nat):Option Nat->Bool
 |some r=>l.any (Nat.beq r)
 |none=>false
def goK (C:cE)(f:FuncId)(once:List Nat)(stop:Nat):Nat->List Fr->aI->St->M (List Fr×aI×St)
 |0,_,_,_=>fG
 |_+1,[],e,s=>bY ([],e,s)
 | n+1,.x b i::K,e,s=>match e with
  |.normal=>(match i with
   |0=>fG
   |i+1=>goK C f once stop n (.c b:: .x b i::K) .normal s)
  |e=>goK C f once stop n K e s
 | n+1,.b id::K,e,s=>match e with
  |.exit i=>(match Nat.beq i id with
   |true=>goK C f once stop n K .normal s
   |false=>goK C f once stop n K (.exit i) s)
  |e=>goK C f once stop n K e s
 | n+1,.c x::K,e,s=>match e with
  | .normal=>(match x with
   |.seq a b=>goK C f once stop n (.c a:: .c b::K) .normal s
   |.block id x=>goK C f once stop n (.c x:: .b id::K) .normal s
   |.loop x=>(match isIn once (tq x) with
    |true=>goK C f once stop n (.x x 40::K) .normal s
    |false=>bY (.c (.loop x)::K,.normal,s))
   |.cond c a b=>(match bU C s.slots c with
    |some (.t (.bool q))=>aS (TP q) λq=>goK C f once stop n (.c (cond q a b)::K) .normal s
    |_=>fG)
   |.region id ops d=>(match Nat.beq id stop with
    |true=>bY (.c (.region id ops d)::K,.normal,s)
    |false=>aS (OX C f (.region id ops d) s) λp=>goK C f once stop n K p.1 p.2)
   |x=>aS (OX C f x s) λp=>goK C f once stop n K p.1 p.2)
  |e=>goK C f once stop n K e s
theorem tu (hm:C.P.prog.follows .mixedOrders=true)(aC:aF C ev){once:List Nat}{stop:Nat}:∀(n:Nat) (K:List Fr) (e:aI) (s:St),MP ev (goK C f once stop n K e s) λp=>∀Q,KE C Q p.1 p.2.1 p.2.2->KE C Q K e s:=by
 intro n;induction n with
 |zero=>intro K e s;exact MP.no
 | succ n ih =>
   intro K e s
   have code:∀(x:Code) (K:List Fr),MP ev (aS (OX C f x s) λp=>goK C f once stop n K p.1 p.2) λp=>∀Q,KE C Q p.1 p.2.1 p.2.2->KE C Q (.c x::K) .normal s:=λx K=>
     MP.bind (X6 hm aC x s) λp hx=>(ih K p.1 p.2).mono λq hq Q hk=>hx _ (hq Q hk)
   cases K with
   |nil=>exact MP.ret λQ h=>h
   | cons fr K=>
     cases fr with
     | x b i=>
       cases e with
       | normal=>
         cases i with
         |zero=>exact MP.no
         |succ i=>exact(ih (.c b:: .x b i::K) .normal s).mono λq hq Q hk=>KE.round (hq Q hk)
       |exit i=>exact ih K (.exit i) s
       |ret=>exact ih K .ret s
       |panic v=>exact ih K (.panic v) s
     | b id=>
       cases e with
       | exit i=>
         cases hb:Nat.beq i id with
         | true=>
           simp only[goK,hb]
           refine(ih K .normal s).mono λq hq Q hk=> ?_
           show if i=id then _ else _
           rw[if_pos (Nat.eq_of_beq_eq_true hb)]
           exact hq Q hk
         | false=>
           simp only[goK,hb]
           refine(ih K (.exit i) s).mono λq hq Q hk=> ?_
           show if i=id then _ else _
           rw[if_neg (Nat.ne_of_beq_eq_false hb)]
           exact hq Q hk
       |normal=>exact ih K .normal s
       |ret=>exact ih K .ret s
       |panic v=>exact ih K (.panic v) s
     | c x =>
       cases e with
       |exit i=>exact ih K (.exit i) s
       |ret=>exact ih K .ret s
       |panic v=>exact ih K (.panic v) s
       | normal=>
         cases x with
         |seq a b=>exact(ih (.c a:: .c b::K) .normal s).mono λq hq Q hk=>KE.seq (hq Q hk)
         |block id x=>exact(ih (.c x:: .b id::K) .normal s).mono λq hq Q hk=>KE.block (hq Q hk)
         | loop x=>
           simp only[goK]
           split
           · exact(ih (.x x 40::K) .normal s).mono λq hq Q hk=>KE.rounds (hq Q hk)
           · exact MP.ret λQ h=>h
         | cond c a b=>
           simp only[goK]
           split
           · rename_i q hc
             refine MP.bind (MP.OT (DF q)) λq' hq'=>(ih (.c (cond q' a b)::K) .normal s).mono λr hr Q hk=> ?_
             cases hq'
             exact KE.cond hc (hr Q hk)
           · exact MP.no
         | region id ops d=>
           simp only[goK]
           split
           · exact MP.ret λQ h=>h
           · exact code _ _
         |skip=>exact code .skip K
         |rangeFunc a b c d=>exact code (.rangeFunc a b c d) K
         |exit i=>exact code (.exit i) K
         |scope b=>exact code (.scope b) K
         |label l=>exact code (.label l) K
         |goto l=>exact code (.goto l) K
         |ret=>exact code .ret K
         |refuse w=>exact code (.refuse w) K
end ops
abbrev Ob (ev:aT):={c:Cl // c.holds ev}
def rq {α:Type}:Nat->α->List α->List α
 |0,_,l=>l
 |n+1,a,l=>a::rq n a l
abbrev vals {ev:aT}(l:List (Ob ev)):List Cl:=l.map (·.1)
section obs
variable {ev:aT}
abbrev oT:Ob ev:=⟨.b true true,rfl⟩
abbrev oF:Ob ev:=⟨.b false false,rfl⟩
abbrev oB {x c:Bool}(h:x=c):Ob ev:=⟨.b x c,h⟩
abbrev oC {g:FuncId}{akR:List TV}{os:List aK}{x:bB}(h:ev g akR os=some x):Ob ev:=⟨.r g akR os x,h⟩
abbrev oE {l:List Tree}{i:Nat}{x:Tree}(h:l[i]?=some x):Ob ev:=⟨.e l i x,h⟩
abbrev oV {x y:TV}(h:x=y):Ob ev:=⟨.v x y,h⟩
abbrev oN {o:aK}(h:∀σ,o.rn σ=some o):Ob ev:=⟨.n o,h⟩
theorem mQ (l:List (Ob ev)):∀c∈vals l,c.holds ev:=λc hc=>by
 obtain⟨o,_,rfl⟩:=List.mem_map.1 hc;exact o.2
abbrev oU (ag:Bool)(sz:Nat)(es:List Tree)(h:ey ag sz es)(hn:es≠ []):Ob ev:=⟨.u ag sz es,h,hn⟩
abbrev oW (ag:Bool)(sz:Nat)(fs:List Tree)(h:ey ag sz fs):Ob ev:=⟨.w ag sz fs fs.length ((flat fs).map .t),rfl,rfl,h⟩
abbrev oA (a:Nat)(h:a<=70368744177664):Ob ev:=⟨.l a eC,h⟩
abbrev oZ:Ob ev:=⟨.z,trivial⟩
abbrev oQ (l:List Tree):Ob ev:=⟨.pp (((flat l).map TV.t).length=((flat l).map TV.t).length),rfl⟩
abbrev oP {p:Prop}(h:p):Ob ev:=⟨.pp p,h⟩
abbrev oO {x:Option TV}{v:TV}(h:x=some v):Ob ev:=⟨.po x v,h⟩
abbrev oK {x y:List TV}(h:x=y):Ob ev:=⟨.pc x y,h⟩
abbrev oM {x:Option (List (TV×TV×Nat)×Nat)}{y:List (TV×TV×Nat)}{c:Nat}(h:x=some (y,c)):Ob ev:=⟨.pm x y c,h⟩
abbrev oX (ag:Bool)(sz:Nat)(fs:List Tree)(len:Nat)(hl:len=fs.length)(h:ey ag sz fs):Ob ev:=⟨.w ag sz fs len ((flat fs).map .t),rfl,hl,h⟩
abbrev oH {l:List Tree}{i:Nat}{x:Tree}(h:l[i]?=some x):Ob ev:=⟨.l (i+1) l.length,(List.getElem?_eq_some_iff.1 h).1⟩
abbrev LZ (a b:Nat)(h:a+b<9223372036854775808):Ob ev:=⟨.v (.t (.int .i64 (IntKind.i64.wrap ((a:Int)+(b:Int))))) (.t (.int .i64 ((a+b:Nat):Int))),by
 show TV.t _=TV.t _;rw[wrap64 (by omega) (by omega)];rfl⟩
abbrev oJ {x:Option (TV×List (TV×TV×Nat)×Nat)}{v:TV}{y:List (TV×TV×Nat)}{c:Nat}(h:x=some (v,y,c)):Ob ev:=⟨.pe x v y c,h⟩
abbrev oR (a b:Nat)(h:a<=b):Ob ev:=⟨.l a b,h⟩
theorem Gy {sz:Nat}{es:List Tree}{i j m:Nat}{e:Tree}(hu:∀e∈es,e.cells.length=sz)(he:es[i]?=some e)(hj:j+m<=sz):i*sz+j+m<=((flat es).map TV.t).length:=by
 have hi:i<es.length:=(List.getElem?_eq_some_iff.1 he).1;rw[List.length_map,fu hu];have:(i+1) *sz<=es.length*sz:=Nat.mul_le_mul_right _ hi;rw[Nat.succ_mul] at this;omega
abbrev oS (n:Nat)(h:1<=n)(h2:n<9223372036854775807):Ob ev:=⟨.v (.t (.int .i64 (IntKind.i64.wrap ((n:Int) - 1)))) (.t (.int .i64 ((n - 1:Nat):Int))),by
 show TV.t _=TV.t _;rw[wrap64 (by omega) (by omega),show((n - 1:Nat):Int)=(n:Int) - 1 by omega]⟩
abbrev oG (k:IntKind)(a b:Int):Ob ev:=⟨.v (.t (.int k (if b>a then b else a))) (.t (.int k (max a b))),by
 show TV.t _=TV.t _;rw[show(if b>a then b else a)=max a b from by rw[Int.max_def];split<;>split<;>omega]⟩
abbrev oL (k:IntKind)(a b:Int):Ob ev:=⟨.v (.t (.int k (if b<a then b else a))) (.t (.int k (min a b))),by
 show TV.t _=TV.t _;rw[show(if b<a then b else a)=min a b from by rw[Int.min_def];split<;>split<;>omega]⟩
abbrev oI (n:Nat)(h:n<9223372036854775807):Ob ev:=⟨.v (.t (.int .i64 (IntKind.i64.wrap ((n:Int)+1)))) (.t (.int .i64 ((n+1:Nat):Int))),by
 show TV.t _=TV.t _;rw[wrap64 (by omega) (by omega)];rfl⟩
end obs
def OY (S:List Nm)(slots:List TV):List Nat->Option (List (Nat×TV))
 | []=>some []
 | i::r=>match slots[i]?,OY S slots r with
  |some v,some l=>(match v.rn (JV S) with
   |some v=>some ((i,v)::l)
   |none=>none)
  |_,_=>none
def OZ (S:List Nm)(H:Heap):List Nm->M Heap
 | []=>bY []
 |k::r=>match H.get k,JV S k with
  |some o,some k'=>aS (rnO (JV S) o) λo=>aS (OZ S H r) λh=>bY ((k',o)::h)
  |_,_=>fG
def BG (n:Nat)(S ks:List Nm)(live:List Nat)(T:Nat)(s:St):M St:=
 match Nat.beq s.slots.length n&&S.all Nm.eY&&decide S.Nodup&&S.all (λk=>(s.H.get k).isSome)&&Nat.ble S.length T,OY S s.slots live with
 |true,some sp=>aS (OZ S s.H ks) λH=>bY ⟨dU n sp,H,T⟩
 |_,_=>fG
section norm
variable {ev:aT}{C:cE}
theorem Kw {S:List Nm}{slots:List TV}:∀{live:List Nat} {sp:List (Nat×TV)},OY S slots live=some sp->∀i,look sp i=.any\/∃v,slots[i]?=some v/\v.rn (JV S)=some (look sp i)
 | [],sp,h,i=>by cases h;exact .inl rfl
 | j ::r,sp,h,i=>by
   simp only[OY] at h
   split at h
   · rename_i v l h1 h2
     split at h
     · rename_i v' h3
       cases h
       rw[mL]
       by_cases e:i=j
       · subst e;rw[if_pos rfl];exact .inr ⟨v,h1,h3⟩
       · rw[if_neg e];exact Kw h2 i
     · cases h
   · cases h
theorem Ky {S:List Nm}{H:Heap}:∀{ks:List Nm},MP ev (OZ S H ks) λH'=>Dj (JV S) H H'
 | []=>MP.ret trivial
 | k ::r=>by
   simp only[OZ]
   split
   · rename_i o k' h1 h2
     exact MP.bind MV λo' ho=>MP.bind (Ky (ks:=r)) λh hh=>MP.ret ⟨⟨k,o,h1,h2,.inl ho⟩,hh⟩
   · exact MP.no
theorem O0 {σ:Nm->Option Nm}:∀{xs ys:List TV},xs.length=ys.length->(∀(i:Nat) (y:TV),ys[i]?=some y->y=TV.any\/∃x:TV,xs[i]?=some x/\x.rn σ=some y)->qm σ xs ys
 | [],[],_,_=>trivial
 | x ::xs,y::ys,hl,h=>by
   refine⟨?_,O0 (by simpa using hl) λi y hy=> ?_⟩
   · rcases h 0 y rfl with e|⟨x',e1,e2⟩
     · exact .inl e
     · cases e1;exact .inr e2
   · rcases h (i+1) y (by simpa using hy) with e|⟨x',e1,e2⟩
     · exact .inl e
     · exact .inr ⟨x',by simpa using e1,e2⟩
 | [],_::_,hl,_=>by simp at hl
 |_::_,[],hl,_=>by simp at hl
theorem rQ {n:Nat}{S ks:List Nm}{live:List Nat}{T:Nat}{s:St}:MP ev (BG n S ks live T s) λs2=>Re C s s2:=by
 unfold BG;split
 ·rename_i sp hb hs;refine MP.bind Ky λH' h1=>MP.ret ?_
  simp only[Bool.and_eq_true] at hb;obtain⟨⟨⟨⟨b1,b2⟩,b3⟩,b4⟩,b5⟩:=hb;have hn:=Nat.eq_of_beq_eq_true b1;obtain⟨slots,H,t⟩:=s;refine Re.mk S (O0 (by rw[fJ];exact hn) λi y hy=> ?_) h1 (of_decide_eq_true b3) b2 (λk hk=>List.all_eq_true.1 b4 k hk) (Nat.le_of_ble_eq_true b5);have hi:i<n:=by have:=(List.getElem?_eq_some_iff.1 hy).1;simpa [fJ] using this
  rw[nU hi] at hy;cases hy;exact Kw hs i
 ·exact MP.no
end norm
section rules
variable {ev:aT}{C:cE}{f:FuncId}{R:Type}
theorem AX.frames {c:Code}{st:St}{Q:R->aI->St->Prop}(h:∃r,KE C (Q r) [.c c] .normal st):AX C c st Q:=h.imp λ_ h=>AW.mono h λ_ _ h=>h
def abh (H:Heap)(v:TV):M (TV×List Nm):=match Ii v with
 |true=>aS (QY H fT v) λp=>bY (.t p.1,p.2)
 |false=>bY (match oe H fT v with
  |some (x,ks)=>(.t x,ks)
  |none=>(v,[]))
theorem X7 {H:Heap}{v:TV}:MP ev (abh H v) λp=>(∃x ks,oe H fT v=some (x,ks)/\p=(.t x,ks))\/(oe H fT v=none/\p=(v,[])):=by
 unfold abh;split
 ·exact MP.bind (Ik H fT v) λp hp=>MP.ret (.inl ⟨p.1,p.2,hp,rfl⟩)
 ·refine MP.ret ?_;cases h:oe H fT v with
  |none=>exact .inr ⟨rfl,rfl⟩
  |some q=>exact .inl ⟨q.1,q.2,rfl,rfl⟩
def Cq (C:cE)(fn:Func)(n:Nat)(st:St):M bB:=
 match iT C st fn.results.toList with
 |none=>fG
 |some vs=>aS (abh st.H (uN vs)) λp=>match nO (st.H.dR (cW st.H p.2)) 0 n with
  |none=>fG
  |some os=>aS (Im os) λl=>aS (vA (st.H.dR (cW st.H p.2)) eN [] (p.1.names++l)) λR=>mO ((j6 (st.H.dR (cW st.H p.2)) R).map λh=>.ret p.1 os h)
theorem Gz {fn:Func}{n:Nat}{st:St}:MP ev (Cq C fn n st) λr=>finish C fn n st=some r:=by
 unfold Cq;split
 ·exact MP.no
 ·rename_i vs hv;refine MP.bind X7 λp hp=> ?_
  split
  ·exact MP.no
  ·rename_i os ho;refine MP.bind DJ λl hl=>MP.bind (rP _ _ _) λR hR=>(MP.OT (b9.opt _)).mono λr hr=> ?_
   have h1:=hR.1;rw[← hl] at h1;unfold finish;rcases hp with ⟨x,ks,h2,rfl⟩|⟨h2,rfl⟩
   ·simp only at ho h1 hr;simp only[hv,h2,ho,h1];exact hr
   ·simp only at ho h1 hr;simp only[hv,h2,ho,h1];exact hr
def Q9 (C:cE)(fn:Func)(m:Nat)(p:List Fr×aI×St):M bB:=match p with
 |([],.normal,s)=>Cq C fn m s
 |([],.ret,s)=>Cq C fn m s
 |([],.panic v,s)=>(match v.names.any Nm.eY with
  |false=>bY (.panic v (oh s.H 0 m))
  |true=>fG)
 |_=>fG
theorem X8 {fn:Func}{m:Nat}{p:List Fr×aI×St}:MP ev (Q9 C fn m p) λr=>KE C (HN C fn m r) p.1 p.2.1 p.2.2:=by
 unfold Q9;split
 ·exact Gz.mono λr h=>.inl h
 ·exact Gz.mono λr h=>.inl h
 ·split
  ·rename_i hv;exact MP.ret ⟨hv,rfl⟩
  ·exact MP.no
 ·exact MP.no
theorem adE (hm:C.P.prog.follows .mixedOrders=true)(aC:aF C ev){fn:Func}{once:List Nat}{m n:Nat}{r:bB}{K:List Fr}{e:aI}{s:St}(obs:List (Ob ev))(h:aS (goK C f once 100000 n K e s) (Q9 C fn m) (vals obs)=some (r,[],vals obs)):KE C (HN C fn m r) K e s:=
 MP.bind (tu hm aC n K e s) (λp hp=>X8.mono λr hr=>hp _ hr) _ _ _ _ h (mQ obs)
def DR (n:Nat)(S ks:List Nm)(live:List Nat)(T:Nat)(p:List Fr×aI×St):M St:=match p with
 |([],.normal,s)=>BG n S ks live T s
 |_=>fG
theorem Ra {n T:Nat}{S ks:List Nm}{live:List Nat}{p:List Fr×aI×St}:MP ev (DR n S ks live T p) λs2=>KE C (λe s=>e=.normal/\Re C s s2) p.1 p.2.1 p.2.2:=by
 unfold DR;split
 ·exact rQ.mono λs2 h=>⟨rfl,h⟩
 ·exact MP.no
theorem Um (hm:C.P.prog.follows .mixedOrders=true)(aC:aF C ev){once:List Nat}{n k T:Nat}{S ks:List Nm}{live:List Nat}{s2:St}{K:List Fr}{e:aI}{s:St}(obs:List (Ob ev))(h:aS (goK C f once 100000 n K e s) (DR k S ks live T) (vals obs)=some (s2,[],vals obs)):
 KE C (λe s=>e=.normal/\Re C s s2) K e s:=
 MP.bind (tu hm aC n K e s) (λp hp=>Ra.mono λr hr=>hp _ hr) _ _ _ _ h (mQ obs)
def BH (p:Code->Bool):Code->List Fr->Option (Code×List Fr)
 |.seq a b,K=>(BH p a (.c b::K)).or (BH p b K)
 |.cond _ a b,K=>(BH p a K).or (BH p b K)
 |.block id c,K=>BH p c (.b id::K)
 |.loop c,K=>match p (.loop c) with
  |true=>some (c,K)
  |false=>BH p c []
 |x,K=>match p x with
  |true=>some (x,K)
  |false=>none
def X9 (r:Nat):Code->Bool
 |.loop c=>match tq c with
  |some i=>Nat.beq i r
  |none=>false
 |_=>false
def adF (r:Nat):Code->Bool
 |.region id _ _=>Nat.beq id r
 |_=>false
def lU (B:Code)(r:Nat):Code×List Fr:=(BH (X9 r) B []).getD (.skip,[])
def adG (B:Code)(r:Nat):Code×List Fr:=(BH (adF r) B []).getD (.skip,[])
def O1 (n:Nat)(S ks:List Nm)(live:List Nat)(T:Nat)(p:List Fr×aI×St):M ((Code×List Fr)×St):=match p with
 |(.c (.loop b)::K,.normal,s)=>aS (BG n S ks live T s) λs=>bY ((b,K),s)
 |_=>fG
theorem Un {n T:Nat}{S ks:List Nm}{live:List Nat}{p:List Fr×aI×St}:MP ev (O1 n S ks live T p) λq=>∃s,p=(.c (.loop q.1.1)::q.1.2,.normal,s)/\Re C s q.2:=by
 unfold O1;split
 ·exact MP.bind rQ λs2 h=>MP.ret ⟨_,rfl,h⟩
 ·exact MP.no
theorem adH (hm:C.P.prog.follows .mixedOrders=true)(aC:aF C ev){α:Type}(st:α->St)(ok:α->Prop)(μ:α->Nat)(x0:α){once:List Nat}{n k T:Nat}{S ks:List Nm}{live:List Nat}{K:List Fr}{e:aI}{s:St}{Q:R->aI->St->Prop}(L:Code×List Fr)(obs:List (Ob ev))
 (h:aS (goK C f once 100000 n K e s) (O1 k S ks live T) (vals obs)=some ((L,st x0),[],vals obs))(h0:ok x0)
 (hs:∀x,ok x->∃o,KE C (s9 C st (λy=>ok y/\μ y<μ x) (λr=>KE C (Q r) L.2) o) [.c L.1] .normal (st x)):∃r,KE C (Q r) K e s:=by
 have key:∃p:List Fr×aI×St,(∀Q,KE C Q p.1 p.2.1 p.2.2->KE C Q K e s)/\∃s,p=(.c (.loop L.1)::L.2,.normal,s)/\Re C s (st x0):=
  MP.bind (tu hm aC n K e s) (λp hp=>Un.mono λq hq=>show ∃p:List Fr×aI×St,(∀Q,KE C Q p.1 p.2.1 p.2.2->KE C Q K e s)/\∃s,p=(.c (.loop q.1.1)::q.1.2,.normal,s)/\Re C s q.2 from⟨p,hp,hq⟩) _ _ _ _ h (mQ obs)
 obtain⟨p,hp,s',rfl,Fq⟩:=key
 obtain⟨r,hr⟩:=AX.loop (C:=C) (Q:=λr=>KE C (Q r) L.2) st ok μ x0 Fq h0 λx hx=>AX.frames (hs x hx)
 exact⟨r,hp _ hr⟩
abbrev GoR:=Option ((List Fr×aI×St)×List Cl×List Cl)
def exOf (r:GoR):aI:=match r with
 |some ((_,e,_),_,_)=>e
 |none=>.normal
def stOf (r:GoR):St:=match r with
 |some ((_,_,s),_,_)=>s
 |none=>⟨[],[],0⟩
def O2 (r:GoR):Option (List Cl×List Cl):=match r with
 |some (([],.exit _,_),c,e)=>some (c,e)
 |some (([],.ret,_),c,e)=>some (c,e)
 |some (([],.panic _,_),c,e)=>some (c,e)
 |_=>none
theorem adI (hm:C.P.prog.follows .mixedOrders=true)(aC:aF C ev){α:Type}{st:α->St}{P:α->Prop}{Q:R->aI->St->Prop}{once:List Nat}{n:Nat}{K:List Fr}{e:aI}{s:St}(obs:List (Ob ev))(h:O2 (goK C f once 100000 n K e s (vals obs))=some ([],vals obs))
 (k:∃r,Q r (exOf (goK C f once 100000 n K e s (vals obs))) (stOf (goK C f once 100000 n K e s (vals obs)))):∃o,KE C (s9 C st P Q o) K e s:=by
 have hv:=mQ obs
 obtain⟨r,hr⟩:=k
 refine⟨.inr r, ?_⟩
 cases hg:goK C f once 100000 n K e s (vals obs) with
 |none=>rw[hg] at h;cases h
 | some q=>
  obtain⟨⟨K',e',s'⟩,c,em⟩:=q
  rw[hg] at h hr
  cases K' with
  |cons=>cases h
  |nil=>
   cases e' with
   |normal=>cases h
   |exit i=>cases h;exact tu hm aC _ _ _ _ _ _ _ _ hg hv _ hr
   |ret=>cases h;exact tu hm aC _ _ _ _ _ _ _ _ hg hv _ hr
   |panic v=>cases h;exact tu hm aC _ _ _ _ _ _ _ _ hg hv _ hr
def atO (n:Nat)(S ks:List Nm)(live:List Nat)(T:Nat)(p:List Fr×aI×St):M ((Code×List Fr)×St):=match p with
 |(.c x::K,.normal,s)=>aS (BG n S ks live T s) λs=>bY ((x,K),s)
 |_=>fG
theorem abi {n T:Nat}{S ks:List Nm}{live:List Nat}{p:List Fr×aI×St}:MP ev (atO n S ks live T p) λq=>∃s,p=(.c q.1.1::q.1.2,.normal,s)/\Re C s q.2:=by
 unfold atO;split
 ·exact MP.bind rQ λs2 h=>MP.ret ⟨_,rfl,h⟩
 ·exact MP.no
theorem kAt (hm:C.P.prog.follows .mixedOrders=true)(aC:aF C ev)(B:Code)(stop:Nat){once:List Nat}{n k T:Nat}{S ks:List Nm}{live:List Nat}{K:List Fr}{e:aI}{s:St}{Q:R->aI->St->Prop}{x:Code}{K':List Fr}(hL:adG B stop=(x,K'))(s2:St)(obs:List (Ob ev))
 (h:aS (goK C f once stop n K e s) (atO k S ks live T) (vals obs)=some ((adG B stop,s2),[],vals obs))(k:AX C x s2 λr=>KE C (Q r) K'):∃r,KE C (Q r) K e s:=by
 rw[hL] at h
 have key:∃p:List Fr×aI×St,(∀Q,KE C Q p.1 p.2.1 p.2.2->KE C Q K e s)/\∃s,p=(.c x::K',.normal,s)/\Re C s s2:=
  MP.bind (tu hm aC n K e s) (λp hp=>abi.mono λq hq=>show ∃p:List Fr×aI×St,(∀Q,KE C Q p.1 p.2.1 p.2.2->KE C Q K e s)/\∃s,p=(.c q.1.1::q.1.2,.normal,s)/\Re C s q.2 from⟨p,hp,hq⟩) _ _ _ _ h (mQ obs)
 obtain⟨p,hp,s',rfl,Fq⟩:=key
 obtain⟨r,hr⟩:=k
 exact⟨r,hp _ (AW.re Fq hr)⟩
def abj (n:Nat)(S ks:List Nm)(live:List Nat)(T:Nat)(p:List Fr×aI×St):M (aI×St):=match p with
 |([],.normal,s)=>aS (BG n S ks live T s) λs=>bY (.normal,s)
 |([],.ret,s)=>aS (BG n S ks live T s) λs=>bY (.ret,s)
 |_=>fG
theorem Ya {n T:Nat}{S ks:List Nm}{live:List Nat}{p:List Fr×aI×St}:MP ev (abj n S ks live T p) λq=>(q.1=.normal\/q.1=.ret)/\∃s,p=([],q.1,s)/\Re C s q.2:=by
 unfold abj;split
 ·exact MP.bind rQ λs2 h=>MP.ret ⟨.inl rfl,_,rfl,h⟩
 ·exact MP.bind rQ λs2 h=>MP.ret ⟨.inr rfl,_,rfl,h⟩
 ·exact MP.no
def L3 (C:cE)(Q:aI->St->Prop):aI->St->Prop:=λe s=>Q e s\/((e=.normal\/e=.ret\/∃i,e=.exit i)/\∃s2,Re C s s2/\Q e s2)
theorem O3 {Q:aI->St->Prop}{G0:Gh}{w0 w':World}{a a':Act}{ex:Exit}(h0:∀p,¬G0.dom (.loc p)):(∃e st',L3 C Q e st'/\Good C G0 w0 a e st' ex a' w')->∃e st',Q e st'/\Good C G0 w0 a e st' ex a' w':=by
 rintro ⟨e,st',hq,hg⟩;rcases hq with hq|⟨he,s2,Fq,hq⟩
 ·exact⟨e,st',hq,hg⟩
 ·rcases he with rfl|rfl|⟨i,rfl⟩
  ·obtain⟨G1,hs1,hd,e1,jN⟩:=hg;obtain⟨G2,hs2,Fo⟩:=Fq G0 w0 G1 w' a' h0 hs1 jN;exact⟨.normal,s2,hq,G2,hs2,hd,e1,Fo⟩
  ·obtain⟨G1,hs1,hd,e1,jN⟩:=hg;obtain⟨G2,hs2,Fo⟩:=Fq G0 w0 G1 w' a' h0 hs1 jN;exact⟨.ret,s2,hq,G2,hs2,hd,e1,Fo⟩
  ·obtain⟨G1,hs1,hd,e1,jN⟩:=hg;obtain⟨G2,hs2,Fo⟩:=Fq G0 w0 G1 w' a' h0 hs1 jN;exact⟨.exit i,s2,hq,G2,hs2,hd,e1,Fo⟩
theorem AW.nG {c:Code}{st:St}{Q:aI->St->Prop}(h:AW C c st (L3 C Q)):AW C c st Q:=λG0 w0 G w a h0 hs hst=>wp_mono (h G0 w0 G w a h0 hs hst) λex a' w' hp=>O3 h0 hp
theorem Jn.nG {b:Code}{n:Nat}{st:St}{Q:aI->St->Prop}(h:Jn C b n st (L3 C Q)):Jn C b n st Q:=λG0 w0 G w a a1 h0 hs hd hst=>vB (λ_ _ _ hp=>O3 h0 hp) n (h G0 w0 G w a a1 h0 hs hd hst)
theorem KE.zj {Q:aI->St->Prop}:∀{K:List Fr} {e:aI} {s:St},KE C (L3 C Q) K e s->L3 C (KE C Q K) e s
 | [],_,_,h=>h
 |.c x::K,.normal,s,h=>.inl (AW.nG (AW.mono h λ_ _ h=>KE.zj h))
 |.c _::K,.exit i,s,h=>KE.zj (K:=K) h
 |.c _::K,.ret,s,h=>KE.zj (K:=K) h
 |.c _::K,.panic v,s,h=>KE.zj (K:=K) h
 | .b id::K,.exit i,s,h=>by
   by_cases e:i=id
   · have h:KE C (L3 C Q) K .normal s:=by
       have h:(if i=id then KE C (L3 C Q) K .normal s else KE C (L3 C Q) K (.exit i) s):=h
       rwa [if_pos e] at h
     rcases KE.zj h with h|⟨_,s2,Fq,h⟩
     · exact .inl (show(if i=id then KE C Q K .normal s else KE C Q K (.exit i) s) by rwa [if_pos e])
     · exact .inr ⟨.inr (.inr ⟨i,rfl⟩),s2,Fq,show(if i=id then KE C Q K .normal s2 else KE C Q K (.exit i) s2) by rwa [if_pos e]⟩
   · have h:KE C (L3 C Q) K (.exit i) s:=by
       have h:(if i=id then KE C (L3 C Q) K .normal s else KE C (L3 C Q) K (.exit i) s):=h
       rwa [if_neg e] at h
     rcases KE.zj h with h|⟨_,s2,Fq,h⟩
     · exact .inl (show(if i=id then KE C Q K .normal s else KE C Q K (.exit i) s) by rwa [if_neg e])
     · exact .inr ⟨.inr (.inr ⟨i,rfl⟩),s2,Fq,show(if i=id then KE C Q K .normal s2 else KE C Q K (.exit i) s2) by rwa [if_neg e]⟩
 |.b _::K,.normal,s,h=>KE.zj (K:=K) h
 |.b _::K,.ret,s,h=>KE.zj (K:=K) h
 |.b _::K,.panic v,s,h=>KE.zj (K:=K) h
 |.x _ _::K,.normal,s,h=>.inl (Jn.nG (Jn.mono h λ_ _ h=>KE.zj (K:=K) h))
 |.x _ _::K,.exit i,s,h=>KE.zj (K:=K) h
 |.x _ _::K,.ret,s,h=>KE.zj (K:=K) h
 |.x _ _::K,.panic v,s,h=>KE.zj (K:=K) h
def zk:List Fr->aI->Bool
 | [],_=>false
 |.c _::_,.normal=>true
 |.c _::K,e=>zk K e
 |.b id::K,.exit i=>if i=id then zk K .normal else zk K (.exit i)
 |.b _::K,e=>zk K e
 |.x _ _::_,.normal=>false
 |.x _ _::K,e=>zk K e
theorem KE.nG {Q:aI->St->Prop}:∀{K:List Fr} {e:aI} {s:St},zk K e=true->KE C (L3 C Q) K e s->KE C Q K e s
 | [],_,_,hd,_=>by cases hd
 |.c x::K,.normal,s,_,h=>AW.nG (AW.mono h λ_ _ h=>KE.zj h)
 |.c _::K,.exit i,s,hd,h=>KE.nG (K:=K) hd h
 |.c _::K,.ret,s,hd,h=>KE.nG (K:=K) hd h
 |.c _::K,.panic v,s,hd,h=>KE.nG (K:=K) hd h
 |.b id::K,.exit i,s,hd,h=>by
  have h:(if i=id then KE C (L3 C Q) K .normal s else KE C (L3 C Q) K (.exit i) s):=h
  have hd:(if i=id then zk K .normal else zk K (.exit i))=true:=hd
  show(if i=id then KE C Q K .normal s else KE C Q K (.exit i) s)
  by_cases e:i=id
  · rw[if_pos e] at h hd ⊢;exact KE.nG hd h
  · rw[if_neg e] at h hd ⊢;exact KE.nG hd h
 |.b _::K,.normal,s,hd,h=>KE.nG (K:=K) hd h
 |.b _::K,.ret,s,hd,h=>KE.nG (K:=K) hd h
 |.b _::K,.panic v,s,hd,h=>KE.nG (K:=K) hd h
 |.x _ _::_,.normal,_,hd,_=>by cases hd
 |.x _ _::K,.exit i,s,hd,h=>KE.nG (K:=K) hd h
 |.x _ _::K,.ret,s,hd,h=>KE.nG (K:=K) hd h
 |.x _ _::K,.panic v,s,hd,h=>KE.nG (K:=K) hd h
theorem ahU (hm:C.P.prog.follows .mixedOrders=true)(aC:aF C ev){once:List Nat}{n k T:Nat}{S ks:List Nm}{live:List Nat}{K:List Fr}{e:aI}{s:St}{Q:R->aI->St->Prop}(e2:aI)(s2:St)(obs:List (Ob ev))(hd:zk K e=true)
 (h:aS (goK C f once 100000 n K e s) (abj k S ks live T) (vals obs)=some ((e2,s2),[],vals obs))(k:∃r,Q r e2 s2):∃r,KE C (Q r) K e s:=by
 have key:∀Q,Q e2 s2->KE C (L3 C Q) K e s:=
  MP.bind (tu hm aC n K e s) (λp hp=>Ya.mono λq hq=>show ∀Q:aI->St->Prop,Q q.1 q.2->KE C (L3 C Q) K e s fromλQ hk=>hp _ (by
   obtain⟨he,s',e1,Fq⟩:=hq;rw[e1];exact .inr ⟨he.elim .inl λh=>.inr (.inl h),q.2,Fq,hk⟩)) _ _ _ _ h (mQ obs)
 exact k.imp λr hr=>KE.nG hd (key _ hr)
theorem bg (b:Bool):b=true\/b=false:=by cases b<;>simp
theorem kF (hm:C.P.prog.follows .mixedOrders=true)(aC:aF C ev){fn:Func}{m:Nat}{r:bB}{K:List Fr}{e:aI}{s:St}(obs:List (Ob ev))(h:aS (goK C 0 [] 100000 3000 K e s) (Q9 C fn m) (vals obs)=some (r,[],vals obs)):KE C (HN C fn m r) K e s:=adE hm aC obs h
theorem kO (hm:C.P.prog.follows .mixedOrders=true)(aC:aF C ev){α:Type}{st:α->St}{P:α->Prop}{Q:R->aI->St->Prop}{K:List Fr}{e:aI}{s:St}(obs:List (Ob ev))(h:O2 (goK C 0 [] 100000 3000 K e s (vals obs))=some ([],vals obs))
 (k:∃r,Q r (exOf (goK C 0 [] 100000 3000 K e s (vals obs))) (stOf (goK C 0 [] 100000 3000 K e s (vals obs)))):∃o,KE C (s9 C st P Q o) K e s:=adI hm aC obs h k
theorem elt (l:List Tree)(i:Nat)(h:i<l.length):∃e,l[i]?=some e:=⟨_,List.getElem?_eq_getElem h⟩
def DS:Code->List Fr->List Fr
 |.seq a b,K=>DS a (.c b::K)
 |.block id c,K=>DS c (.b id::K)
 |x,K=>.c x::K
theorem yb:∀(a:Code) (K:List Fr),∃x F,DS a K=.c x::F
 |.seq a b,K=>yb a (.c b::K)
 |.block id c,K=>yb c (.b id::K)
 |.region _ _ _,_=>⟨_,_,rfl⟩
 |.cond _ _ _,_=>⟨_,_,rfl⟩
 |.loop _,_=>⟨_,_,rfl⟩
 |.rangeFunc _ _ _ _,_=>⟨_,_,rfl⟩
 |.exit _,_=>⟨_,_,rfl⟩
 |.scope _,_=>⟨_,_,rfl⟩
 |.label _,_=>⟨_,_,rfl⟩
 |.goto _,_=>⟨_,_,rfl⟩
 |.ret,_=>⟨_,_,rfl⟩
 |.refuse _,_=>⟨_,_,rfl⟩
 |.skip,_=>⟨_,_,rfl⟩
def DT (r:Nat):Code->List Fr->Option ((Code×Code)×List Fr)
 |.seq a b,K=>match isIn [r] (tq b) with
  |true=>some ((a,b),K)
  |false=>(DT r a (.c b::K)).or (DT r b K)
 |.cond _ a b,K=>(DT r a K).or (DT r b K)
 |.block id c,K=>DT r c (.b id::K)
 |.loop c,_=>DT r c []
 |_,_=>none
def Yb (B:Code)(r:Nat):(Code×Code)×List Fr:=(DT r B []).getD ((.skip,.skip),[])
theorem KE.qm {Q Q':aI->St->Prop}{G:List Fr}(hq:∀e s,Q e s->KE C Q' G e s):∀{F:List Fr} {e:aI} {s:St},KE C Q F e s->KE C Q' (F++G) e s
 | [],e,s,h=>hq e s h
 |.c x::F,.normal,s,h=>AW.mono (show AW C x s (KE C Q F) from h) λ_ _ h=>KE.qm hq h
 |.c _::F,.exit i,s,h=>KE.qm hq (F:=F) h
 |.c _::F,.ret,s,h=>KE.qm hq (F:=F) h
 |.c _::F,.panic v,s,h=>KE.qm hq (F:=F) h
 |.b id::F,.exit i,s,h=>by
  have h:(if i=id then KE C Q F .normal s else KE C Q F (.exit i) s):=h
  show(if i=id then KE C Q' (F++G) .normal s else KE C Q' (F++G) (.exit i) s)
  by_cases e:i=id
  · rw[if_pos e] at h ⊢;exact KE.qm hq h
  · rw[if_neg e] at h ⊢;exact KE.qm hq h
 |.b _::F,.normal,s,h=>KE.qm hq (F:=F) h
 |.b _::F,.ret,s,h=>KE.qm hq (F:=F) h
 |.b _::F,.panic v,s,h=>KE.qm hq (F:=F) h
 |.x _ _::F,.normal,s,h=>Jn.mono h λ_ _ h=>KE.qm hq (F:=F) h
 |.x _ _::F,.exit i,s,h=>KE.qm hq (F:=F) h
 |.x _ _::F,.ret,s,h=>KE.qm hq (F:=F) h
 |.x _ _::F,.panic v,s,h=>KE.qm hq (F:=F) h
def Uo (n:Nat)(S ks:List Nm)(live:List Nat)(T:Nat)(p:List Fr×aI×St):M (List Fr×St):=match p with
 |(K,.normal,s)=>aS (BG n S ks live T s) λs=>bY (K,s)
 |_=>fG
theorem Up {n T:Nat}{S ks:List Nm}{live:List Nat}{p:List Fr×aI×St}:MP ev (Uo n S ks live T p) λq=>∃s,p=(q.1,.normal,s)/\Re C s q.2:=by
 unfold Uo;split
 ·exact MP.bind rQ λs2 h=>MP.ret ⟨_,rfl,h⟩
 ·exact MP.no
theorem O4 (hm:C.P.prog.follows .mixedOrders=true)(aC:aF C ev){α:Type}(st:α->St)(ok:α->Prop)(stop:Nat){once:List Nat}{n k T:Nat}{S ks:List Nm}{live:List Nat}{K:List Fr}{e:aI}{s:St}{Q:R->aI->St->Prop}(L:(Code×Code)×List Fr)(s0:St)(obs:List (Ob ev))
 (h:aS (goK C f once stop n K e s) (Uo k S ks live T) (vals obs)=some ((DS L.1.1 []++ .c L.1.2::L.2,s0),[],vals obs))
 (h1:∃o,KE C (s9 C st ok (λr=>KE C (Q r) (.c L.1.2::L.2)) o) (DS L.1.1 []) .normal s0)
 (h2:∀x,ok x->∃r,KE C (Q r) (.c L.1.2::L.2) .normal (st x)):∃r,KE C (Q r) K e s:=by
 have key:∃p:List Fr×aI×St,(∀Q,KE C Q p.1 p.2.1 p.2.2->KE C Q K e s)/\∃s,p=(DS L.1.1 []++ .c L.1.2::L.2,.normal,s)/\Re C s s0:=
  MP.bind (tu hm aC n K e s) (λp hp=>Up.mono λq hq=>show ∃p:List Fr×aI×St,(∀Q,KE C Q p.1 p.2.1 p.2.2->KE C Q K e s)/\∃s,p=(q.1,.normal,s)/\Re C s q.2 from⟨p,hp,hq⟩) _ _ _ _ h (mQ obs)
 obtain⟨p,hp,s',rfl,Fq⟩:=key
 have fin:∃r,KE C (Q r) (DS L.1.1 []++ .c L.1.2::L.2) .normal s0:=by
  obtain⟨o,ho⟩:=h1;cases o with
  |inl y=>
   obtain⟨r,hr⟩:=h2 y.1 y.2
   refine⟨r,KE.qm (λe s hq=> ?_) ho⟩
   obtain⟨rfl,Fq⟩:=hq
   exact AW.re Fq hr
  |inr r=>
   refine⟨r,KE.qm (λe s hq=> ?_) ho⟩
   cases e with
   |normal=>exact False.elim hq
   |exit i=>exact hq
   |ret=>exact hq
   |panic v=>exact hq
 obtain⟨r,hr⟩:=fin
 refine⟨r,hp _ ?_⟩
 obtain⟨x,F,hF⟩:=yb L.1.1 []
 rw[hF] at hr ⊢
 exact AW.re Fq hr
end rules
attribute [irreducible] goK KE stOf exOf
end Go.Abs
noncomputable section
namespace Go.Abs
open Go
open Classical in
def iZ {α:Type}(A:α->List TV×List aK)(P:α->Prop)(R:α->bB):List TV->List aK->Option bB:=λa o=>if h:∃x,P x/\A x=(a,o) then some (R h.choose) else none
theorem dP {α:Type}{C:cE}{g:FuncId}{A:α->List TV×List aK}{P:α->Prop}{R:α->bB}(h:∀x,P x->aq C g (A x).1 (A x).2 (R x)):ku C g (iZ A P R):=λa o q hq=>by
 unfold iZ at hq;split at hq
 ·rename_i hp;cases hq;have h2:=h _ hp.choose_spec.1;rw[hp.choose_spec.2] at h2;exact h2
 ·cases hq
theorem fU {α:Type}{ev:aT}{g:FuncId}{A:α->List TV×List aK}{P:α->Prop}{R:α->bB}(h:Has ev g (iZ A P R))(inj:∀x y,P x->P y->A x=A y->x=y)(x:α)(hx:P x){a:List TV}{o:List aK}{r:bB}(ha:A x=(a,o))(hr:R x=r):ev g a o=some r:=by
 refine h _ _ _ ?_;have hp:∃y,P y/\A y=(a,o):=⟨x,hx,ha⟩;unfold iZ;rw[dif_pos hp,inj _ x hp.choose_spec.1 hx (hp.choose_spec.2.trans ha.symm),hr]
def Fu (a b:List TV->List aK->Option bB):List TV->List aK->Option bB:=λx o=>match a x o with
 |some r=>some r
 |none=>b x o
theorem Cr {C:cE}{g:FuncId}{a b:List TV->List aK->Option bB}(ha:ku C g a)(hb:ku C g b):ku C g (Fu a b):=λx o r h=>by
 unfold Fu at h;split at h
 ·rename_i r' h1;cases h;exact ha _ _ _ h1
 ·exact hb _ _ _ h
theorem wD {ev:aT}{g:FuncId}{a b:List TV->List aK->Option bB}(h:Has ev g (Fu a b)):Has ev g a:=λx o r hr=>h _ _ _ (by unfold Fu;rw[hr])
theorem Cs {ev:aT}{g:FuncId}{a b:List TV->List aK->Option bB}(h:Has ev g (Fu a b))(hd:∀x o r,b x o=some r->a x o=none):Has ev g b:=λx o r hr=>h _ _ _ (by unfold Fu;rw[hd x o r hr];exact hr)
theorem GA {α β:Type}{A:α->List TV×List aK}{P:α->Prop}{R:α->bB}{A':β->List TV×List aK}{P':β->Prop}{R':β->bB}(n n':Nat)(h:∀x,(A x).2.length=n)(h':∀x,(A' x).2.length=n')(hne:n≠n'):
 ∀x o r,iZ A' P' R' x o=some r->iZ A P R x o=none:=λx o r hr=>by
 unfold iZ at hr ⊢
 split at hr
 ·rename_i hp;obtain⟨y,_,hy⟩:=hp;refine dif_neg λ⟨z,_,hz⟩=>hne ?_
  have e1:=h z;have e2:=h' y;rw[hz] at e1;rw[hy] at e2;exact e1.symm.trans e2
 ·cases hr
theorem Rb {ag:Bool}{e f:Tree}(h1:vg e=ag)(h2:vg f=ag)(h:e.cells=f.cells):e=f:=by
 subst h1;cases e<;>cases f<;>simp_all [vg,Tree.cells]
theorem Kz {ag:Bool}{sz:Nat}(hz:0<sz):∀{es fs:List Tree},ey ag sz es->ey ag sz fs->flat es=flat fs->es=fs
 | [],[],_,_,_=>rfl
 | [],f::fs,_,hf,h=>by
  have h1:=(hf f List.mem_cons_self).1;have hl:0=(f.cells++flat fs).length:=congrArg List.length h;rw[List.length_append] at hl;omega
 |e::es,[],he,_,h=>by
  have h1:=(he e List.mem_cons_self).1
  have hl:(e.cells++flat es).length=0:=congrArg List.length h
  rw[List.length_append] at hl
  omega
 |e::es,f::fs,he,hf,h=>by
  have h1:=he e List.mem_cons_self
  have h2:=hf f List.mem_cons_self
  have h:e.cells++flat es=f.cells++flat fs:=h
  obtain⟨h3,h4⟩:=List.append_inj h (h1.1.trans h2.1.symm)
  rw[Rb h1.2.2 h2.2.2 h3,Kz hz (λx hx=>he x (List.mem_cons_of_mem _ hx)) (λx hx=>hf x (List.mem_cons_of_mem _ hx)) h4]
theorem iI {ag:Bool}{sz:Nat}(hz:0<sz){es fs:List Tree}(he:ey ag sz es)(hf:ey ag sz fs)(h:(flat es).map TV.t=(flat fs).map TV.t):es=fs:=
 Kz hz he hf ((List.map_inj_right (λ_ _ e=>TV.t.inj e)).1 h)
def DU (k:Nat)(p:List TV×List aK):List TV:=match p.2[k]? with
 |some (.arr _ _ _ cs)=>cs
 |_=>[]
def uF (k:Nat)(p:List TV×List aK):List (TV×TV×Nat)×Nat:=match p.2[k]? with
 |some (.map es c)=>(es,c)
 |_=>([],0)
def xA (k j:Nat)(p:List TV×List aK):List Tree:=match p.2[k]? with
 |some (.cells _ cs)=>(match cs[j]? with
  |some (.t (.sl l))=>l
  |_=>[])
 |_=>[]
def M8 (k:Nat)(p:List TV×List aK):Int:=match p.1[k]? with
 |some (.t (.int _ n))=>n
 |_=>0
def adJ (k:Nat)(p:List TV×List aK):Tree:=match p.1[k]? with
 |some (.t (.iface _ x))=>x
 |some (.t x)=>x
 |_=>.bQ
def adK (k:Nat)(p:List TV×List aK):List Tree:=match p.1[k]? with
 |some (.t (.sl l))=>l
 |_=>[]
theorem Uq {n:Nat}(h:n<9223372036854775807):TV.t (.int .u64 (IntKind.u64.wrap (n:Int)))=.t (.int .u64 (n:Int)):=by
 have:IntKind.u64.wrap (n:Int)=(n:Int):=by
  simp only[IntKind.wrap,IntKind.bits,IntKind.signed,Bool.false_and,Bool.false_eq_true,if_false];omega
 rw[this]
theorem Ur {n:Nat}(h:n<9223372036854775807):TV.t (.int .i64 (IntKind.i64.wrap (n:Int)))=.t (.int .i64 (n:Int)):=by
 rw[wrap64 (by omega) (by omega)]
theorem O5 {n:Nat}:TV.t (.int .u64 ((n:Int).fdiv 2))=.t (.int .u64 ((n / 2:Nat):Int)):=by
 rw[show(n:Int).fdiv 2=((n / 2:Nat):Int) by rw[Int.fdiv_eq_ediv_of_nonneg _ (by omega)];rfl]
def KA (k j:Nat)(p:List TV×List aK):List UInt8:=match adJ k p with
 |.agg cs=>(match cs[j]? with
  |some (.str s)=>s
  |_=>[])
 |_=>[]
theorem Ir {n:Nat}(h:n<4611686018427387904):TV.t (.int .i64 (IntKind.i64.wrap ((IntKind.i64.wrap ((n:Int) - 1)).tdiv 2)))=.t (.int .i64 (((n - 1)/ 2:Nat):Int)):=by
 cases n with
 |zero=>rfl
 |succ k=>
  have e1:IntKind.i64.wrap (k:Int)=(k:Int):=wrap64 (by omega) (by omega)
  have e2:IntKind.i64.wrap ((k / 2:Nat):Int)=((k / 2:Nat):Int):=wrap64 (by omega) (by omega)
  have e3:(k:Int).tdiv 2=((k / 2:Nat):Int):=by rw[Int.tdiv_eq_ediv_of_nonneg (by omega)];rfl
  rw[show((k+1:Nat):Int) - 1=(k:Int) by omega,e1,e3,e2]
  rfl
theorem yc {n:Nat}(h:n<4611686018427387904):TV.t (.int .i64 (IntKind.i64.wrap (2* (n:Int))))=.t (.int .i64 ((2*n:Nat):Int)):=by
 rw[wrap64 (by omega) (by omega)];rfl
theorem Rc {sz:Nat}{es:List Tree}{i:Nat}{e e':Tree}{vs:List Tree}(hu:∀e∈es,e.cells.length=sz)(he:es[i]?=some e)(hv:vs.length=sz)(hc:e'.cells=vs):cr ((flat es).map .t) (i*sz+0) (vs.map .t)=(flat (es.set i e')).map .t:=
 Ki hu he (by omega) (by
  have h:=hu e (List.mem_of_getElem? he);rw[hc,List.drop_eq_nil_of_le (by omega),List.append_nil,List.take_zero,List.nil_append])
theorem swap_perm {l:List Tree}{i j:Nat}{x y:Tree}(hx:l[i]?=some x)(hy:l[j]?=some y):((l.set i y).set j x).Perm l:=by
 obtain⟨h1,rfl⟩:=List.getElem?_eq_some_iff.1 hx;obtain⟨h2,rfl⟩:=List.getElem?_eq_some_iff.1 hy;exact List.set_set_perm h1 h2
end Go.Abs
end
