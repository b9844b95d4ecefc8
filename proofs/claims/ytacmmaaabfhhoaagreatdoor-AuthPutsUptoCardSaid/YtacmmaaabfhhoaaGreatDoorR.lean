/- Whole paths by the kernel: the interpreter asks for what it cannot tell (truths, answers of calls, elements of lists), and what it was told is proved beside. -/
import Derived.Test.YtacmmaaabfhhoaaGreatDoorQ
set_option linter.unusedVariables false
set_option linter.unusedSimpArgs false
noncomputable section
namespace Go.Abs
open Go
inductive Cl where
 |b (x c:Bool)
 |r (g:FuncId) (alA:List TV) (os:List aO) (x:bz)
 |e (l:List Tree) (i:Nat) (x:Tree)
 |y (s:List UInt8) (i:Nat) (x:UInt8)
 |v (x y:TV)
 |n (o:aO)
 |z
 |u (ag:Bool) (sz:Nat) (es:List Tree)
 |w (ag:Bool) (sz:Nat) (fs:List Tree) (len:Nat) (cs:List TV)
 |l (a b:Nat)
 |pp (p:Prop)
 |po (x:Option TV) (v:TV)
 |pc (x y:List TV)
 |pm (x:Option (List (TV×TV×Nat)×Nat)) (y:List (TV×TV×Nat)) (c:Nat)
 |pe (x:Option (TV×List (TV×TV×Nat)×Nat)) (v:TV) (y:List (TV×TV×Nat)) (c:Nat)
def Cl.holds (ev:aX):Cl->Prop
 |.b p q=>p=q
 |.r g alA os q=>ev g alA os=some q
 |.e k i q=>k[i]?=some q
 |.y k i q=>k[i]?=some q
 |.v p q=>p=q
 |.n o=>∀σ,o.rn σ=some o
 |.z=>True
 |.u ag sz es=>gP ag sz es/\es≠ []
 |.w ag sz fs len cs=>cs=(flat fs).map TV.t/\len=fs.length/\gP ag sz fs
 |.l p q=>p<=q
 |.pp p=>p
 |.po p q=>p=some q
 |.pc p q=>p=q
 |.pm p q d=>p=some (q,d)
 |.pe p k q d=>p=some (k,q,d)
abbrev M (α:Type):=List Cl->Option (α×List Cl×List Cl)
section monad
variable {α β:Type}{ev:aX}
def cu (a:α):M α:=λcl=>some (a,cl,[])
def gL:M α:=λ_=>none
def nA (x:Option α):M α:=λcl=>match x with
 |some a=>some (a,cl,[])
 |none=>none
def bg (m:M α)(k:α->M β):M β:=λcl=>match m cl with
 |some (a,cl1,e1)=>(match k a cl1 with
  |some (b,cl2,e2)=>some (b,cl2,e1++e2)
  |none=>none)
 |none=>none
def Ro (x:Bool):M Bool:=λcl=>match cl with
 |.b _ c::r=>some (c,r,[.b x c])
 |_=>none
def VN (l:List Tree)(i:Nat):M Tree:=λcl=>match cl with
 |.e _ _ x::r=>some (x,r,[.e l i x])
 |_=>none
def Zk (s:List UInt8)(i:Nat):M UInt8:=λcl=>match cl with
 |.y _ _ x::r=>some (x,r,[.y s i x])
 |_=>none
def Zl (g:FuncId)(alA:List TV)(os:List aO):M bz:=λcl=>match cl with
 |.r _ _ _ x::r=>some (x,r,[.r g alA os x])
 |_=>none
def DG (v:TV):M TV:=λcl=>match cl with
 |.v _ y::r=>some (y,r,[.v v y])
 |.z::r=>some (v,r,[.z])
 |_=>none
def Rp (ag:Bool)(sz:Nat)(es:List Tree):M Bool:=λcl=>match cl with
 |.u _ _ _::r=>some (true,r,[.u ag sz es])
 |.pp _::r=>some (false,r,[.pp (es=[])])
 |_=>none
def N7 (ag:Bool)(sz:Nat)(len:Nat)(cs:List TV):M (List Tree):=λcl=>match cl with
 |.w _ _ fs _ _::r=>some (fs,r,[.w ag sz fs len cs])
 |_=>none
def xo (a b:Nat):M Unit:=λcl=>match cl with
 |.l _ _::r=>some ((),r,[.l a b])
 |_=>none
def Cw (p:Prop):M Unit:=λcl=>match cl with
 |.pp _::r=>some ((),r,[.pp p])
 |_=>none
def KK (x:Option TV):M TV:=λcl=>match cl with
 |.po _ v::r=>some (v,r,[.po x v])
 |_=>none
def Rq (x:List TV):M (List TV):=λcl=>match cl with
 |.pc _ y::r=>some (y,r,[.pc x y])
 |_=>none
def VO (x:Option (List (TV×TV×Nat)×Nat)):M (List (TV×TV×Nat)×Nat):=λcl=>match cl with
 |.pm _ y c::r=>some ((y,c),r,[.pm x y c])
 |_=>none
def Zm (x:Option (TV×List (TV×TV×Nat)×Nat)):M (TV×List (TV×TV×Nat)×Nat):=λcl=>match cl with
 |.pe _ v y c::r=>some ((v,y,c),r,[.pe x v y c])
 |_=>none
def cj (ev:aX)(m:M α)(x:Option α):Prop:=∀cl a zJ em,m cl=some (a,zJ,em)->(∀c∈em,c.holds ev)->x=some a
theorem cj.ret (a:α):cj ev (cu a) (some a):=λcl b zJ em h _=>by cases h;rfl
theorem cj.no {x:Option α}:cj ev gL x:=λcl b zJ em h _=>by cases h
theorem cj.opt (x:Option α):cj ev (nA x) x:=λcl b zJ em h _=>by
 cases x with
 |none=>cases h
 |some a=>cases h;rfl
theorem cj.bind {m:M α}{x:Option α}{k:α->M β}{y:α->Option β}(hm:cj ev m x)(hk:∀a,x=some a->cj ev (k a) (y a)):cj ev (bg m k) (x.bind y):=λcl b zJ em h he=>by
 unfold bg at h;split at h
 ·rename_i a cl1 e1 h1;split at h
  ·rename_i b' cl2 e2 h2;cases h;have hx:=hm _ _ _ _ h1 λc hc=>he c (List.mem_append_left _ hc)
   rw[hx];exact hk a hx _ _ _ _ h2 λc hc=>he c (List.mem_append_right _ hc)
  ·cases h
 ·cases h
theorem cj.of_eq {m:M α}{x y:Option α}(h:cj ev m x)(e:x=y):cj ev m y:=e▸h
theorem Cx (x:Bool):cj ev (Ro x) (some x):=λcl a zJ em h he=>by
 unfold Ro at h;split at h
 ·cases h;have:=he _ (List.mem_singleton_self _);exact congrArg some this
 ·cases h
theorem IB (l:List Tree)(i:Nat):cj ev (VN l i) l[i]?:=λcl a zJ em h he=>by
 unfold VN at h;split at h
 ·cases h;exact he _ (List.mem_singleton_self _)
 ·cases h
theorem Rr (s:List UInt8)(i:Nat):cj ev (Zk s i) s[i]?:=λcl a zJ em h he=>by
 unfold Zk at h;split at h
 ·cases h;exact he _ (List.mem_singleton_self _)
 ·cases h
theorem Rs (g:FuncId)(alA:List TV)(os:List aO):cj ev (Zl g alA os) (ev g alA os):=λcl a zJ em h he=>by
 unfold Zl at h;split at h
 ·cases h;exact he _ (List.mem_singleton_self _)
 ·cases h
theorem nV (v:TV):cj ev (DG v) (some v):=λcl a zJ em h he=>by
 unfold DG at h;split at h
 ·cases h;have:=he _ (List.mem_singleton_self _);exact congrArg some this
 ·cases h;rfl
 ·cases h
def MP (ev:aX)(m:M α)(P:α->Prop):Prop:=∀cl a zJ em,m cl=some (a,zJ,em)->(∀c∈em,c.holds ev)->P a
theorem MP.ret {a:α}{P:α->Prop}(h:P a):MP ev (cu a) P:=λcl b zJ em hm _=>by cases hm;exact h
theorem MP.no {P:α->Prop}:MP ev gL P:=λcl b zJ em h _=>by cases h
theorem MP.Ms {m:M α}{x:Option α}(h:cj ev m x):MP ev m λa=>x=some a:=h
theorem MP.mono {m:M α}{P Q:α->Prop}(h:MP ev m P)(k:∀a,P a->Q a):MP ev m Q:=λcl a zJ em hm he=>k a (h cl a zJ em hm he)
theorem MP.bind {m:M α}{P:α->Prop}{k:α->M β}{Q:β->Prop}(hm:MP ev m P)(hk:∀a,P a->MP ev (k a) Q):MP ev (bg m k) Q:=λcl b zJ em h he=>by
 unfold bg at h;split at h
 ·rename_i a cl1 e1 h1;split at h
  ·rename_i b' cl2 e2 h2;cases h;exact hk a (hm _ _ _ _ h1 λc hc=>he c (List.mem_append_left _ hc)) _ _ _ _ h2 λc hc=>he c (List.mem_append_right _ hc)
  ·cases h
 ·cases h
theorem Ru {ag:Bool}{sz:Nat}{es:List Tree}:MP ev (Rp ag sz es) λb=>cond b (gP ag sz es/\es≠ []) (es=[]):=λcl a zJ em h he=>by
 unfold Rp at h;split at h
 ·cases h;exact he _ (List.mem_singleton_self _)
 ·cases h;exact he _ (List.mem_singleton_self _)
 ·cases h
theorem Bi {ag:Bool}{sz len:Nat}{cs:List TV}:MP ev (N7 ag sz len cs) λfs=>cs=(flat fs).map TV.t/\len=fs.length/\gP ag sz fs:=λcl a zJ em h he=>by
 unfold N7 at h;split at h
 ·cases h;exact he _ (List.mem_singleton_self _)
 ·cases h
theorem kL {x y:Nat}:MP ev (xo x y) λ_=>x<=y:=λcl a zJ em h he=>by
 unfold xo at h;split at h
 ·cases h;exact he _ (List.mem_singleton_self _)
 ·cases h
theorem pL {p:Prop}:MP ev (Cw p) λ_=>p:=λcl a zJ em h he=>by
 unfold Cw at h;split at h
 ·cases h;exact he _ (List.mem_singleton_self _)
 ·cases h
theorem yC {x:Option TV}:MP ev (KK x) λv=>x=some v:=λcl a zJ em h he=>by
 unfold KK at h;split at h
 ·cases h;exact he _ (List.mem_singleton_self _)
 ·cases h
theorem F8 {x:List TV}:MP ev (Rq x) λy=>x=y:=λcl a zJ em h he=>by
 unfold Rq at h;split at h
 ·cases h;exact he _ (List.mem_singleton_self _)
 ·cases h
theorem Mt {x:Option (List (TV×TV×Nat)×Nat)}:MP ev (VO x) λy=>x=some y:=λcl a zJ em h he=>by
 unfold VO at h;split at h
 ·cases h;exact he _ (List.mem_singleton_self _)
 ·cases h
theorem VP {x:Option (TV×List (TV×TV×Nat)×Nat)}:MP ev (Zm x) λy=>x=some y:=λcl a zJ em h he=>by
 unfold Zm at h;split at h
 ·cases h;exact he _ (List.mem_singleton_self _)
 ·cases h
end monad
section ops
variable {ev:aX}{C:cE}{f:FuncId}
def Bj (ops:Array Oper)(slots:List TV)(o:Oper):M Bool:=
 match o.guard with
 |none=>cu true
 | some (j,want)=>match(ops[j]?).bind (·.dst) with
  |none=>cu false
  |some d=>match slots[d]? with
   |some (.t (.bool b))=>bg (Ro b) λc=>cu (c==want)
   |some (.t (.dr []))=>cu false
   |none=>cu false
   |_=>gL
theorem Cy (ops:Array Oper)(slots:List TV)(o:Oper):cj ev (Bj ops slots o) (dL ops slots o):=by
 unfold Bj dL;cases o.guard with
 |none=>exact cj.ret _
 | some p=>
  obtain⟨j,want⟩:=p
  simp only
  cases (ops[j]?).bind (·.dst) with
  |none=>exact cj.ret _
  |some d=>
   simp only
   generalize slots[d]?=z
   split
   · exact cj.bind (x:=some _) (y:=λc=>some (c==want)) (Cx _) λc _=>cj.ret _
   · exact cj.ret _
   · exact cj.ret _
   · exact cj.no
mutual
def F9:TV->Bool
 |.ref _ _ _=>true
 |.agg cs=>hasRefs cs
 |.dr cs=>hasRefs cs
 |.iface _ v=>F9 v
 |_=>false
def hasRefs:List TV->Bool
 | []=>false
 |v::r=>F9 v||hasRefs r
end
def Mu (g:TV->M (Tree×List Nm)):List TV->M (List Tree×List Nm)
 | []=>cu ([],[])
 |v::r=>bg (g v) λp=>bg (Mu g r) λq=>cu (p.1::q.1,p.2++q.2)
def N8 (H:Heap):Nat->TV->M (Tree×List Nm)
 |0,v=>nA (pq H 0 v)
 | n+1,v=>match v with
  |.ref k 0 len=>(match H.get k with
   |some (.arr g bE fz cs)=>if 0<bE then bg (N7 g.2 bE len cs) λfs=>cu (.sl fs,[k]) else gL
   |_=>gL)
  |.agg cs=>bg (Mu (N8 H n) cs) λp=>cu (.agg p.1,p.2)
  |.dr cs=>bg (Mu (N8 H n) cs) λp=>cu (.dr p.1,p.2)
  |v=>nA (pq H (n+1) v)
theorem Ga {g:TV->M (Tree×List Nm)}{g':TV->Option (Tree×List Nm)}(h:∀v,MP ev (g v) λp=>g' v=some p):∀(l:List TV),MP ev (Mu g l) λp=>xT g' l=some p
 | []=>MP.ret rfl
 |v::r=>MP.bind (h v) λp hp=>MP.bind (Ga h r) λq hq=>MP.ret (by simp only[xT,hp,hq])
theorem Gb (H:Heap):∀(n:Nat) (v:TV),MP ev (N8 H n v) λp=>pq H n v=some p
 |0,v=>MP.Ms (cj.opt _)
 | n + 1,v=>by
   unfold N8
   split
   · rename_i k len
     split
     · rename_i g bE fz cs hk
       split
       · rename_i hz
         refine MP.bind Bi λfs hf=>MP.ret ?_
         obtain⟨rfl,rfl,hu⟩:=hf
         obtain⟨g1,g2⟩:=g
         exact Mh hk hu hz rfl
       · exact MP.no
     · exact MP.no
   · rename_i cs
     exact MP.bind (Ga (Gb H n) cs) λp hp=>MP.ret (by simp only[pq,hp])
   · rename_i cs
     exact MP.bind (Ga (Gb H n) cs) λp hp=>MP.ret (by simp only[pq,hp])
   · exact MP.Ms (cj.opt _)
def Cz (H:Heap):List TV->M (List TV×List Nm)
 | []=>cu ([],[])
 | v::r=>bg (Cz H r) λp=>match F9 v with
  |true=>bg (N8 H gl v) λq=>cu (.t q.1::p.1,q.2++p.2)
  |false=>cu (match pq H gl v with
   |some (x,k)=>(.t x::p.1,k++p.2)
   |none=>(v::p.1,p.2))
theorem CA (H:Heap):∀(l:List TV),MP ev (Cz H l) λp=>lq H l=p
 | []=>MP.ret rfl
 | v ::r=>by
   refine MP.bind (CA H r) λp hp=> ?_
   split
   · refine MP.bind (Gb H gl v) λq hq=>MP.ret ?_
     simp only[lq,hp,hq]
   · refine MP.ret ?_
     simp only[lq,hp]
     cases pq H gl v<;>rfl
def VQ:aO->Bool
 |.arr _ _ _ _=>true
 |.map _ _=>true
 |_=>false
def VU (o:aO):M aO:=λcl=>match cl with
 |.n _::r=>some (o,r,[.n o])
 |_=>none
theorem IC {o:aO}:MP ev (VU o) λo'=>o'=o/\∀σ,o.rn σ=some o:=λcl a zJ em h he=>by
 unfold VU at h;split at h
 ·cases h;exact⟨rfl,he _ (List.mem_singleton_self _)⟩
 ·cases h
def rnO (σ:Nm->Option Nm)(o:aO):M aO:=match VQ o with
 |true=>VU o
 |false=>nA (o.rn σ)
theorem KT {σ:Nm->Option Nm}{o:aO}:MP ev (rnO σ o) λo'=>o.rn σ=some o':=by
 unfold rnO;split
 ·exact IC.mono λo' h=>by rw[h.1];exact h.2 σ
 ·exact MP.Ms (cj.opt _)
mutual
theorem nB:∀{v v':TV},v.rn (λ_=>none)=some v'->v.names=[]
 |.t _,_,_=>rfl
 |.any,_,_=>rfl
 |.bJ,_,_=>rfl
 |.j4 _,_,_=>rfl
 |.jC _ _,_,_=>rfl
 |.ref _ _ _,_,h=>by simp[TV.rn] at h
 |.ptr _ _,_,h=>by simp[TV.rn] at h
 |.jB _ _ _,_,h=>by simp[TV.rn] at h
 |.map _,_,h=>by simp[TV.rn] at h
 | .agg cs,_,h=>by
   simp only[TV.rn,Option.map_eq_some_iff] at h
   obtain⟨a,h,_⟩:=h
   simp only[TV.names,kz h]
 | .dr cs,_,h=>by
   simp only[TV.rn,Option.map_eq_some_iff] at h
   obtain⟨a,h,_⟩:=h
   simp only[TV.names,kz h]
 | .iface _ v,_,h=>by
   simp only[TV.rn,Option.map_eq_some_iff] at h
   obtain⟨a,h,_⟩:=h
   simp only[TV.names,nB h]
 | .fn _ fs cs,_,h=>by
   simp only[TV.rn] at h
   split at h
   · rename_i h1 h2
     simp only[TV.names,kz h1,kz h2,List.append_nil]
   · cases h
theorem kz:∀{l l':List TV},TV.tU (λ_=>none) l=some l'->TV.iR l=[]
 | [],_,_=>rfl
 | v ::r,_,h=>by
   simp only[TV.tU] at h
   split at h
   · rename_i h1 h2
     simp only[TV.iR,nB h1,kz h2,List.append_nil]
   · cases h
end
theorem Ax:∀{es es':List (TV×TV×Nat)},PF (λ_=>none) es=some es'->Fj es=[]
 | [],_,_=>rfl
 | (k,v,b)::r,_,h=>by
   simp only[PF] at h
   split at h
   · rename_i h1 h2 h3
     simp only[Fj,nB h1,nB h2,Ax h3,List.append_nil]
   · cases h
theorem aO.nB {o:aO}(h:o.rn (λ_=>none)=some o):o.names=[]:=by
 cases o with
 |cells ty cs=>
  simp only[aO.rn,Option.map_eq_some_iff] at h
  obtain⟨a,h,_⟩:=h
  exact kz h
 |arr g e fz cs=>
  simp only[aO.rn,Option.map_eq_some_iff] at h
  obtain⟨a,h,_⟩:=h
  exact kz h
 |map es c=>
  simp only[aO.rn,Option.map_eq_some_iff] at h
  obtain⟨a,h,_⟩:=h
  exact Ax h
 |dead=>rfl
def Ge (o:aO):M (List Nm):=match VQ o with
 |true=>bg (VU o) λ_=>cu []
 |false=>cu o.names
def Yb (o:aO):Prop:=VQ o=true->∀σ,o.rn σ=some o
theorem ID {o:aO}:MP ev (Ge o) λl=>o.names=l/\Yb o:=by
 unfold Ge;split
 ·exact MP.bind IC λ_ h=>MP.ret ⟨aO.nB (h.2 _),λ_=>h.2⟩
 ·rename_i hb;exact MP.ret ⟨rfl,λh=>by rw[hb] at h;cases h⟩
def Gg:List aO->M (List Nm)
 | []=>cu []
 |o::r=>bg (Ge o) λl=>bg (Gg r) λl2=>cu (l++l2)
theorem CB:∀{os:List aO},MP ev (Gg os) λl=>os.flatMap aO.names=l
 | []=>MP.ret rfl
 |o::r=>MP.bind ID λl h=>MP.bind CB λl2 h2=>MP.ret (by rw[List.flatMap_cons,h.1,h2])
def uP (H:Heap):Nat->List Nm->List Nm->M (List Nm)
 |_,done,[]=>cu done
 |0,_,_=>gL
 | n+1,done,k::todo=>match decide (k∈done) with
  |true=>uP H n done todo
  |false=>(match H.get k with
   |some o=>bg (Ge o) λl=>uP H n (done++[k]) (todo++l)
   |none=>gL)
def KU (H:Heap)(k:Nm):Prop:=∀o,H.get k=some o->Yb o
theorem rS {H:Heap}:∀(n:Nat) (done todo:List Nm),MP ev (uP H n done todo) λS=>reach H n done todo=some S/\((∀k∈done,KU H k)->∀k∈S,KU H k)
 |0,done,[]=>MP.ret ⟨rfl,λh=>h⟩
 |n+1,done,[]=>MP.ret ⟨rfl,λh=>h⟩
 |0,_,_::_=>MP.no
 | n + 1,done,k::todo=>by
   unfold uP reach
   split
   · rename_i hd
     rw[if_pos (of_decide_eq_true hd)]
     exact rS n done todo
   · rename_i hd
     rw[if_neg (of_decide_eq_false hd)]
     split
     · rename_i o ho
       refine MP.bind ID λl hl=>(rS n (done++[k]) (todo++l)).mono λS hS=>⟨by simp only[ho,hl.1];exact hS.1,λh=>hS.2 λk' hk'=> ?_⟩
       rcases List.mem_append.1 hk' with hk'|hk'
       · exact h k' hk'
       · rw[List.mem_singleton.1 hk']
         intro o' ho'
         rw[ho] at ho'
         cases ho'
         exact hl.2
     · exact MP.no
def rnB (σ:Nm->Option Nm)(o:aO):Option aO:=match VQ o with
 |true=>some o
 |false=>o.rn σ
def Bk (H:Heap)(S:List Nm):List Nm->Option (List aO)
 | []=>some []
 |k::r=>match H.get k,Bk H S r with
  |some o,some os=>(rnB (Dy S) o).map (· ::os)
  |_,_=>none
theorem CC {H:Heap}{S:List Nm}:∀{l:List Nm},(∀k∈l,KU H k)->Bk H S l=hM H S l
 | [],_=>rfl
 | k::r,h=>by
  simp only[Bk,hM,CC λk' hk'=>h k' (List.mem_cons_of_mem _ hk')]
  cases ho:H.get k with
  |none=>rfl
  | some o=>
   have e:rnB (Dy S) o=o.rn (Dy S):=by
    unfold rnB
    split
    · rename_i hb;exact(h k List.mem_cons_self o ho hb _).symm
    · rfl
   cases hM H S r with
   |none=>rfl
   |some os=>simp only[e]
def Rv (H:Heap)(keep:Bool)(args:List TV):M (List TV×List Nm):=match keep with
 |true=>cu (args,[])
 |false=>Cz H args
theorem Rw {H:Heap}{keep:Bool}{args:List TV}:MP ev (Rv H keep args) λp=>DZ H keep args=p:=by
 cases keep with
 |true=>exact MP.ret rfl
 |false=>exact CA H args
def Ey (H1:Heap)(args:List TV):M (List Nm×List TV×List aO):=bg (uP H1 eE [] (TV.iR args)) λS=>
 if S.Nodup then(match TV.tU (Dy S) args,Bk H1 S S with
  |some alA,some os=>cu (S,alA,os)
  |_,_=>gL) else gL
theorem IE {H1:Heap}{args:List TV}:MP ev (Ey H1 args) λq=>reach H1 eE [] (TV.iR args)=some q.1/\q.1.Nodup/\TV.tU (Dy q.1) args=some q.2.1/\hM H1 q.1 q.1=some q.2.2:=
 MP.bind (rS _ _ _) λS hS=>by
  split
  ·rename_i hn;split
   ·rename_i alA os h1 h2;exact MP.ret ⟨hS.1,hn,h1,by rw[← CC (hS.2 λk hk=>by cases hk)];exact h2⟩
   ·exact MP.no
  ·exact MP.no
def CD (S:List Nm)(t:Nat):List Nm->List aO->M Heap
 | [],[]=>cu []
 |k::r,o::os=>bg (rnO (kW S t) o) λo=>bg (CD S t r os) λh=>cu ((k,o)::h)
 |_,_=>gL
theorem CF {S:List Nm}{t:Nat}:∀{l:List Nm} {os:List aO},MP ev (CD S t l os) λh=>iH S t l os=some h
 | [],[]=>MP.ret rfl
 |k::r,o::os=>MP.bind KT λo' h1=>MP.bind CF λh h2=>MP.ret (by simp only[iH,h1,h2])
 | [],_::_=>MP.no
 |_::_,[]=>MP.no
def yD (S:List Nm)(t:Nat):Heap->M Heap
 | []=>cu []
 |(k,o)::r=>match kW S t k with
  |some k=>bg (rnO (kW S t) o) λo=>bg (yD S t r) λh=>cu ((k,o)::h)
  |none=>gL
theorem CG {S:List Nm}{t:Nat}:∀{l:Heap},MP ev (yD S t l) λh=>iI S t l=some h
 | []=>MP.ret rfl
 | (k,o)::r=>by
   unfold yD
   split
   · rename_i k' hk
     exact MP.bind KT λo' h1=>MP.bind CG λh h2=>MP.ret (by simp only[iI,hk,h1,h2])
   · exact MP.no
def Rx (H:Heap)(g:FuncId)(args:List TV)(t:Nat)(keep:Bool):M pY:=bg (Rv H keep args) λp=>bg (Ey (H.dH (cH H p.2)) p.1) λq=>bg (Zl g q.2.1 q.2.2) λx=>match x with
 |.ret v os' news=>bg (nA (v.rn (kW q.1 t))) λv=>bg (CD q.1 t q.1 os') λh=>bg (yD q.1 t news) λh'=>cu (.val v ((cH H p.2).filter (λr=> !(q.1.contains r.1))++h++h'))
 |.panic v os'=>bg (nA (v.rn (kW q.1 t))) λv=>bg (nA (l8 q.1 t q.1 os')) λh=>cu (.panic v ((cH H p.2).filter (λr=> !(q.1.contains r.1))++h.1) h.2)
theorem IF (H:Heap)(g:FuncId)(args:List TV)(t:Nat)(keep:Bool):cj ev (Rx H g args t keep) (pZ ev H g args t keep):=by
 refine MP.bind Rw λp hp=>MP.bind IE λq hq=>MP.bind (MP.Ms (Rs g q.2.1 q.2.2)) λx hx=> ?_
 obtain⟨h1,h2,h3,h4⟩:=hq;obtain⟨p1,p2⟩:=p;simp only at h1 h3 h4;split
 ·refine MP.bind (MP.Ms (cj.opt _)) λv h5=>MP.bind CF λh h6=>MP.bind CG λh' h7=>MP.ret ?_
  unfold pZ;rw[hp];simp only[h1,if_pos h2,h3,h4,hx,h5,h6,h7]
 ·refine MP.bind (MP.Ms (cj.opt _)) λv h5=>MP.bind (MP.Ms (cj.opt _)) λh h6=>MP.ret ?_
  unfold pZ;rw[hp];simp only[h1,if_pos h2,h3,h4,hx,h5,h6]
def Gi:TV->Option Nat
 |.t (.int _ (.ofNat n))=>some n
 |_=>none
theorem sY {v:TV}{n:Nat}(h:Gi v=some n):fV v=some n:=by
 unfold Gi at h;split at h
 ·cases h;simp[fV]
 ·cases h
def sZ (P:iP)(H:Heap)(t:TypeId)(x i:TV):M TV:=
 match bh P t,Gi i with
 | some ti,some n=>(match ti.desc,x with
  |.slice elem,.t (.sl es)=>(match bh P elem with
   |some te=>bg (VN es n) λe=>nA (if e.cells.length=te.size then some (.jC e.cells 0) else none)
   |none=>gL)
  |.slice elem,.j4 es=>(match bh P elem with
   |some te=>bg (VN es n) λe=>nA (if e.cells.length=te.size then some (.jC e.cells 0) else none)
   |none=>gL)
  |.slice elem,.ref k 0 len=>(match bh P elem,H.get k with
   |some te,some (.arr g bE _ cs)=>if te.size=bE/\0<bE then bg (N7 g.2 bE len cs) λ_=>bg (xo (n+1) len) λ_=>cu (.jB k cs.length (n*bE)) else gL
   |_,_=>gL)
  |_,_=>nA (dW P H t x i))
 |_,_=>nA (dW P H t x i)
theorem wL (P:iP)(H:Heap)(t:TypeId)(x i:TV):cj ev (sZ P H t x i) (dW P H t x i):=by
 unfold sZ;split
 ·rename_i ti n ht hn;have hi:=sY hn;split
  ·rename_i elem es hd;split
   ·rename_i te hte;refine cj.of_eq (cj.bind (IB es n) λe _=>cj.opt _) ?_;unfold dW;rw[ht,hi];simp only[hd,hte];cases es[n]? <;>rfl
   ·exact cj.no
  ·rename_i elem es hd;split
   ·rename_i te hte;refine cj.of_eq (cj.bind (IB es n) λe _=>cj.opt _) ?_;unfold dW;rw[ht,hi];simp only[hd,hte];cases es[n]? <;>rfl
   ·exact cj.no
  ·rename_i elem k len hd;split
   ·rename_i te g bE fz cs hte hk;split
    ·rename_i hc;obtain⟨hc,hz⟩:=hc;refine MP.bind Bi λfs hf=>MP.bind kL λ_ hl=>MP.ret ?_
     obtain⟨rfl,rfl,hu⟩:=hf;have h2:jc H k 0 fs.length=some (g,bE,fz,(flat fs).map .t):=by
      unfold jc;simp only[hk];rw[if_pos ⟨hz,by rw[Nat.zero_add,hu.length]⟩]
     unfold dW;rw[ht,hi];simp only[hd,hte,h2,hc,Nat.zero_add];rw[if_pos ⟨trivial,hl⟩]
    ·exact MP.no
   ·exact MP.no
  ·exact cj.opt _
 ·exact cj.opt _
def Ry (P:iP)(H:Heap)(t:TypeId)(a:TV):M TV:=match a with
 |.jB k m o=>(match bh P t,H.get k with
  |some ti,some (.arr _ _ _ cs)=>bg (Cw (cs.length=m)) λ_=>KK (partT ti.agg ti.size cs o)
  |_,_=>gL)
 |a=>nA (loadT P H t a)
theorem Rz (P:iP)(H:Heap)(t:TypeId)(a:TV):cj ev (Ry P H t a) (loadT P H t a):=by
 unfold Ry;split
 ·rename_i k m o;split
  ·rename_i ti g bE fz cs ht hk;refine MP.bind pL λ_ hm=>yC.mono λv hv=> ?_
   subst hm;simp only[loadT,ht,sx,hk,if_true];exact hv
  ·exact MP.no
 ·exact cj.opt _
def KV (P:iP)(H:Heap)(t:TypeId)(a x:TV):M (List (Nm×aO)):=match a with
 | .jB k m o=>(match bh P t,H.get k with
  |some ti,some (.arr g bE false cs)=>(match decide (x.cells.length=ti.size)&&x.cells.all TV.leaf with
   |true=>bg (Cw (cs.length=m)) λ_=>bg (xo (o+ti.size) cs.length) λ_=>bg (Rq (cJ cs o x.cells)) λcs'=>cu [(k,.arr g bE false cs')]
   |false=>gL)
  |_,_=>gL)
 |a=>nA (storeT P H t a x)
theorem N9 (P:iP)(H:Heap)(t:TypeId)(a x:TV):cj ev (KV P H t a x) (storeT P H t a x):=by
 unfold KV;split
 ·rename_i k m o;split
  ·rename_i ti g bE cs ht hk;split
   ·rename_i hb;refine MP.bind pL λ_ hm=>MP.bind kL λ_ hl=>MP.bind F8 λcs' hc=>MP.ret ?_
    subst hm hc;exact sta ht hk hb hl
   ·exact MP.no
  ·exact MP.no
 ·exact cj.opt _
def Gj (H:Heap)(a:TV)(n:Nat):M TV:=match a with
 |.jB k m o=>(match H.get k with
  |some (.arr _ _ _ cs)=>bg (Cw (cs.length=m)) λ_=>cu (.jB k m (o+n))
  |_=>gL)
 |a=>nA (pU H a n)
theorem KW (H:Heap)(a:TV)(n:Nat):cj ev (Gj H a n) (pU H a n):=by
 unfold Gj;split
 ·rename_i k m o;split
  ·rename_i g bE fz cs hk;refine MP.bind pL λ_ hm=>MP.ret ?_
   simp only[pU,hk,if_pos hm]
  ·exact MP.no
 ·exact cj.opt _
def CH (P:iP)(H:Heap)(s i:Nat)(a:TV):M TV:=match eH P s i with
 |some off=>Gj H a off
 |none=>gL
def IG (o:Option TV)(d:Nat):Option Nat:=match o with
 |none=>some d
 |some v=>Gi v
theorem yE {o:Option TV}{d n:Nat}(h:IG o d=some n):eP o d=some n:=by
 cases o with
 |none=>exact h
 |some v=>exact sY h
theorem Oa {ag:Bool}{sz:Nat}{fs:List Tree}(hu:gP ag sz fs)(h:Nat):((flat fs).map TV.t).take (h*sz)=(flat (fs.take h)).map TV.t:=by
 rw[← List.map_take];congr 1;induction h generalizing fs with
 |zero=>simp[flat]
 | succ n ih=>
  cases fs with
  |nil=>simp[flat]
  |cons e r=>
   have he:e.cells.length=sz:=(hu e List.mem_cons_self).1
   have e1:flat (e::r)=e.cells++flat r:=by simp[flat]
   have e2:flat ((e::r).take (n+1))=e.cells++flat (r.take n):=by simp[flat]
   rw[e1,e2,Nat.succ_mul,Nat.add_comm,← he,List.take_length_add_append,he,ih λx hx=>hu x (List.mem_cons_of_mem _ hx)]
def CI (b:Bool)(P:iP)(H:Heap)(nm:Nm)(t:TypeId)(x:TV)(lo hi mx:Option TV):M pY:=
 let old:M pY:=nA (match wB b P H nm t x lo hi mx with
  |some r=>some (.val r.1 r.2)
  |none=>match pW P H t x lo hi mx with
   |some (r,ks)=>some (.val r (cH H ks))
   |none=>none)
 match x,mx with
 | .t (.str s),none=>(match bh P t,IG lo 0,IG hi s.length with
  |some ti,some l,some h=>(match ti.desc with
   |.string=>bg (xo l h) λ_=>bg (xo h s.length) λ_=>cu (.val (.t (.str ((s.take h).drop l))) [])
   |_=>gL)
  |_,_,_=>gL)
 | .t (.sl es),none=>(match bh P t,IG lo 0,IG hi es.length with
  | some ti,some l,some h=>(match ti.desc with
   |.slice elem=>(match bh P elem with
    |some te=>bg (Cw (j7 te.size es=true)) λ_=>bg (xo l h) λ_=>bg (xo h es.length) λ_=>cu (.val (.t (.sl ((es.take h).drop l))) [])
    |none=>gL)
   |_=>gL)
  |_,_,_=>gL)
 | .ref k 0 len,none=>(match b,lo,hi.bind Gi with
  | true,none,some h=>(match bh P t,H.get k with
   | some ti,some (.arr g bE false cs)=>(match ti.desc with
    |.slice elem=>(match bh P elem with
     |some te=>if te.size=bE/\0<bE then bg (N7 g.2 bE len cs) λfs=>bg (xo h len) λ_=>cu (.val (.ref nm 0 h) [(k,.dead),(nm,.arr g bE false ((flat (fs.take h)).map .t))]) else gL
     |none=>gL)
    |_=>gL)
   |_,_=>gL)
  |_,_,_=>old)
 |_,_=>old
theorem zK        (b:Bool)(P:iP)(H:Heap)(nm:Nm)(t:TypeId)(x:TV)(lo hi mx:Option TV):cj ev (CI b P H nm t x lo hi mx) (match wB b P H nm t x lo hi mx with
 |some r=>some (.val r.1 r.2)
 | none=>match pW P H t x lo hi mx with
   |some (r,ks)=>some (.val r (cH H ks))
   |none=>none):=by
 unfold CI
 simp only
 split
 ·rename_i s;split
  ·rename_i ti l h ht hl hh;have hl':=yE hl;have BU:=yE hh;split
   ·rename_i hd;refine MP.bind kL λ_ h1=>MP.bind kL λ_ h2=>MP.ret ?_
    rw[Fg];simp only[pW,ht,hd,hl',BU,if_pos (And.intro h1 h2)];rfl
   ·exact MP.no
  ·exact MP.no
 ·rename_i es;split
  ·rename_i ti l h ht hl hh;have hl':=yE hl;have BU:=yE hh;split
   ·rename_i elem hd;split
    ·rename_i te hte;refine MP.bind pL λ_ h0=>MP.bind kL λ_ h1=>MP.bind kL λ_ h2=>MP.ret ?_
     rw[Fg];have e1:wQ H (.t (.sl es))=some es.length:=rfl;have e2:eP none es.length=some es.length:=rfl;simp only[pW,ht,hd,hte,e1,e2,hl',BU,Option.isNone_none,Bool.true_or,if_pos (And.intro h1 (And.intro h2 (Nat.le_refl _))),h0,if_true,Option.isSome_none,Bool.false_and,Nj,Bool.false_eq_true,if_false];rfl
    ·exact MP.no
   ·exact MP.no
  ·exact MP.no
 ·rename_i k len;split
  ·rename_i h hh;split
   ·rename_i ti g bE cs ht hk;split
    ·rename_i elem hd;split
     ·rename_i te hte;split
      ·rename_i hc;refine MP.bind Bi λfs hf=>MP.bind kL λ_ h1=>MP.ret ?_
       obtain⟨rfl,rfl,hu⟩:=hf;cases hi with
       |none=>cases hh
       | some hv=>
         have BU:=sY hh
         have h2:jc H k 0 fs.length=some (g,bE,false,(flat fs).map .t):=by
           unfold jc
           simp only[hk]
           rw[if_pos ⟨hc.2,by rw[Nat.zero_add,hu.length]⟩]
         simp only[wB,if_true,wR,ht,BU,h2,hd,hte,if_pos (And.intro hc.1 h1),Oa hu]
      ·exact MP.no
     ·exact MP.no
    ·exact MP.no
   ·exact MP.no
  ·exact cj.opt _
 ·exact cj.opt _
def CJ (P:iP)(t:TypeId)(es:List (TV×TV×Nat))(k:TV)(ok:Bool):Option TV:=
 match bh P t with
 | some ti=>match ti.desc with
  | .map kt et=>match bh P kt,bh P et with
   | some tk,some te=>
    if uk P es.isEmpty kt k=true then
     match l7 P kt tk.desc k es 0,te.zero with
     |some (some (_,v,_)),_=>some (if ok then pn [v,.t (.bool true)] else v)
     |some none,some z=>some (if ok then pn [z,.t (.bool false)] else z)
     |_,_=>none
    else none
   |_,_=>none
  |_=>none
 |none=>none
theorem RA {P:iP}{H:Heap}{t:TypeId}{k:TV}{ok:Bool}{m:Nm}{es:List (TV×TV×Nat)}{c:Nat}(hk:H.get m=some (.map es c)):sB P H t (.map m) k ok=CJ P t es k ok:=by
 unfold sB CJ;simp only[mapOf,hk];cases bh P t with
 |none=>rfl
 |some ti=>
  simp only
  cases ti.desc<;>try rfl
  rename_i kt et
  simp only
  cases bh P kt<;>cases bh P et<;>rfl
def RB (P:iP)(H:Heap)(t:TypeId)(x k:TV)(ok:Bool):M TV:=match x with
 |.map m=>(match H.get m with
  |some (.map es _)=>KK (CJ P t es k ok)
  |_=>gL)
 |x=>nA (sB P H t x k ok)
theorem RC (P:iP)(H:Heap)(t:TypeId)(x k:TV)(ok:Bool):cj ev (RB P H t x k ok) (sB P H t x k ok):=by
 unfold RB;split
 ·split
  ·rename_i hk;refine yC.mono λv hv=> ?_
   rw[RA hk];exact hv
  ·exact MP.no
 ·exact cj.opt _
def Oc (P:iP)(t:TypeId)(es:List (TV×TV×Nat))(c:Nat)(k v:TV):Option (List (TV×TV×Nat)×Nat):=
 match bh P t with
 | some ti=>match ti.desc with
  | .map kt _=>match bh P kt with
   | some tk=>
    if uk P false kt k=true then
     match l7 P kt tk.desc k es 0 with
     |some (some (i,_,b))=>some (es.set i (k,v,b),c)
     |some none=>some (es++[(k,v,c)],c+1)
     |none=>none
    else none
   |none=>none
  |_=>none
 |none=>none
theorem abO {P:iP}{H:Heap}{t:TypeId}{k v:TV}{m:Nm}{es:List (TV×TV×Nat)}{c:Nat}(hk:H.get m=some (.map es c)){p:List (TV×TV×Nat)×Nat}(h:Oc P t es c k v=some p):ju P H t (.map m) k v=some [(m,.map p.1 p.2)]:=by
 unfold Oc at h;split at h<;>try (cases h;done)
 rename_i ti ht;split at h<;>try (cases h;done)
 rename_i kt et hd;split at h<;>try (cases h;done)
 rename_i tk Ma;split at h<;>try (cases h;done)
 rename_i hc;unfold ju;simp only[ht,hd,hk,Ma,if_pos hc];split at h<;>cases h<;>simp_all
def Zn (P:iP)(t:TypeId)(es:List (TV×TV×Nat))(c:Nat)(k:TV):Option (TV×List (TV×TV×Nat)×Nat):=
 match bh P t with
 | some ti=>match ti.desc with
  | .map kt et=>match bh P kt,bh P et with
   | some tk,some te=>
    if uk P false kt k=true then
     match l7 P kt tk.desc k es 0,te.zero with
     |some (some (i,v,b)),_=>some (pn [v,.t (.int .i64 b)],es.set i (k,v,b),c)
     |some none,some z=>some (pn [z,.t (.int .i64 c)],es++[(k,z,c)],c+1)
     |_,_=>none
    else none
   |_,_=>none
  |_=>none
 |none=>none
theorem abP {P:iP}{H:Heap}{t:TypeId}{k:TV}{m:Nm}{es:List (TV×TV×Nat)}{c:Nat}(hk:H.get m=some (.map es c)){p:TV×List (TV×TV×Nat)×Nat}(h:Zn P t es c k=some p):lS P H t (.map m) k=some (p.1,[(m,.map p.2.1 p.2.2)]):=by
 unfold Zn at h;split at h<;>try (cases h;done)
 rename_i ti ht;split at h<;>try (cases h;done)
 rename_i kt et hd;split at h<;>try (cases h;done)
 rename_i tk te Ma hte;split at h<;>try (cases h;done)
 rename_i hc;unfold lS;simp only[ht,hd,hk,Ma,hte,if_pos hc];split at h<;>cases h<;>simp_all
def Zo (P:iP)(H:Heap)(t:TypeId)(x k:TV):M pY:=match x with
 |.map m=>(match H.get m with
  |some (.map es c)=>bg (Zm (Zn P t es c k)) λp=>cu (.val p.1 [(m,.map p.2.1 p.2.2)])
  |_=>gL)
 |x=>nA ((lS P H t x k).map λp=>.val p.1 p.2)
theorem VV (P:iP)(H:Heap)(t:TypeId)(x k:TV):cj ev (Zo P H t x k) ((lS P H t x k).map λp=>.val p.1 p.2):=by
 unfold Zo;split
 ·split
  ·rename_i hk;refine MP.bind VP λp hp=>MP.ret ?_
   rw[abP hk hp];rfl
  ·exact MP.no
 ·exact cj.opt _
def Zp (es:List (TV×TV×Nat))(c:Nat)(n:Int)(v:TV):Option (List (TV×TV×Nat)×Nat):=match vv es n 0 with
 |some i=>match es[i]? with
  |some (k,_,b)=>some (es.set i (k,v,b),c)
  |none=>none
 |none=>none
theorem abQ {H:Heap}{v:TV}{kk:IntKind}{n:Int}{m:Nm}{es:List (TV×TV×Nat)}{c:Nat}(hk:H.get m=some (.map es c)){p:List (TV×TV×Nat)×Nat}(h:Zp es c n v=some p):jo H (.map m) (.t (.int kk n)) v=some [(m,.map p.1 p.2)]:=by
 unfold Zp at h;split at h<;>try (cases h;done)
 rename_i i hi;split at h<;>try (cases h;done)
 rename_i k w b he;cases h;unfold jo;simp only[hk,hi,he]
def Zq (H:Heap)(x s v:TV):M (List (Nm×aO)):=match x,s with
 |.map m,.t (.int _ n)=>(match H.get m with
  |some (.map es c)=>bg (VO (Zp es c n v)) λp=>cu [(m,.map p.1 p.2)]
  |_=>gL)
 |x,s=>nA (jo H x s v)
theorem VW (H:Heap)(x s v:TV):cj ev (Zq H x s v) (jo H x s v):=by
 unfold Zq;split
 ·split
  ·rename_i hk;refine MP.bind Mt λp hp=>MP.ret ?_
   exact abQ hk hp
  ·exact MP.no
 ·exact cj.opt _
section
variable {P:iP}{ty kt et:TypeId}{ti tk te:TI}{s:List UInt8}{es:List (TV×TV×Nat)}
end
def Zr (P:iP)(H:Heap)(t:TypeId)(x k v:TV):M (List (Nm×aO)):=match x with
 |.map m=>(match H.get m with
  |some (.map es c)=>bg (VO (Oc P t es c k v)) λp=>cu [(m,.map p.1 p.2)]
  |_=>gL)
 |x=>nA (ju P H t x k v)
theorem VX (P:iP)(H:Heap)(t:TypeId)(x k v:TV):cj ev (Zr P H t x k v) (ju P H t x k v):=by
 unfold Zr;split
 ·split
  ·rename_i hk;refine MP.bind Mt λp hp=>MP.ret ?_
   exact abO hk hp
  ·exact MP.no
 ·exact cj.opt _
def KX (P:iP)(t:TypeId)(x i:TV):M TV:=
 match bh P t,Gi i with
 |some ti,some n=>(match ti.desc,x with
  |.string,.t (.str s)=>bg (Zk s n) λb=>cu (.t (.int .u8 b.toNat))
  |_,_=>nA (pV P t x i))
 |_,_=>nA (pV P t x i)
theorem Od (P:iP)(t:TypeId)(x i:TV):cj ev (KX P t x i) (pV P t x i):=by
 unfold KX;split
 ·rename_i ti n ht hn;have hi:=sY hn;split
  ·rename_i s hd;refine cj.of_eq (cj.bind (y:=λb=>some (.t (.int .u8 b.toNat))) (Rr s n) λe _=>cj.ret _) ?_;unfold pV;rw[ht,hi];simp only[hd];cases s[n]? <;>rfl
  ·exact cj.opt _
 ·exact cj.opt _
def Oe (m:M TV):M pY:=bg m λv=>cu (.val v [])
theorem Bl {m:M TV}{x:Option TV}(h:cj ev m x):cj ev (Oe m) (match xO x with
 |some (v,u)=>some (.val v u)
 |none=>none):=by
 refine cj.of_eq (cj.bind (y:=λv=>some (.val v [])) h λa _=>cj.ret _) ?_
 cases x<;>rfl
def Zs:TV->Option (List Tree)
 |.t (.sl es)=>some es
 |.j4 es=>some es
 |_=>none
theorem VY {v:TV}{es:List Tree}(h:Zs v=some es):Mi v es:=by
 unfold Zs at h;split at h
 ·cases h;exact .inl rfl
 ·cases h;exact .inr rfl
 ·cases h
def Zt (  P:iP)(nm:Nm)(H:Heap)(st xt:TypeId)(s x:TV):M (TV×List (Nm×aO)):=
 match bh P st with
 | some ti=>(match ti.desc with
  | .slice elem=>(match bh P elem,Zs x with
   | some te,some es=>(match te.zero with
    | some z=>if te.size≠0/\z.cells.length=te.size/\te.bytes≠0/\st=xt then
      bg (Rp te.agg te.size es) λb=>match b with
      |false=>nA (jV P nm H st xt s (.t (.sl [])))
      | true=>(match s with
       |.bJ=>bg (xo (es.length*te.bytes) fE) λ_=>cu (.ref nm 0 es.length,[(nm,.arr (elem,te.agg) te.size false ((flat es).map .t))])
       |.j4 []=>bg (xo (es.length*te.bytes) fE) λ_=>cu (.ref nm 0 es.length,[(nm,.arr (elem,te.agg) te.size false ((flat es).map .t))])
       |.ref k 0 len=>(match H.get k with
        | some (.arr g bE fz cs)=>if g=(elem,te.agg)/\bE=te.size then bg (N7 te.agg te.size len cs) λfs=>bg (xo ((len+es.length) *te.bytes) fE) λ_=>cu (.ref k 0 (fs++es).length,[(k,.arr (elem,te.agg) te.size fz ((flat (fs++es)).map .t))])
          else gL
        |_=>gL)
       |_=>gL)
     else gL
    |none=>gL)
   |_,_=>gL)
  |_=>gL)
 |none=>gL
theorem VZ      (C:cE)(nm:Nm)(H:Heap)(st xt:TypeId)(s x:TV):cj ev (Zt C.P nm H st xt s x) (jV C.P nm H st xt s x):=by
 unfold Zt;split
 ·rename_i ti ht;split
  ·rename_i elem hd;split
   ·rename_i te es hte hx;have hv:=VY hx;split
    ·rename_i z hz;split
     ·rename_i hc;obtain⟨c1,c2,c3,rfl⟩:=hc;have hA:wI C.P st elem te:=⟨⟨ti,ht,hd⟩,hte,z,hz,c1,c2,c3⟩;refine MP.bind Ru λb hu=> ?_
      cases b with
      | false=>
        obtain rfl:es=[]:=hu
        have e:jV C.P nm H st st s x=jV C.P nm H st st s (.t (.sl [])):=by
          rcases hv with rfl|rfl<;>rfl
        rw[e]
        exact MP.Ms (cj.opt _)
      |true=>
      obtain⟨hu,hne⟩:=hu;simp only;split
      ·refine MP.bind kL λ_ hb=>MP.ret ?_
       exact qF hA (FW hv hu) (by simpa using hne) hu.nv (by simp only[if_pos hb])
      ·refine MP.bind kL λ_ hb=>MP.ret ?_
       refine qF hA (FW hv hu) (by simpa using hne) hu.nv ?_;have e:fD H te.agg te.size (.j4 [])=some (0,[]):=rfl;simp only[e,Nat.zero_add,if_pos hb,List.nil_append]
      ·rename_i k len;split
       ·rename_i g bE fz cs hk;split
        ·rename_i hg;obtain⟨rfl,rfl⟩:=hg;refine MP.bind Bi λfs hf=>MP.bind kL λ_ hb=>MP.ret ?_
         obtain⟨rfl,rfl,hf⟩:=hf;refine qF hA (FW hv hu) (by simpa using hne) hu.nv ?_;have h2:jc H k 0 fs.length=some ((elem,te.agg),te.size,fz,(flat fs).map .t):=by
          unfold jc;simp only[hk];rw[if_pos ⟨by omega,by rw[Nat.zero_add,hf.length]⟩]
         simp only[h2,hb,and_self,if_true,flat,List.flatMap_append,List.map_append,List.length_append]
        ·exact MP.no
       ·exact MP.no
      ·exact MP.no
     ·exact MP.no
    ·exact MP.no
   ·exact MP.no
  ·exact MP.no
 ·exact MP.no
def orM {α:Type}(a b:M α):M α:=λcl=>match a cl with
 |some r=>some r
 |none=>b cl
theorem RD {α:Type}{a b:M α}{Q:α->Prop}(h:MP ev a Q)(k:MP ev b Q):MP ev (orM a b) Q:=λcl v zJ em hm he=>by
 unfold orM at hm;split at hm
 ·rename_i r hr;cases hm;exact h _ _ _ _ hr he
 ·exact k _ _ _ _ hm he
def RE (P:iP)(H:Heap)(t:TypeId)(k:Nm)(off len:Nat)(i:TV):M TV:=match bh P t,Gi i,H.get k with
 | some ti,some n,some (.arr g bE fz cs)=>(match ti.desc with
  |.slice elem=>(match bh P elem with
   |some te=>if te.size=bE/\0<bE then bg (Cw ((off+len) *bE=cs.length)) λ_=>bg (xo (n+1) len) λ_=>cu (.jB k cs.length ((off+n) *bE)) else gL
   |none=>gL)
  |_=>gL)
 |_,_,_=>gL
theorem V0 {P:iP}{H:Heap}{t:TypeId}{k:Nm}{off len:Nat}{i:TV}:MP ev (RE P H t k off len i) λv=>dW P H t (.ref k off len) i=some v:=by
 unfold RE;split
 ·rename_i ti n g bE fz cs ht hn hk;have hi:=sY hn;split
  ·rename_i elem hd;split
   ·rename_i te hte;split
    ·rename_i hc;refine MP.bind pL λ_ hp=>MP.bind kL λ_ hl=>MP.ret ?_
     have h2:jc H k off len=some (g,bE,fz,cs):=by
      unfold jc;simp only[hk];rw[if_pos ⟨hc.2,hp⟩]
     unfold dW;rw[ht,hi];simp only[hd,hte,h2,hc.1];rw[if_pos ⟨trivial,hl⟩]
    ·exact MP.no
   ·exact MP.no
  ·exact MP.no
 ·exact MP.no
def xp (P:iP)(H:Heap)(t:TypeId)(x i:TV):M TV:=match x with
 |.ref k off len=>orM (RE P H t k off len i) (sZ P H t (.ref k off len) i)
 |x=>sZ P H t x i
theorem CK (P:iP)(H:Heap)(t:TypeId)(x i:TV):cj ev (xp P H t x i) (dW P H t x i):=by
 unfold xp;split
 ·exact RD (V0.mono λv hv=>hv) (wL P H t _ i)
 ·exact wL P H t _ i
def RF (P:iP)(H:Heap)(t:TypeId)(k:Nm)(off len:Nat)(lv:TV):M pY:=match bh P t,H.get k,Gi lv with
 | some ti,some (.arr g bE fz cs),some l=>(match ti.desc with
  |.slice elem=>(match bh P elem with
   |some te=>if bE=te.size/\0<bE then bg (Cw ((off+len) *bE=cs.length)) λ_=>bg (xo l len) λ_=>cu (.val (.ref k (off+l) (len - l)) []) else gL
   |none=>gL)
  |_=>gL)
 |_,_,_=>gL
theorem RG {b:Bool}{P:iP}{H:Heap}{nm:Nm}{t:TypeId}{x lv:TV}{hi mx:Option TV}:wB b P H nm t x (some lv) hi mx=none:=by
 cases b with
 |false=>rfl
 |true=>
  show wR P H nm t x (some lv) hi mx=none
  unfold wR
  split
  · rename_i h;cases h
  · rfl
def zL (b:Bool)(P:iP)(H:Heap)(nm:Nm)(t:TypeId)(x:TV)(lo hi mx:Option TV):Option pY:=match wB b P H nm t x lo hi mx with
 |some r=>some (.val r.1 r.2)
 |none=>match pW P H t x lo hi mx with
  |some (r,ks)=>some (.val r (cH H ks))
  |none=>none
theorem V1 {b:Bool}{P:iP}{H:Heap}{nm:Nm}{t:TypeId}{k:Nm}{off len:Nat}{lv:TV}:MP ev (RF P H t k off len lv) λr=>zL b P H nm t (.ref k off len) (some lv) none none=some r:=by
 unfold RF;split
 ·rename_i ti g bE fz cs l ht hk hl;have hl':=sY hl;split
  ·rename_i elem hd;split
   ·rename_i te hte;split
    ·rename_i hc;refine MP.bind pL λ_ hp=>MP.bind kL λ_ h1=>MP.ret ?_
     have h2:jc H k off len=some (g,bE,fz,cs):=by
      unfold jc;simp only[hk];rw[if_pos ⟨hc.2,hp⟩]
     unfold zL;rw[RG];have e0:wQ H (.ref k off len)=some len:=rfl;have e1:eP (some lv) 0=some l:=hl';have e2:eP none len=some len:=rfl;simp only[pW,ht,hd,hte,e0,e1,e2,Option.isNone_none,Bool.true_or,h2,hc.1,and_self,if_true];rw[if_pos ⟨h1,Nat.le_refl len⟩];rfl
    ·exact MP.no
   ·exact MP.no
  ·exact MP.no
 ·exact MP.no
def KY (P:iP)(H:Heap)(nm:Nm)(t:TypeId)(k:Nm)(len:Nat)(hv:TV):M pY:=match bh P t,H.get k,Gi hv with
 | some ti,some (.arr g bE false cs),some h=>(match ti.desc with
  |.slice elem=>(match bh P elem with
   |some te=>if te.size=bE/\0<bE then bg (Cw ((0+len) *bE=cs.length)) λ_=>bg (xo h len) λ_=>bg (Rq (cs.take (h*bE))) λcs'=>cu (.val (.ref nm 0 h) [(k,.dead),(nm,.arr g bE false cs')]) else gL
   |none=>gL)
  |_=>gL)
 |_,_,_=>gL
theorem RH {P:iP}{H:Heap}{nm:Nm}{t:TypeId}{k:Nm}{len:Nat}{hv:TV}:MP ev (KY P H nm t k len hv) λr=>zL true P H nm t (.ref k 0 len) none (some hv) none=some r:=by
 unfold KY;split
 ·rename_i ti g bE cs h ht hk hh;have BU:=sY hh;split
  ·rename_i elem hd;split
   ·rename_i te hte;split
    ·rename_i hc;refine MP.bind pL λ_ hp=>MP.bind kL λ_ h1=>MP.bind F8 λcs' hq=>MP.ret ?_
     subst hq;have h2:jc H k 0 len=some (g,bE,false,cs):=by
      unfold jc;simp only[hk];rw[if_pos ⟨hc.2,hp⟩]
     unfold zL;simp only[wB,if_true,wR,ht,BU,h2,hd,hte,if_pos (And.intro hc.1 h1)]
    ·exact MP.no
   ·exact MP.no
  ·exact MP.no
 ·exact MP.no
def KZ (b:Bool)(P:iP)(H:Heap)(nm:Nm)(t:TypeId)(x:TV)(lo hi mx:Option TV):M pY:=match x,lo,hi,mx with
 |.ref k off len,some lv,none,none=>orM (RF P H t k off len lv) (CI b P H nm t (.ref k off len) (some lv) none none)
 |.ref k 0 len,none,some hv,none=>orM (match b with
  |true=>KY P H nm t k len hv
  |false=>gL) (CI b P H nm t (.ref k 0 len) none (some hv) none)
 |x,lo,hi,mx=>CI b P H nm t x lo hi mx
theorem K0 (b:Bool)(P:iP)(H:Heap)(nm:Nm)(t:TypeId)(x:TV)(lo hi mx:Option TV):cj ev (KZ b P H nm t x lo hi mx) (zL b P H nm t x lo hi mx):=by
 unfold KZ;split
 ·exact RD V1 (zK b P H nm t _ _ _ _)
 ·refine RD ?_ (zK b P H nm t _ _ _ _);cases b with
  |true=>exact RH
  |false=>exact MP.no
 ·exact zK b P H nm t _ _ _ _
def K1 (P:iP)(H:Heap)(t:TypeId)(k:Nm)(off len:Nat):M pY:=match bh P t,H.get k with
 | some ti,some (.arr g bE false cs)=>(match ti.desc with
  | .slice elem=>(match bh P elem with
   |some te=>(match te.zero with
    |some z=>if(te.size=bE/\0<bE)/\z.cells.length=te.size/\z.cells.all TV.leaf=true then bg (Cw ((off+len) *bE=cs.length)) λ_=>bg (Rq (cJ cs (off*bE) (qR len z.cells))) λcs'=>cu (.val (.t (.dr [])) [(k,.arr g bE false cs')]) else gL
    |none=>gL)
   |none=>gL)
  |_=>gL)
 |_,_=>gL
theorem RI {P:iP}{H:Heap}{t:TypeId}{k:Nm}{off len:Nat}:MP ev (K1 P H t k off len) λr=>(wS P H t (.ref k off len)).map (λp=>pY.val p.1 p.2)=some r:=by
 unfold K1;split
 ·rename_i ti g bE cs ht hk;split
  ·rename_i elem hd;split
   ·rename_i te hte;split
    ·rename_i z hz;split
     ·rename_i hc;obtain⟨⟨hc1,dF⟩,cW,iB⟩:=hc;refine MP.bind pL λ_ hp=>MP.bind F8 λcs' hq=>MP.ret ?_
      subst hq;subst hc1;have h2:jc H k off len=some (g,te.size,false,cs):=by
       unfold jc;simp only[hk];rw[if_pos ⟨dF,hp⟩]
      simp only[wS,ht,hd,hte,hz,h2];rw[if_pos ⟨trivial,cW,iB⟩];rfl
     ·exact MP.no
    ·exact MP.no
   ·exact MP.no
  ·exact MP.no
 ·exact MP.no
def Mv (C:cE)(f:FuncId)(H:Heap)(slots:List TV)(t:Nat)(o:Oper):M pY:=
 match o.op with
 |.call {callee:=.value fo,args,argTypes}=>(match jv C slots {callee:=.value fo,args,argTypes} with
  |some (g,alA)=>Rx H g alA t (Hy C f o)
  |none=>gL)
 |.call {callee:=.invoke recv name,args,argTypes}=>(match A9 C H slots recv name args with
  |some (g,alA)=>Rx H g alA t (Hy C f o)
  |none=>gL)
 |.pick c a b=>(match bU C slots c,bU C slots a,bU C slots b with
  |some (.t (.bool x)),some u,some v=>bg (Ro x) λc=>cu (.val (if c then u else v) [])
  |_,_,_=>gL)
 |.indexAddr ty x i=>(match bU C slots x,bU C slots i with
  |some x,some i=>Oe (xp C.P H ty x i)
  |_,_=>gL)
 |.index ty x i=>(match bU C slots x,bU C slots i with
  |some x,some i=>Oe (KX C.P ty x i)
  |_,_=>gL)
 |.load ty a=>(match bU C slots a with
  |some a=>Oe (Ry C.P H ty a)
  |_=>gL)
 |.store ty a x=>(match bU C slots a,bU C slots x with
  |some a,some x=>bg (KV C.P H ty a x) λu=>cu (.val bR u)
  |_,_=>gL)
 |.fieldAddr s x i=>(match bU C slots x with
  |some a=>Oe (CH C.P H s i a)
  |_=>gL)
 |.slice ty x lo hi mx=>(match bU C slots x,um C slots lo,um C slots hi,um C slots mx with
  |some v,some l,some h,some m=>KZ (o.dst.any (C.jD f)) C.P H (.loc [t]) ty v l h m
  |_,_,_,_=>gL)
 |.lookup ty x k ok=>(match bU C slots x,bU C slots k with
  |some x,some k=>Oe (RB C.P H ty x k ok)
  |_,_=>gL)
 |.mapUpdate ty x k v=>(match bU C slots x,bU C slots k,bU C slots v with
  |some x,some k,some v=>bg (Zr C.P H ty x k v) λu=>cu (.val bR u)
  |_,_,_=>gL)
 |.mapEntry ty x k=>(match bU C slots x,bU C slots k with
  |some x,some k=>Zo C.P H ty x k
  |_,_=>gL)
 |.entryStore ty x s v=>(match bU C slots x,bU C slots s,bU C slots v with
  |some x,some s,some v=>bg (Zq H x s v) λu=>cu (.val bR u)
  |_,_,_=>gL)
 | .call {callee:=.builtin .append,args,argTypes}=>(match args.toList,argTypes.toList with
  | [a,b],[ta,tb]=>(match bU C slots a,bU C slots b with
   |some x,some y=>bg (Zt C.P (.loc [t]) H ta tb x y) λp=>cu (.val p.1 p.2)
   |_,_=>gL)
  |_,_=>gL)
 | .call {callee:=.builtin .clear,args,argTypes}=>(match args.toList,argTypes.toList with
  | [a],[ta]=>(match bU C slots a with
   |some (.ref k off len)=>K1 C.P H ta k off len
   |_=>gL)
  |_,_=>gL)
 |.call {callee:=.builtin .max, ..}=>(match aR C mI f H slots t o with
  |some (.val v u)=>bg (DG v) λv=>cu (.val v u)
  |_=>gL)
 |.call {callee:=.builtin .min, ..}=>(match aR C mI f H slots t o with
  |some (.val v u)=>bg (DG v) λv=>cu (.val v u)
  |_=>gL)
 | .binOp .add ty x y _=>(match bU C slots x,bU C slots y with
  |some (.t (.str a)),some (.t (.str b))=>bg (KK (qT C.P .add ty x y (.t (.str a)) (.t (.str b)))) λv=>cu (.val v [])
  |_,_=>(match aR C mI f H slots t o with
   |some (.val v u)=>bg (DG v) λv=>cu (.val v u)
   |_=>gL))
 |.binOp .sub _ _ _ _=>(match aR C mI f H slots t o with
  |some (.val v u)=>bg (DG v) λv=>cu (.val v u)
  |_=>gL)
 |.binOp .mul _ _ _ _=>(match aR C mI f H slots t o with
  |some (.val v u)=>bg (DG v) λv=>cu (.val v u)
  |_=>gL)
 |.binOp .quo _ _ _ _=>(match aR C mI f H slots t o with
  |some (.val v u)=>bg (DG v) λv=>cu (.val v u)
  |_=>gL)
 |.binOp .shr _ _ _ _=>(match aR C mI f H slots t o with
  |some (.val v u)=>bg (DG v) λv=>cu (.val v u)
  |_=>gL)
 |.convert _ _ _=>(match aR C mI f H slots t o with
  |some (.val v u)=>bg (DG v) λv=>cu (.val v u)
  |_=>gL)
 |.binOp .neq ty x y _=>(match bU C slots x,bU C slots y with
  |some (.t (.agg a)),some (.t (.agg b))=>bg (KK (qT C.P .neq ty x y (.t (.agg a)) (.t (.agg b)))) λv=>cu (.val v [])
  |_,_=>nA (aR C mI f H slots t o))
 |.binOp .eql ty x y _=>(match bU C slots x,bU C slots y with
  |some (.t (.agg a)),some (.t (.agg b))=>bg (KK (qT C.P .eql ty x y (.t (.agg a)) (.t (.agg b)))) λv=>cu (.val v [])
  |_,_=>nA (aR C mI f H slots t o))
 |_=>nA (aR C mI f H slots t o)
theorem II (H:Heap)(slots:List TV)(t:Nat)(o:Oper):cj ev (Mv C f H slots t o) (aR C ev f H slots t o):=by
 unfold Mv;split
 ·rename_i fo args ats ho;unfold aR;rw[ho];simp only;split
  ·rename_i g alA hc;rw[hc];exact IF _ _ _ _ _
  ·exact cj.no
 ·rename_i fo nm args ats ho;unfold aR;rw[ho];simp only;split
  ·rename_i g alA hc;rw[hc];exact IF _ _ _ _ _
  ·exact cj.no
 ·rename_i c a b ho;split
  ·rename_i x u v h1 h2 h3;refine cj.of_eq (cj.bind (y:=λc=>some (.val (if c then u else v) [])) (Cx x) λc _=>cj.ret _) ?_;unfold aR;rw[ho];simp only[evalOp,ho,h1,h2,h3];rfl
  ·exact cj.no
 ·rename_i ty x i ho;split
  ·rename_i a b h1 h2;refine cj.of_eq (Bl (CK C.P H ty a b)) ?_;unfold aR;rw[ho];simp only[evalOp,ho,h1,h2];rfl
  ·exact cj.no
 ·rename_i ty x i ho;split
  ·rename_i a b h1 h2;refine cj.of_eq (Bl (Od C.P ty a b)) ?_;unfold aR;rw[ho];simp only[evalOp,ho,h1,h2];rfl
  ·exact cj.no
 ·rename_i ty a ho;split
  ·rename_i x h1;refine cj.of_eq (Bl (Rz C.P H ty x)) ?_;unfold aR;rw[ho];simp only[evalOp,ho,h1];rfl
  ·exact cj.no
 ·rename_i ty a x ho;split
  ·rename_i u v h1 h2;refine cj.of_eq (cj.bind (y:=λq=>some (.val bR q)) (N9 C.P H ty u v) λq _=>cj.ret _) ?_;unfold aR;rw[ho];simp only[evalOp,ho,h1,h2,wC];cases storeT C.P H ty u v<;>rfl
  ·exact cj.no
 ·rename_i s x i ho;split
  ·rename_i a h1;refine MP.bind (P:=λv=>∃off,eH C.P s i=some off/\pU H a off=some v) ?_ λv hv=>MP.ret ?_
   ·unfold CH;split
    ·rename_i off h2;exact(MP.Ms (KW H a off)).mono λv hv=>⟨off,h2,hv⟩
    ·exact MP.no
   ·obtain⟨off,h2,h3⟩:=hv;unfold eH at h2;split at h2<;>try (simp at h2;done)
    rename_i ti BV;split at h2<;>try (simp at h2;done)
    rename_i fs hfs;split at h2<;>try (simp at h2;done)
    rename_i fd hfd;split at h2<;>try (simp at h2;done)
    rename_i tf PZ;split at h2<;>try (simp at h2;done)
    rename_i hz;simp at h2;subst h2;unfold aR;rw[ho];simp only[evalOp,ho,h1,BV,hfs,hfd,PZ,if_neg hz,h3,xO,Option.map_some]
  ·exact cj.no
 ·rename_i ty x lo hi mx ho;split
  ·rename_i v l h m h1 h2 h3 h4;refine cj.of_eq (K0 (o.dst.any (C.jD f)) C.P H (.loc [t]) ty v l h m) ?_;unfold aR zL;rw[ho];simp only[evalOp,ho,h1,h2,h3,h4];cases wB (o.dst.any (C.jD f)) C.P H (.loc [t]) ty v l h m with
   |some r=>rfl
   | none=>
     simp only
     cases pW C.P H ty v l h m<;>rfl
  ·exact cj.no
 ·rename_i ty x k ok ho;split
  ·rename_i a b h1 h2;refine cj.of_eq (Bl (RC C.P H ty a b ok)) ?_;unfold aR;rw[ho];simp only[evalOp,ho,h1,h2];rfl
  ·exact cj.no
 ·rename_i ty x k v ho;split
  ·rename_i a b c h1 h2 h3;refine cj.of_eq (cj.bind (y:=λq=>some (.val bR q)) (VX C.P H ty a b c) λq _=>cj.ret _) ?_;unfold aR;rw[ho];simp only[evalOp,ho,h1,h2,h3,wC];cases ju C.P H ty a b c<;>rfl
  ·exact cj.no
 ·rename_i ty x k ho;split
  ·rename_i a b h1 h2;refine cj.of_eq (VV C.P H ty a b) ?_;unfold aR;rw[ho];simp only[evalOp,ho,h1,h2];cases lS C.P H ty a b<;>rfl
  ·exact cj.no
 ·rename_i ty x s v ho;split
  ·rename_i a b c h1 h2 h3;refine cj.of_eq (cj.bind (y:=λq=>some (.val bR q)) (VW H a b c) λq _=>cj.ret _) ?_;unfold aR;rw[ho];simp only[evalOp,ho,h1,h2,h3,wC];cases jo H a b c<;>rfl
  ·exact cj.no
 ·rename_i args ats ho;split
  ·rename_i a b ta tb ha hta;split
   ·rename_i x y hx hy;refine cj.of_eq (cj.bind (y:=λp=>some (.val p.1 p.2)) (VZ C (.loc [t]) H ta tb x y) λp _=>cj.ret _) ?_;unfold aR;rw[ho];have h1:jd C slots args.toList=some [x,y]:=by rw[ha];simp only[jd,hx,hy]
    have h2:kV C (.loc [t]) H .append [ta,tb] [x,y]=jV C.P (.loc [t]) H ta tb x y:=by delta kV;rfl
    simp only[evalOp,ho,h1,hta,h2];cases jV C.P (.loc [t]) H ta tb x y<;>rfl
   ·exact cj.no
  ·exact cj.no
 ·rename_i args ats ho;split
  ·rename_i a ta ha hta;split
   ·rename_i k off len hx;refine cj.of_eq RI ?_;unfold aR;rw[ho];have h1:jd C slots args.toList=some [.ref k off len]:=by rw[ha];simp only[jd,hx]
    have h2:kV C (.loc [t]) H .clear [ta] [.ref k off len]=wS C.P H ta (.ref k off len):=by delta kV;rfl
    simp only[evalOp,ho,h1,hta,h2];cases wS C.P H ta (.ref k off len)<;>rfl
   ·exact cj.no
  ·exact cj.no
 ·rename_i alA ats ho;have e:aR C mI f H slots t o=aR C ev f H slots t o:=by
   unfold aR;rw[ho]
  split
  ·rename_i v u h;refine cj.of_eq (cj.bind (y:=λv=>some (.val v u)) (nV v) λc _=>cj.ret _) ?_;rw[← e,h];rfl
  ·exact cj.no
 ·rename_i alA ats ho;have e:aR C mI f H slots t o=aR C ev f H slots t o:=by
   unfold aR;rw[ho]
  split
  ·rename_i v u h;refine cj.of_eq (cj.bind (y:=λv=>some (.val v u)) (nV v) λc _=>cj.ret _) ?_;rw[← e,h];rfl
  ·exact cj.no
 ·rename_i ty x y r2 ho;have e:aR C mI f H slots t o=aR C ev f H slots t o:=by
   unfold aR;rw[ho]
  split
  ·rename_i a b h1 h2;refine cj.of_eq (cj.bind (y:=λv=>some (.val v [])) yC λv _=>cj.ret _) ?_;unfold aR;rw[ho];simp only[evalOp,ho,h1,h2,xO];cases qT C.P .add ty x y (.t (.str a)) (.t (.str b))<;>rfl
  ·split
   ·rename_i v u h;refine cj.of_eq (cj.bind (y:=λv=>some (.val v u)) (nV v) λc _=>cj.ret _) ?_;rw[← e,h];rfl
   ·exact cj.no
 ·rename_i ty x y r2 ho;have e:aR C mI f H slots t o=aR C ev f H slots t o:=by
   unfold aR;rw[ho]
  split
  ·rename_i v u h;refine cj.of_eq (cj.bind (y:=λv=>some (.val v u)) (nV v) λc _=>cj.ret _) ?_;rw[← e,h];rfl
  ·exact cj.no
 ·rename_i ty x y r2 ho;have e:aR C mI f H slots t o=aR C ev f H slots t o:=by
   unfold aR;rw[ho]
  split
  ·rename_i v u h;refine cj.of_eq (cj.bind (y:=λv=>some (.val v u)) (nV v) λc _=>cj.ret _) ?_;rw[← e,h];rfl
  ·exact cj.no
 ·rename_i ty x y r2 ho;have e:aR C mI f H slots t o=aR C ev f H slots t o:=by
   unfold aR;rw[ho]
  split
  ·rename_i v u h;refine cj.of_eq (cj.bind (y:=λv=>some (.val v u)) (nV v) λc _=>cj.ret _) ?_;rw[← e,h];rfl
  ·exact cj.no
 ·rename_i ty x y r2 ho;have e:aR C mI f H slots t o=aR C ev f H slots t o:=by
   unfold aR;rw[ho]
  split
  ·rename_i v u h;refine cj.of_eq (cj.bind (y:=λv=>some (.val v u)) (nV v) λc _=>cj.ret _) ?_;rw[← e,h];rfl
  ·exact cj.no
 ·rename_i ty x y ho;have e:aR C mI f H slots t o=aR C ev f H slots t o:=by
   unfold aR;rw[ho]
  split
  ·rename_i v u h;refine cj.of_eq (cj.bind (y:=λv=>some (.val v u)) (nV v) λc _=>cj.ret _) ?_;rw[← e,h];rfl
  ·exact cj.no
 ·rename_i ty x y r2 ho;split
  ·rename_i a b h1 h2;refine cj.of_eq (cj.bind (y:=λv=>some (.val v [])) yC λv _=>cj.ret _) ?_;unfold aR;rw[ho];simp only[evalOp,ho,h1,h2,xO];cases qT C.P .neq ty x y (.t (.agg a)) (.t (.agg b))<;>rfl
  ·have e:aR C mI f H slots t o=aR C ev f H slots t o:=by
    unfold aR;rw[ho]
   rw[← e];exact cj.opt _
 ·rename_i ty x y r2 ho;split
  ·rename_i a b h1 h2;refine cj.of_eq (cj.bind (y:=λv=>some (.val v [])) yC λv _=>cj.ret _) ?_;unfold aR;rw[ho];simp only[evalOp,ho,h1,h2,xO];cases qT C.P .eql ty x y (.t (.agg a)) (.t (.agg b))<;>rfl
  ·have e:aR C mI f H slots t o=aR C ev f H slots t o:=by
    unfold aR;rw[ho]
   rw[← e];exact cj.opt _
 ·rename_i h1 h2 h3 h4 h5 h6 h7 h8 h9 h10 h11 h12 h13 h14 h15 h16 h17 h18 h19 h20 h21 h22 h23 h24 h25;have e:aR C mI f H slots t o=aR C ev f H slots t o:=by
   unfold aR;split
   ·rfl
   ·rename_i fo args ats ho;exact absurd ho (h1 fo args ats)
   ·rename_i r nm args ats ho;exact absurd ho (h2 r nm args ats)
   ·rfl
  rw[← e];exact cj.opt _
def V2 (C:cE)(f:FuncId)(ops:Array Oper):List Oper->St->M (aJ×St)
 | [],st=>cu (.normal,st)
 | o::r,st=>bg (Bj ops st.slots o) λw=>match w with
  |false=>V2 C f ops r {st with slots:=cI st.slots o.dst bR,tick:=st.tick+1}
  |true=>bg (Mv C f st.H st.slots st.tick o) λres=>match res with
   |.val v u=>V2 C f ops r {slots:=cI st.slots o.dst v,H:=st.H.dH u,tick:=st.tick+1}
   |.panic v u l=>cu (.panic v,{st with H:=(st.H.sC l).dH u,tick:=st.tick+1})
theorem Gk (ops:Array Oper):∀(l:List Oper) (st:St),cj ev (V2 C f ops l st) (AN C ev f ops l st)
 | [],st=>cj.ret _
 | o ::r,st=>by
   refine cj.of_eq (cj.bind (y:=λw=>match w with
     |false=>AN C ev f ops r {st with slots:=cI st.slots o.dst bR,tick:=st.tick+1}
     | true=>(aR C ev f st.H st.slots st.tick o).bind λres=>match res with
       |.val v u=>AN C ev f ops r {slots:=cI st.slots o.dst v,H:=st.H.dH u,tick:=st.tick+1}
       |.panic v u l=>some (.panic v,{st with H:=(st.H.sC l).dH u,tick:=st.tick+1})) (Cy ops st.slots o) λw _=> ?_) ?_
   · cases w with
     |false=>exact Gk ops r _
     | true=>
       refine cj.bind (II st.H st.slots st.tick o) λres _=> ?_
       cases res with
       |val v u=>exact Gk ops r _
       |panic v u l=>exact cj.ret _
   · rw[ AN]
     cases dL ops st.slots o with
     |none=>rfl
     | some w=>
       cases w with
       |false=>rfl
       | true=>
         show(aR C ev f st.H st.slots st.tick o).bind _=_
         cases aR C ev f st.H st.slots st.tick o with
         |none=>rfl
         |some res=>cases res<;>rfl
def RJ (bs:List Nat)(i:Nat):Option Nat->Bool
 |some j=>fW bs j i
 |none=>false
def IJ (C:cE)(ev:aX)(f:FuncId)(ops:Array Oper)(t0 i:Nat)(o:Oper)(s:sD)(qt:Option Nat):Option Rec:=
 (dL ops s.slots o).bind λw=>match w with
  |false=>some ⟨[],.unwanted⟩
  | true=>(JT C s.H s.slots o).bind λfp=>(aR C ev f (l9 s.H fp) s.slots (t0+i) o).bind λres=>match res with
   |.val v u=>some ⟨fp,.val v u⟩
   |.panic v u l=>match qt with
    |some _=>none
    |none=>some ⟨fp,.panic v u l⟩
theorem Zu (ops:Array Oper)(bs:List Nat)(t0 i:Nat)(o:Oper)(s:sD)(qt:Option Nat):PG C ev f ops bs t0 i o s qt=bif RJ bs i qt then some ⟨[],.vw⟩ else IJ C ev f ops t0 i o s qt:=by
 unfold PG IJ;simp only[sV,Ck];have e:(match dL ops s.slots o with
  |none=>none
  |some false=>some ⟨[],.unwanted⟩
  | some true=>
   match JT C s.H s.slots o with
   |none=>none
   | some fp=>
    match aR C ev f (l9 s.H fp) s.slots (t0+i) o with
    |none=>none
    |some (.val v u)=>some ⟨fp,.val v u⟩
    |some (.panic v u l)=>match qt with
     |some _=>none
     |none=>some ⟨fp,.panic v u l⟩:Option Rec)=IJ C ev f ops t0 i o s qt:=by
  unfold IJ
  cases dL ops s.slots o with
  |none=>rfl
  | some w=>
   cases w with
   |false=>rfl
   | true=>
    simp only[Option.bind_some]
    cases JT C s.H s.slots o with
    |none=>rfl
    |some fp=>
     simp only[Option.bind_some]
     cases aR C ev f (l9 s.H fp) s.slots (t0+i) o with
     |none=>rfl
     |some res=>cases res<;>rfl
 unfold IJ at e;cases qt with
 |none=>exact e
 |some j=>
  show(match fW bs j i with|true=>_|false=>_)=bif fW bs j i then _ else _
  cases fW bs j i with
  |true=>rfl
  |false=>exact e
def fpO (C:cE)(H:Heap)(slots:List TV)(o:Oper):M (List Nm):=match o.op with
 |.call {callee:=.value fo,args,argTypes}=>(match jv C slots {callee:=.value fo,args,argTypes} with
  |some (_,alA)=>uP H eE [] (TV.iR alA)
  |none=>gL)
 |.call {callee:=.invoke recv name,args,argTypes}=>(match bU C slots recv,jd C slots args.toList with
  |some v,some alA=>uP H eE [] (v.names++TV.iR alA)
  |_,_=>gL)
 |_=>nA (JT C H slots o)
theorem abR {H:Heap}{slots:List TV}{o:Oper}:MP ev (fpO C H slots o) λfp=>JT C H slots o=some fp:=by
 unfold fpO;split
 ·rename_i fo args ats ho;split
  ·rename_i g alA hc;refine(rS _ _ _).mono λS hS=> ?_
   unfold JT;rw[ho];simp only[hc];exact hS.1
  ·exact MP.no
 ·rename_i recv name args ats ho;split
  ·rename_i v alA h1 h2;refine(rS _ _ _).mono λS hS=> ?_
   unfold JT;rw[ho];simp only[h1,h2];exact hS.1
  ·exact MP.no
 ·exact MP.Ms (cj.opt _)
def Zv (C:cE)(f:FuncId)(ops:Array Oper)(bs:List Nat)(t0 i:Nat)(o:Oper)(s:sD)(qt:Option Nat):M Rec:=
 match RJ bs i qt with
 |true=>cu ⟨[],.vw⟩
 |false=>bg (Bj ops s.slots o) λw=>match w with
  |false=>cu ⟨[],.unwanted⟩
  | true=>bg (fpO C s.H s.slots o) λfp=>bg (Mv C f (l9 s.H fp) s.slots (t0+i) o) λres=>match res with
    |.val v u=>cu ⟨fp,.val v u⟩
    |.panic v u l=>match qt with
     |some _=>gL
     |none=>cu ⟨fp,.panic v u l⟩
theorem V3 (ops:Array Oper)(bs:List Nat)(t0 i:Nat)(o:Oper)(s:sD)(qt:Option Nat):cj ev (Zv C f ops bs t0 i o s qt) (PG C ev f ops bs t0 i o s qt):=by
 rw[Zu];unfold Zv;cases RJ bs i qt with
 |true=>exact cj.ret _
 | false=>
  refine cj.bind (Cy ops s.slots o) λw _=> ?_
  cases w with
  |false=>exact cj.ret _
  | true=>
   simp only
   refine cj.bind abR λfp _=> ?_
   refine cj.bind (II _ _ _ _) λres _=> ?_
   cases res with
   |val v u=>exact cj.ret _
   |panic v u l=>
    cases qt with
    |none=>exact cj.ret _
    |some _=>exact cj.no
def RL (C:cE)(f:FuncId)(ops:Array Oper)(bs:List Nat)(t0:Nat):Nat->List Oper->sD->Option Nat->M (List Rec)
 |_,[],_,_=>cu []
 |i,o::r,s,qt=>bg (Zv C f ops bs t0 i o s qt) λrec=>bg (RL C f ops bs t0 (i+1) r (s.after o rec.res) (j8 i qt rec.res)) λrs=>cu (rec::rs)
theorem IK (ops:Array Oper)(bs:List Nat)(t0:Nat):∀(l:List Oper) (i:Nat) (s:sD) (qt:Option Nat),cj ev (RL C f ops bs t0 i l s qt) (AP C ev f ops bs t0 i l s qt)
 | [],i,s,qt=>cj.ret _
 | o::r,i,s,qt=>by
  refine cj.of_eq (cj.bind (V3 ops bs t0 i o s qt) λrec _=>cj.bind (y:=λrs=>some (rec::rs)) (IK ops bs t0 r (i+1) (s.after o rec.res) (j8 i qt rec.res)) λrs _=>cj.ret _) ?_
  rw[AP]
  cases PG C ev f ops bs t0 i o s qt with
  |none=>rfl
  |some rec=>
   simp only[Option.bind_some]
   cases AP C ev f ops bs t0 (i+1) r (s.after o rec.res) (j8 i qt rec.res)<;>rfl
noncomputable def K2 (C:cE)(ops:Array Oper)(st:St)(recs:List Rec)(i:Nat)(x:Oper)(rx ry:Rec):Option Prop:=match x.op with
 | .lookup t m k ok=>(match rx.fp,rx.res,ry.res with
  | [nm],.val v [],.val _ [(nm',.map es _)]=>if nm=nm' then(match bU C (jq (x.looksAt ops) 0 (gR ops.toList recs (s0 st) (λ_=>true) i).slots) m,bU C (jq (x.looksAt ops) 0 (gR ops.toList recs (s0 st) (λ_=>true) i).slots) k with
   |some (.map n2),some kv=>if n2=nm then some (CJ C.P t es kv ok=some v) else none
   |_,_=>none) else none
  |_,_,_=>none)
 |_=>none
theorem Og {st:St}{ops:Array Oper}{recs:List Rec}{i:Nat}{x:Oper}{rx ry:Rec}{p:Prop}(h:K2 C ops st recs i x rx ry=some p)(hp:p):Qm C ev f ops st recs i x rx ry:=by
 unfold K2 at h;split at h
 ·rename_i t m k ok hx;split at h
  ·rename_i nm v w nm' es c h1 h2 h3;split at h
   ·rename_i hn;subst hn;split at h
    ·rename_i n2 kv h4 h5;split at h
     ·rename_i hn2;subst hn2;cases h;refine⟨_,_,_,_,h1,h2,h3, ?_⟩;have hg:Heap.get [(n2,aO.map es c)] n2=some (.map es c):=if_pos rfl;unfold aR;rw[hx];simp only[evalOp,hx,h4,h5,RA hg,hp,xO,Option.map_some]
     ·cases h
    ·cases h
   ·cases h
  ·cases h
 ·cases h
noncomputable def RM (C:cE)(ops:Array Oper)(st:St)(recs:List Rec)(bs:List Nat)(i j:Nat):M Unit:=match ops.toList[i]?,ops.toList[j]?,recs[i]?,recs[j]? with
 | some x,some y,some rx,some ry=>(match fW bs i j||qU ops x y rx ry with
  |true=>cu ()
  |false=>(match j9 ops x y,K2 C ops st recs i x rx ry with
   |true,some p=>Cw p
   |_,_=>gL))
 |_,_,_,_=>cu ()
noncomputable def RN (C:cE)(ops:Array Oper)(st:St)(recs:List Rec)(bs:List Nat):Nat->Nat->M Unit
 |0,_=>cu ()
 |i+1,j=>bg (RM C ops st recs bs i j) λ_=>RN C ops st recs bs i j
noncomputable def RO (C:cE)(ops:Array Oper)(st:St)(recs:List Rec)(bs:List Nat):Nat->M Unit
 |0=>cu ()
 |j+1=>bg (RN C ops st recs bs j j) λ_=>RO C ops st recs bs j
def K3 (C:cE)(ev:aX)(f:FuncId)(ops:Array Oper)(st:St)(recs:List Rec)(i j:Nat):Prop:=∀(x y:Oper) (rx ry:Rec),ops.toList[i]?=some x->ops.toList[j]?=some y->recs[i]?=some rx->recs[j]?=some ry->
 fW (kX ops.toList []) i j=true\/qU ops x y rx ry=true\/(j9 ops x y=true/\Qm C ev f ops st recs i x rx ry)
theorem RP {ops:Array Oper}{st:St}{recs:List Rec}{i j:Nat}:MP ev (RM C ops st recs (kX ops.toList []) i j) λ_=>K3 C ev f ops st recs i j:=by
 unfold RM;split
 ·rename_i x y rx ry h1 h2 h3 h4;split
  ·rename_i hb;refine MP.ret λx' y' rx' ry' e1 e2 e3 e4=> ?_
   rw[h1] at e1;rw[h2] at e2;rw[h3] at e3;rw[h4] at e4;cases e1;cases e2;cases e3;cases e4;exact(Bool.or_eq_true _ _▸hb).imp (λh=>h) .inl
  ·split
   ·rename_i p hs hp;refine pL.mono λ_ hpp x' y' rx' ry' e1 e2 e3 e4=> ?_
    rw[h1] at e1;rw[h2] at e2;rw[h3] at e3;rw[h4] at e4;cases e1;cases e2;cases e3;cases e4;exact .inr (.inr ⟨hs,Og hp hpp⟩)
   ·exact MP.no
 ·rename_i hn;exact MP.ret λx y rx ry e1 e2 e3 e4=>absurd e4 (hn x y rx ry e1 e2 e3)
theorem IL {ops:Array Oper}{st:St}{recs:List Rec}{j:Nat}:∀(n:Nat),MP ev (RN C ops st recs (kX ops.toList []) n j) λ_=>∀i,i<n->K3 C ev f ops st recs i j
 |0=>MP.ret λi hi=>by omega
 | n +1=>MP.bind RP λ_ h1=>(IL n).mono λ_ h2 i hi=>by
   rcases Nat.lt_or_ge i n with h|h
   · exact h2 i h
   · have:i=n:=by omega
     subst this;exact h1
theorem IM {ops:Array Oper}{st:St}{recs:List Rec}:∀(n:Nat),MP ev (RO C ops st recs (kX ops.toList []) n) λ_=>∀j,j<n->∀i,i<j->K3 C ev f ops st recs i j
 |0=>MP.ret λj hj=>by omega
 | n +1=>MP.bind (IL n) λ_ h1=>(IM n).mono λ_ h2 j hj=>by
   rcases Nat.lt_or_ge j n with h|h
   · exact h2 j h
   · have:j=n:=by omega
     subst this;exact h1
noncomputable def IP (C:cE)(f:FuncId)(ops:Array Oper)(st:St):M (aJ×St):=
 bg (RL C f ops (kX ops.toList []) st.tick 0 ops.toList {slots:=st.slots,H:=st.H} none) λrecs=>match sF 0 ops.toList with
  |true=>(match lT ops ops.toList recs (kX ops.toList []) ops.toList recs 0 with
   |true=>cu (NQ ops st recs)
   |false=>bg (RO C ops st recs (kX ops.toList []) ops.size) λ_=>cu (NQ ops st recs))
  |false=>gL
theorem K4 (hm:C.P.prog.follows .mixedOrders=true)(az:aF C ev){ops:Array Oper}{st:St}{id:Nat}:MP ev (IP C f ops st) λp=>∀Q,Q p.1 p.2->AW C (.region id ops true) st Q:=
 MP.bind (MP.Ms (IK _ _ _ _ _ _ _)) λrecs Ej=>by
  split
  ·rename_i hb;split
   ·rename_i hf;exact MP.ret λQ hq G0 w0 G w a h0 hs hst=>w5 hm az Ej (λi j x y rx ry hij hx hy yh Vt=>(Mb hf hij hx hy yh Vt).imp (λh=>h) .inl) hb rfl hst λex a' w' hg=>⟨_,_,hq,Good.comp hs rfl hg⟩
   ·refine MP.bind (IM ops.size) λ_ hf=>MP.ret λQ hq G0 w0 G w a h0 hs hst=>w5 hm az Ej (λi j x y rx ry hij hx hy yh Vt=>hf j (by
     have:=(List.getElem?_eq_some_iff.1 hy).1;simpa using this) i hij x y rx ry hx hy yh Vt) hb rfl hst λex a' w' hg=>⟨_,_,hq,Good.comp hs rfl hg⟩
  ·exact MP.no
def Mw (C:cE)(f:FuncId):Code->St->M (aJ×St)
 |.skip,st=>cu (.normal,st)
 |.label _,st=>cu (.normal,st)
 |.region _ ops draw,st=>match draw with
  |true=>IP C f ops st
  |false=>V2 C f ops ops.toList st
 |.exit id,st=>cu (.exit id,st)
 |.ret,st=>cu (.ret,st)
 |_,_=>gL
theorem V4 (hm:C.P.prog.follows .mixedOrders=true)(az:aF C ev):∀(c:Code) (st:St),MP ev (Mw C f c st) λp=>∀Q,Q p.1 p.2->AW C c st Q:=by
 have ev':∀{c:Code} {st:St} {m:M (aJ×St)},cj ev m (evalCode C ev f 0 c st)->MP ev m λp=>∀Q,Q p.1 p.2->AW C c st Q:=λh=>(MP.Ms h).mono λp hp Q hq=>AW.eval hm az hp hq
 intro c st;cases c with
 |skip=>exact ev' (cj.ret _)
 |label l=>exact ev' (cj.ret _)
 |region id ops draw=>
  cases draw with
  |true=>exact K4 hm az
  |false=>exact ev' (Gk ops ops.toList st)
 |exit id=>exact ev' (cj.ret _)
 |ret=>exact ev' (cj.ret _)
 |_=>exact MP.no
theorem uQ {P:Program}{c:Code}{R R':Exit->Act->World->Prop}(h:∀ex a w,R ex a w->R' ex a w):∀(n:Nat) {a:Act} {w:World},Code.rounds P c R n a w->Code.rounds P c R' n a w
 |0,_,_,h0=>h0
 |n+1,a,w,h1=>by
  rw[rounds_succ] at h1 ⊢
  refine wp_mono h1 λex a' w' hx=> ?_
  cases ex<;>first|exact uQ h n hx|exact h _ _ _ hx
def IQ (C:cE)(b:Code)(n:Nat)(st:St)(Q:aJ->St->Prop):Prop:=∀(G0:Gh) (w0:World) (G:Gh) (w:World) (a a1:Act),(∀p,¬G0.dom (.loc p))->cx G0 w0 G w->a1.defers=a.defers->tV C G w st a1->
 Code.rounds C.P b (λex a' w'=>∃e st',Q e st'/\Good C G0 w0 a e st' ex a' w') n a1 w
theorem IQ.mono {b:Code}{n:Nat}{st:St}{Q Q':aJ->St->Prop}(h:IQ C b n st Q)(k:∀e s,Q e s->Q' e s):IQ C b n st Q':=λG0 w0 G w a a1 h0 hs hd hst=>uQ (λ_ _ _ ⟨e,s,hq,hg⟩=>⟨e,s,k e s hq,hg⟩) n (h G0 w0 G w a a1 h0 hs hd hst)
theorem IQ.loop {b:Code}{n:Nat}{st:St}{Q:aJ->St->Prop}(h:IQ C b n st Q):AW C (.loop b) st Q:=λG0 w0 G w a h0 hs hst=>wp_loop_rounds n (h G0 w0 G w a a h0 hs rfl hst)
def abS (C:cE)(b:Code)(n:Nat)(Q:aJ->St->Prop):aJ->St->Prop
 |.normal,s=>IQ C b n s Q
 |e,s=>Q e s
theorem IQ.succ {b:Code}{n:Nat}{st:St}{Q:aJ->St->Prop}(h:AW C b st (abS C b n Q)):IQ C b (n+1) st Q:=by
 intro G0 w0 G w a a1 h0 hs hd hst;rw[rounds_succ];refine wp_mono (h G0 w0 G w a1 h0 hs hst) λex a2 w2 ⟨e,Vu,hq,hg⟩=> ?_
 cases e with
 |normal=>
  obtain⟨rfl,Ek,G1,hs1,iz⟩:=hg.nj
  exact hq G0 w0 G1 w2 a a2 h0 hs1 (Ek.trans hd) iz
 |exit id=>exact fH (hg.fG (by simp)) ⟨_,_,hq,Good.Ca hd hg⟩
 |ret=>exact fH (hg.fG (by simp)) ⟨_,_,hq,Good.Ca hd hg⟩
 |panic v=>exact fH (hg.fG (by simp)) ⟨_,_,hq,Good.Ca hd hg⟩
inductive Fr where
 |c (x:Code)
 |b (id:Nat)
 |x (b:Code) (n:Nat)
def KE (C:cE)(Q:aJ->St->Prop):List Fr->aJ->St->Prop
 | [],e,s=>Q e s
 |.c x::K,.normal,s=>AW C x s (KE C Q K)
 |.c _::K,.exit i,s=>KE C Q K (.exit i) s
 |.c _::K,.ret,s=>KE C Q K .ret s
 |.c _::K,.panic v,s=>KE C Q K (.panic v) s
 |.b id::K,.exit i,s=>if i=id then KE C Q K .normal s else KE C Q K (.exit i) s
 |.b _::K,.normal,s=>KE C Q K .normal s
 |.b _::K,.ret,s=>KE C Q K .ret s
 |.b _::K,.panic v,s=>KE C Q K (.panic v) s
 |.x b n::K,.normal,s=>IQ C b n s (KE C Q K)
 |.x _ _::K,.exit i,s=>KE C Q K (.exit i) s
 |.x _ _::K,.ret,s=>KE C Q K .ret s
 |.x _ _::K,.panic v,s=>KE C Q K (.panic v) s
theorem KE.seq {Q:aJ->St->Prop}{a b:Code}{K:List Fr}{s:St}(h:KE C Q (.c a:: .c b::K) .normal s):KE C Q (.c (.seq a b)::K) .normal s:=by
 refine AW.seq (AW.mono h λe s' h=> ?_);cases e with
 |normal=>exact h
 |_=>exact h
theorem KE.block {Q:aJ->St->Prop}{id:Nat}{x:Code}{K:List Fr}{s:St}(h:KE C Q (.c x:: .b id::K) .normal s):KE C Q (.c (.block id x)::K) .normal s:=by
 refine AW.block (AW.mono h λe s' h=> ?_);cases e with
 |exit i=>exact h
 |_=>exact h
theorem KE.cond {Q:aJ->St->Prop}{c:Operand}{a b:Code}{K:List Fr}{s:St}{q:Bool}(hc:bU C s.slots c=some (.t (.bool q)))(h:KE C Q (.c (cond q a b)::K) .normal s):KE C Q (.c (.cond c a b)::K) .normal s:=by
 cases q with
 |true=>exact AW.cond hc (λ_=>h) λe=>by cases e
 |false=>exact AW.cond hc (λe=>by cases e) λ_=>h
theorem KE.round {Q:aJ->St->Prop}{b:Code}{n:Nat}{K:List Fr}{s:St}(h:KE C Q (.c b:: .x b n::K) .normal s):IQ C b (n+1) s (KE C Q K):=IQ.succ (AW.mono h λe s' h=>by cases e<;>exact h)
theorem KE.rounds {Q:aJ->St->Prop}{b:Code}{n:Nat}{K:List Fr}{s:St}(h:KE C Q (.x b n::K) .normal s):KE C Q (.c (.loop b)::K) .normal s:=IQ.loop h
def uR:Code->Option Nat
 |.seq a b=>(uR a).or (uR b)
 |.cond _ a b=>(uR a).or (uR b)
 |.block _ c=>uR c
 |.loop c=>uR c
 |.region id _ _=>some id
 |_=>none
def isIn (l:List Nat):Option Nat->Bool
 |some r=>l.any (Nat.beq r)
 |none=>false
def goK (C:cE)(f:FuncId)(once:List Nat)(stop:Nat):Nat->List Fr->aJ->St->M (List Fr×aJ×St)
 |0,_,_,_=>gL
 |_+1,[],e,s=>cu ([],e,s)
 | n+1,.x b i::K,e,s=>match e with
  |.normal=>(match i with
   |0=>gL
   |i+1=>goK C f once stop n (.c b:: .x b i::K) .normal s)
  |e=>goK C f once stop n K e s
 | n+1,.b id::K,e,s=>match e with
  |.exit i=>(match Nat.beq i id with
   |true=>goK C f once stop n K .normal s
   |false=>goK C f once stop n K (.exit i) s)
  |e=>goK C f once stop n K e s
 | n+1,.c x::K,e,s=>match e with
  | .normal=>(match x with
   |.seq a b=>goK C f once stop n (.c a:: .c b::K) .normal s
   |.block id x=>goK C f once stop n (.c x:: .b id::K) .normal s
   |.loop x=>(match isIn once (uR x) with
    |true=>goK C f once stop n (.x x 40::K) .normal s
    |false=>cu (.c (.loop x)::K,.normal,s))
   |.cond c a b=>(match bU C s.slots c with
    |some (.t (.bool q))=>bg (Ro q) λq=>goK C f once stop n (.c (cond q a b)::K) .normal s
    |_=>gL)
   |.region id ops d=>(match Nat.beq id stop with
    |true=>cu (.c (.region id ops d)::K,.normal,s)
    |false=>bg (Mw C f (.region id ops d) s) λp=>goK C f once stop n K p.1 p.2)
   |x=>bg (Mw C f x s) λp=>goK C f once stop n K p.1 p.2)
  |e=>goK C f once stop n K e s
theorem qf (hm:C.P.prog.follows .mixedOrders=true)(az:aF C ev){once:List Nat}{stop:Nat}:∀(n:Nat) (K:List Fr) (e:aJ) (s:St),MP ev (goK C f once stop n K e s) λp=>∀Q,KE C Q p.1 p.2.1 p.2.2->KE C Q K e s:=by
 intro n;induction n with
 |zero=>intro K e s;exact MP.no
 | succ n ih =>
   intro K e s
   have code:∀(x:Code) (K:List Fr),MP ev (bg (Mw C f x s) λp=>goK C f once stop n K p.1 p.2) λp=>∀Q,KE C Q p.1 p.2.1 p.2.2->KE C Q (.c x::K) .normal s:=λx K=>
     MP.bind (V4 hm az x s) λp hx=>(ih K p.1 p.2).mono λq hq Q hk=>hx _ (hq Q hk)
   cases K with
   |nil=>exact MP.ret λQ h=>h
   | cons fr K=>
     cases fr with
     | x b i=>
       cases e with
       | normal=>
         cases i with
         |zero=>exact MP.no
         |succ i=>exact(ih (.c b:: .x b i::K) .normal s).mono λq hq Q hk=>KE.round (hq Q hk)
       |exit i=>exact ih K (.exit i) s
       |ret=>exact ih K .ret s
       |panic v=>exact ih K (.panic v) s
     | b id=>
       cases e with
       | exit i=>
         cases hb:Nat.beq i id with
         | true=>
           simp only[goK,hb]
           refine(ih K .normal s).mono λq hq Q hk=> ?_
           show if i=id then _ else _
           rw[if_pos (Nat.eq_of_beq_eq_true hb)]
           exact hq Q hk
         | false=>
           simp only[goK,hb]
           refine(ih K (.exit i) s).mono λq hq Q hk=> ?_
           show if i=id then _ else _
           rw[if_neg (Nat.ne_of_beq_eq_false hb)]
           exact hq Q hk
       |normal=>exact ih K .normal s
       |ret=>exact ih K .ret s
       |panic v=>exact ih K (.panic v) s
     | c x =>
       cases e with
       |exit i=>exact ih K (.exit i) s
       |ret=>exact ih K .ret s
       |panic v=>exact ih K (.panic v) s
       | normal=>
         cases x with
         |seq a b=>exact(ih (.c a:: .c b::K) .normal s).mono λq hq Q hk=>KE.seq (hq Q hk)
         |block id x=>exact(ih (.c x:: .b id::K) .normal s).mono λq hq Q hk=>KE.block (hq Q hk)
         | loop x=>
           simp only[goK]
           split
           · exact(ih (.x x 40::K) .normal s).mono λq hq Q hk=>KE.rounds (hq Q hk)
           · exact MP.ret λQ h=>h
         | cond c a b=>
           simp only[goK]
           split
           · rename_i q hc
             refine MP.bind (MP.Ms (Cx q)) λq' hq'=>(ih (.c (cond q' a b)::K) .normal s).mono λr hr Q hk=> ?_
             cases hq'
             exact KE.cond hc (hr Q hk)
           · exact MP.no
         | region id ops d=>
           simp only[goK]
           split
           · exact MP.ret λQ h=>h
           · exact code _ _
         |skip=>exact code .skip K
         |rangeFunc a b c d=>exact code (.rangeFunc a b c d) K
         |exit i=>exact code (.exit i) K
         |scope b=>exact code (.scope b) K
         |label l=>exact code (.label l) K
         |goto l=>exact code (.goto l) K
         |ret=>exact code .ret K
         |refuse w=>exact code (.refuse w) K
end ops
abbrev Ob (ev:aX):={c:Cl // c.holds ev}
def rq {α:Type}:Nat->α->List α->List α
 |0,_,l=>l
 |n+1,a,l=>a::rq n a l
abbrev vals {ev:aX}(l:List (Ob ev)):List Cl:=l.map (·.1)
section obs
variable {ev:aX}
abbrev oT:Ob ev:=⟨.b true true,rfl⟩
abbrev oF:Ob ev:=⟨.b false false,rfl⟩
abbrev oB {x c:Bool}(h:x=c):Ob ev:=⟨.b x c,h⟩
abbrev oC {g:FuncId}{alA:List TV}{os:List aO}{x:bz}(h:ev g alA os=some x):Ob ev:=⟨.r g alA os x,h⟩
abbrev oE {l:List Tree}{i:Nat}{x:Tree}(h:l[i]?=some x):Ob ev:=⟨.e l i x,h⟩
abbrev oV {x y:TV}(h:x=y):Ob ev:=⟨.v x y,h⟩
abbrev oN {o:aO}(h:∀σ,o.rn σ=some o):Ob ev:=⟨.n o,h⟩
theorem nC (l:List (Ob ev)):∀c∈vals l,c.holds ev:=λc hc=>by
 obtain⟨o,_,rfl⟩:=List.mem_map.1 hc;exact o.2
abbrev oU (ag:Bool)(sz:Nat)(es:List Tree)(h:gP ag sz es)(hn:es≠ []):Ob ev:=⟨.u ag sz es,h,hn⟩
abbrev oW (ag:Bool)(sz:Nat)(fs:List Tree)(h:gP ag sz fs):Ob ev:=⟨.w ag sz fs fs.length ((flat fs).map .t),rfl,rfl,h⟩
abbrev oA (a:Nat)(h:a<=70368744177664):Ob ev:=⟨.l a fE,h⟩
abbrev oZ:Ob ev:=⟨.z,trivial⟩
abbrev oQ (l:List Tree):Ob ev:=⟨.pp (((flat l).map TV.t).length=((flat l).map TV.t).length),rfl⟩
abbrev oP {p:Prop}(h:p):Ob ev:=⟨.pp p,h⟩
abbrev oO {x:Option TV}{v:TV}(h:x=some v):Ob ev:=⟨.po x v,h⟩
abbrev oK {x y:List TV}(h:x=y):Ob ev:=⟨.pc x y,h⟩
abbrev oM {x:Option (List (TV×TV×Nat)×Nat)}{y:List (TV×TV×Nat)}{c:Nat}(h:x=some (y,c)):Ob ev:=⟨.pm x y c,h⟩
abbrev oX (ag:Bool)(sz:Nat)(fs:List Tree)(len:Nat)(hl:len=fs.length)(h:gP ag sz fs):Ob ev:=⟨.w ag sz fs len ((flat fs).map .t),rfl,hl,h⟩
abbrev oH {l:List Tree}{i:Nat}{x:Tree}(h:l[i]?=some x):Ob ev:=⟨.l (i+1) l.length,(List.getElem?_eq_some_iff.1 h).1⟩
abbrev Yc (a b:Nat)(h:a+b<9223372036854775808):Ob ev:=⟨.v (.t (.int .i64 (IntKind.i64.wrap ((a:Int)+(b:Int))))) (.t (.int .i64 ((a+b:Nat):Int))),by
 show TV.t _=TV.t _;rw[wrap64 (by omega) (by omega)];rfl⟩
abbrev oR (a b:Nat)(h:a<=b):Ob ev:=⟨.l a b,h⟩
theorem Ay {sz:Nat}{es:List Tree}{i j m:Nat}{e:Tree}(hu:∀e∈es,e.cells.length=sz)(he:es[i]?=some e)(hj:j+m<=sz):i*sz+j+m<=((flat es).map TV.t).length:=by
 have hi:i<es.length:=(List.getElem?_eq_some_iff.1 he).1;rw[List.length_map,iK hu];have:(i+1) *sz<=es.length*sz:=Nat.mul_le_mul_right _ hi;rw[Nat.succ_mul] at this;omega
abbrev oS (n:Nat)(h:1<=n)(h2:n<9223372036854775807):Ob ev:=⟨.v (.t (.int .i64 (IntKind.i64.wrap ((n:Int) - 1)))) (.t (.int .i64 ((n - 1:Nat):Int))),by
 show TV.t _=TV.t _;rw[wrap64 (by omega) (by omega),show((n - 1:Nat):Int)=(n:Int) - 1 by omega]⟩
abbrev oG (k:IntKind)(a b:Int):Ob ev:=⟨.v (.t (.int k (if b>a then b else a))) (.t (.int k (max a b))),by
 show TV.t _=TV.t _;rw[show(if b>a then b else a)=max a b from by rw[Int.max_def];split<;>split<;>omega]⟩
abbrev oI (n:Nat)(h:n<9223372036854775807):Ob ev:=⟨.v (.t (.int .i64 (IntKind.i64.wrap ((n:Int)+1)))) (.t (.int .i64 ((n+1:Nat):Int))),by
 show TV.t _=TV.t _;rw[wrap64 (by omega) (by omega)];rfl⟩
end obs
def Mx (S:List Nm)(slots:List TV):List Nat->Option (List (Nat×TV))
 | []=>some []
 | i::r=>match slots[i]?,Mx S slots r with
  |some v,some l=>(match v.rn (Ia S) with
   |some v=>some ((i,v)::l)
   |none=>none)
  |_,_=>none
def My (S:List Nm)(H:Heap):List Nm->M Heap
 | []=>cu []
 |k::r=>match H.get k,Ia S k with
  |some o,some k'=>bg (rnO (Ia S) o) λo=>bg (My S H r) λh=>cu ((k',o)::h)
  |_,_=>gL
def CL (n:Nat)(S ks:List Nm)(live:List Nat)(T:Nat)(s:St):M St:=
 match Nat.beq s.slots.length n&&S.all Nm.eR&&decide S.Nodup&&S.all (λk=>(s.H.get k).isSome)&&Nat.ble S.length T,Mx S s.slots live with
 |true,some sp=>bg (My S s.H ks) λH=>cu ⟨dU n sp,H,T⟩
 |_,_=>gL
section norm
variable {ev:aX}{C:cE}
theorem IU {S:List Nm}{slots:List TV}:∀{live:List Nat} {sp:List (Nat×TV)},Mx S slots live=some sp->∀i,look sp i=.any\/∃v,slots[i]?=some v/\v.rn (Ia S)=some (look sp i)
 | [],sp,h,i=>by cases h;exact .inl rfl
 | j ::r,sp,h,i=>by
   simp only[Mx] at h
   split at h
   · rename_i v l h1 h2
     split at h
     · rename_i v' h3
       cases h
       rw[nu]
       by_cases e:i=j
       · subst e;rw[if_pos rfl];exact .inr ⟨v,h1,h3⟩
       · rw[if_neg e];exact IU h2 i
     · cases h
   · cases h
theorem IV {S:List Nm}{H:Heap}:∀{ks:List Nm},MP ev (My S H ks) λH'=>B8 (Ia S) H H'
 | []=>MP.ret trivial
 | k ::r=>by
   simp only[My]
   split
   · rename_i o k' h1 h2
     exact MP.bind KT λo' ho=>MP.bind (IV (ks:=r)) λh hh=>MP.ret ⟨⟨k,o,h1,h2,.inl ho⟩,hh⟩
   · exact MP.no
theorem Mz {σ:Nm->Option Nm}:∀{xs ys:List TV},xs.length=ys.length->(∀(i:Nat) (y:TV),ys[i]?=some y->y=TV.any\/∃x:TV,xs[i]?=some x/\x.rn σ=some y)->NS σ xs ys
 | [],[],_,_=>trivial
 | x ::xs,y::ys,hl,h=>by
   refine⟨?_,Mz (by simpa using hl) λi y hy=> ?_⟩
   · rcases h 0 y rfl with e|⟨x',e1,e2⟩
     · exact .inl e
     · cases e1;exact .inr e2
   · rcases h (i+1) y (by simpa using hy) with e|⟨x',e1,e2⟩
     · exact .inl e
     · exact .inr ⟨x',by simpa using e1,e2⟩
 | [],_::_,hl,_=>by simp at hl
 |_::_,[],hl,_=>by simp at hl
theorem uS {n:Nat}{S ks:List Nm}{live:List Nat}{T:Nat}{s:St}:MP ev (CL n S ks live T s) λs2=>Re C s s2:=by
 unfold CL;split
 ·rename_i sp hb hs;refine MP.bind IV λH' h1=>MP.ret ?_
  simp only[Bool.and_eq_true] at hb;obtain⟨⟨⟨⟨b1,b2⟩,b3⟩,b4⟩,b5⟩:=hb;have hn:=Nat.eq_of_beq_eq_true b1;obtain⟨slots,H,t⟩:=s;refine Re.mk S (Mz (by rw[fI];exact hn) λi y hy=> ?_) h1 (of_decide_eq_true b3) b2 (λk hk=>List.all_eq_true.1 b4 k hk) (Nat.le_of_ble_eq_true b5);have hi:i<n:=by have:=(List.getElem?_eq_some_iff.1 hy).1;simpa [fI] using this
  rw[mJ hi] at hy;cases hy;exact IU hs i
 ·exact MP.no
end norm
section rules
variable {ev:aX}{C:cE}{f:FuncId}{R:Type}
theorem AX.frames {c:Code}{st:St}{Q:R->aJ->St->Prop}(h:∃r,KE C (Q r) [.c c] .normal st):AX C c st Q:=h.imp λ_ h=>AW.mono h λ_ _ h=>h
def Zw (H:Heap)(v:TV):M (TV×List Nm):=match F9 v with
 |true=>bg (N8 H gl v) λp=>cu (.t p.1,p.2)
 |false=>cu (match pq H gl v with
  |some (x,ks)=>(.t x,ks)
  |none=>(v,[]))
theorem V5 {H:Heap}{v:TV}:MP ev (Zw H v) λp=>(∃x ks,pq H gl v=some (x,ks)/\p=(.t x,ks))\/(pq H gl v=none/\p=(v,[])):=by
 unfold Zw;split
 ·exact MP.bind (Gb H gl v) λp hp=>MP.ret (.inl ⟨p.1,p.2,hp,rfl⟩)
 ·refine MP.ret ?_;cases h:pq H gl v with
  |none=>exact .inr ⟨rfl,rfl⟩
  |some q=>exact .inl ⟨q.1,q.2,rfl,rfl⟩
def Bn (C:cE)(fn:Func)(n:Nat)(st:St):M bz:=
 match jb C st fn.results.toList with
 |none=>gL
 |some vs=>bg (Zw st.H (tJ vs)) λp=>match nh (st.H.dH (cH st.H p.2)) 0 n with
  |none=>gL
  |some os=>bg (Gg os) λl=>bg (uP (st.H.dH (cH st.H p.2)) eE [] (p.1.names++l)) λR=>nA ((ke (st.H.dH (cH st.H p.2)) R).map λh=>.ret p.1 os h)
theorem Ez {fn:Func}{n:Nat}{st:St}:MP ev (Bn C fn n st) λr=>finish C fn n st=some r:=by
 unfold Bn;split
 ·exact MP.no
 ·rename_i vs hv;refine MP.bind V5 λp hp=> ?_
  split
  ·exact MP.no
  ·rename_i os ho;refine MP.bind CB λl hl=>MP.bind (rS _ _ _) λR hR=>(MP.Ms (cj.opt _)).mono λr hr=> ?_
   have h1:=hR.1;rw[← hl] at h1;unfold finish;rcases hp with ⟨x,ks,h2,rfl⟩|⟨h2,rfl⟩
   ·simp only at ho h1 hr;simp only[hv,h2,ho,h1];exact hr
   ·simp only at ho h1 hr;simp only[hv,h2,ho,h1];exact hr
def Oh (C:cE)(fn:Func)(m:Nat)(p:List Fr×aJ×St):M bz:=match p with
 |([],.normal,s)=>Bn C fn m s
 |([],.ret,s)=>Bn C fn m s
 |([],.panic v,s)=>(match v.names.any Nm.eR with
  |false=>cu (.panic v (qA s.H 0 m))
  |true=>gL)
 |_=>gL
theorem V6 {fn:Func}{m:Nat}{p:List Fr×aJ×St}:MP ev (Oh C fn m p) λr=>KE C (wh C fn m r) p.1 p.2.1 p.2.2:=by
 unfold Oh;split
 ·exact Ez.mono λr h=>.inl h
 ·exact Ez.mono λr h=>.inl h
 ·split
  ·rename_i hv;exact MP.ret ⟨hv,rfl⟩
  ·exact MP.no
 ·exact MP.no
theorem abT (hm:C.P.prog.follows .mixedOrders=true)(az:aF C ev){fn:Func}{once:List Nat}{m n:Nat}{r:bz}{K:List Fr}{e:aJ}{s:St}(obs:List (Ob ev))(h:bg (goK C f once 100000 n K e s) (Oh C fn m) (vals obs)=some (r,[],vals obs)):KE C (wh C fn m r) K e s:=
 MP.bind (qf hm az n K e s) (λp hp=>V6.mono λr hr=>hp _ hr) _ _ _ _ h (nC obs)
def CM (n:Nat)(S ks:List Nm)(live:List Nat)(T:Nat)(p:List Fr×aJ×St):M St:=match p with
 |([],.normal,s)=>CL n S ks live T s
 |_=>gL
theorem Oi {n T:Nat}{S ks:List Nm}{live:List Nat}{p:List Fr×aJ×St}:MP ev (CM n S ks live T p) λs2=>KE C (λe s=>e=.normal/\Re C s s2) p.1 p.2.1 p.2.2:=by
 unfold CM;split
 ·exact uS.mono λs2 h=>⟨rfl,h⟩
 ·exact MP.no
theorem RQ (hm:C.P.prog.follows .mixedOrders=true)(az:aF C ev){once:List Nat}{n k T:Nat}{S ks:List Nm}{live:List Nat}{s2:St}{K:List Fr}{e:aJ}{s:St}(obs:List (Ob ev))(h:bg (goK C f once 100000 n K e s) (CM k S ks live T) (vals obs)=some (s2,[],vals obs)):
 KE C (λe s=>e=.normal/\Re C s s2) K e s:=
 MP.bind (qf hm az n K e s) (λp hp=>Oi.mono λr hr=>hp _ hr) _ _ _ _ h (nC obs)
def Az (p:Code->Bool):Code->List Fr->Option (Code×List Fr)
 |.seq a b,K=>(Az p a (.c b::K)).or (Az p b K)
 |.cond _ a b,K=>(Az p a K).or (Az p b K)
 |.block id c,K=>Az p c (.b id::K)
 |.loop c,K=>match p (.loop c) with
  |true=>some (c,K)
  |false=>Az p c []
 |x,K=>match p x with
  |true=>some (x,K)
  |false=>none
def V7 (r:Nat):Code->Bool
 |.loop c=>match uR c with
  |some i=>Nat.beq i r
  |none=>false
 |_=>false
def abU (r:Nat):Code->Bool
 |.region id _ _=>Nat.beq id r
 |_=>false
def mN (B:Code)(r:Nat):Code×List Fr:=(Az (V7 r) B []).getD (.skip,[])
def abV (B:Code)(r:Nat):Code×List Fr:=(Az (abU r) B []).getD (.skip,[])
def MA (n:Nat)(S ks:List Nm)(live:List Nat)(T:Nat)(p:List Fr×aJ×St):M ((Code×List Fr)×St):=match p with
 |(.c (.loop b)::K,.normal,s)=>bg (CL n S ks live T s) λs=>cu ((b,K),s)
 |_=>gL
theorem RR {n T:Nat}{S ks:List Nm}{live:List Nat}{p:List Fr×aJ×St}:MP ev (MA n S ks live T p) λq=>∃s,p=(.c (.loop q.1.1)::q.1.2,.normal,s)/\Re C s q.2:=by
 unfold MA;split
 ·exact MP.bind uS λs2 h=>MP.ret ⟨_,rfl,h⟩
 ·exact MP.no
theorem abW (hm:C.P.prog.follows .mixedOrders=true)(az:aF C ev){α:Type}(st:α->St)(ok:α->Prop)(μ:α->Nat)(x0:α){once:List Nat}{n k T:Nat}{S ks:List Nm}{live:List Nat}{K:List Fr}{e:aJ}{s:St}{Q:R->aJ->St->Prop}(L:Code×List Fr)(obs:List (Ob ev))
 (h:bg (goK C f once 100000 n K e s) (MA k S ks live T) (vals obs)=some ((L,st x0),[],vals obs))(h0:ok x0)
 (hs:∀x,ok x->∃o,KE C (uO C st (λy=>ok y/\μ y<μ x) (λr=>KE C (Q r) L.2) o) [.c L.1] .normal (st x)):∃r,KE C (Q r) K e s:=by
 have key:∃p:List Fr×aJ×St,(∀Q,KE C Q p.1 p.2.1 p.2.2->KE C Q K e s)/\∃s,p=(.c (.loop L.1)::L.2,.normal,s)/\Re C s (st x0):=
  MP.bind (qf hm az n K e s) (λp hp=>RR.mono λq hq=>show ∃p:List Fr×aJ×St,(∀Q,KE C Q p.1 p.2.1 p.2.2->KE C Q K e s)/\∃s,p=(.c (.loop q.1.1)::q.1.2,.normal,s)/\Re C s q.2 from⟨p,hp,hq⟩) _ _ _ _ h (nC obs)
 obtain⟨p,hp,s',rfl,Ib⟩:=key
 obtain⟨r,hr⟩:=AX.loop (C:=C) (Q:=λr=>KE C (Q r) L.2) st ok μ x0 Ib h0 λx hx=>AX.frames (hs x hx)
 exact⟨r,hp _ hr⟩
abbrev GoR:=Option ((List Fr×aJ×St)×List Cl×List Cl)
def exOf (r:GoR):aJ:=match r with
 |some ((_,e,_),_,_)=>e
 |none=>.normal
def stOf (r:GoR):St:=match r with
 |some ((_,_,s),_,_)=>s
 |none=>⟨[],[],0⟩
def IW (r:GoR):Option (List Cl×List Cl):=match r with
 |some (([],.exit _,_),c,e)=>some (c,e)
 |some (([],.ret,_),c,e)=>some (c,e)
 |some (([],.panic _,_),c,e)=>some (c,e)
 |_=>none
theorem abX (hm:C.P.prog.follows .mixedOrders=true)(az:aF C ev){α:Type}{st:α->St}{P:α->Prop}{Q:R->aJ->St->Prop}{once:List Nat}{n:Nat}{K:List Fr}{e:aJ}{s:St}(obs:List (Ob ev))(h:IW (goK C f once 100000 n K e s (vals obs))=some ([],vals obs))
 (k:∃r,Q r (exOf (goK C f once 100000 n K e s (vals obs))) (stOf (goK C f once 100000 n K e s (vals obs)))):∃o,KE C (uO C st P Q o) K e s:=by
 have hv:=nC obs
 obtain⟨r,hr⟩:=k
 refine⟨.inr r, ?_⟩
 cases hg:goK C f once 100000 n K e s (vals obs) with
 |none=>rw[hg] at h;cases h
 | some q=>
  obtain⟨⟨K',e',s'⟩,c,em⟩:=q
  rw[hg] at h hr
  cases K' with
  |cons=>cases h
  |nil=>
   cases e' with
   |normal=>cases h
   |exit i=>cases h;exact qf hm az _ _ _ _ _ _ _ _ hg hv _ hr
   |ret=>cases h;exact qf hm az _ _ _ _ _ _ _ _ hg hv _ hr
   |panic v=>cases h;exact qf hm az _ _ _ _ _ _ _ _ hg hv _ hr
def atO (n:Nat)(S ks:List Nm)(live:List Nat)(T:Nat)(p:List Fr×aJ×St):M ((Code×List Fr)×St):=match p with
 |(.c x::K,.normal,s)=>bg (CL n S ks live T s) λs=>cu ((x,K),s)
 |_=>gL
theorem Zx {n T:Nat}{S ks:List Nm}{live:List Nat}{p:List Fr×aJ×St}:MP ev (atO n S ks live T p) λq=>∃s,p=(.c q.1.1::q.1.2,.normal,s)/\Re C s q.2:=by
 unfold atO;split
 ·exact MP.bind uS λs2 h=>MP.ret ⟨_,rfl,h⟩
 ·exact MP.no
theorem Pu (hm:C.P.prog.follows .mixedOrders=true)(az:aF C ev)(B:Code)(stop:Nat){once:List Nat}{n k T:Nat}{S ks:List Nm}{live:List Nat}{K:List Fr}{e:aJ}{s:St}{Q:R->aJ->St->Prop}{x:Code}{K':List Fr}(hL:abV B stop=(x,K'))(s2:St)(obs:List (Ob ev))
 (h:bg (goK C f once stop n K e s) (atO k S ks live T) (vals obs)=some ((abV B stop,s2),[],vals obs))(k:AX C x s2 λr=>KE C (Q r) K'):∃r,KE C (Q r) K e s:=by
 rw[hL] at h
 have key:∃p:List Fr×aJ×St,(∀Q,KE C Q p.1 p.2.1 p.2.2->KE C Q K e s)/\∃s,p=(.c x::K',.normal,s)/\Re C s s2:=
  MP.bind (qf hm az n K e s) (λp hp=>Zx.mono λq hq=>show ∃p:List Fr×aJ×St,(∀Q,KE C Q p.1 p.2.1 p.2.2->KE C Q K e s)/\∃s,p=(.c q.1.1::q.1.2,.normal,s)/\Re C s q.2 from⟨p,hp,hq⟩) _ _ _ _ h (nC obs)
 obtain⟨p,hp,s',rfl,Ib⟩:=key
 obtain⟨r,hr⟩:=k
 exact⟨r,hp _ (AW.re Ib hr)⟩
def V8 (n:Nat)(S ks:List Nm)(live:List Nat)(T:Nat)(p:List Fr×aJ×St):M (aJ×St):=match p with
 |([],.normal,s)=>bg (CL n S ks live T s) λs=>cu (.normal,s)
 |([],.ret,s)=>bg (CL n S ks live T s) λs=>cu (.ret,s)
 |_=>gL
theorem V9 {n T:Nat}{S ks:List Nm}{live:List Nat}{p:List Fr×aJ×St}:MP ev (V8 n S ks live T p) λq=>(q.1=.normal\/q.1=.ret)/\∃s,p=([],q.1,s)/\Re C s q.2:=by
 unfold V8;split
 ·exact MP.bind uS λs2 h=>MP.ret ⟨.inl rfl,_,rfl,h⟩
 ·exact MP.bind uS λs2 h=>MP.ret ⟨.inr rfl,_,rfl,h⟩
 ·exact MP.no
def JR (C:cE)(Q:aJ->St->Prop):aJ->St->Prop:=λe s=>Q e s\/((e=.normal\/e=.ret\/∃i,e=.exit i)/\∃s2,Re C s s2/\Q e s2)
theorem MB {Q:aJ->St->Prop}{G0:Gh}{w0 w':World}{a a':Act}{ex:Exit}(h0:∀p,¬G0.dom (.loc p)):(∃e st',JR C Q e st'/\Good C G0 w0 a e st' ex a' w')->∃e st',Q e st'/\Good C G0 w0 a e st' ex a' w':=by
 rintro ⟨e,st',hq,hg⟩;rcases hq with hq|⟨he,s2,Ib,hq⟩
 ·exact⟨e,st',hq,hg⟩
 ·rcases he with rfl|rfl|⟨i,rfl⟩
  ·obtain⟨G1,hs1,hd,e1,iz⟩:=hg;obtain⟨G2,wY,nr⟩:=Ib G0 w0 G1 w' a' h0 hs1 iz;exact⟨.normal,s2,hq,G2,wY,hd,e1,nr⟩
  ·obtain⟨G1,hs1,hd,e1,iz⟩:=hg;obtain⟨G2,wY,nr⟩:=Ib G0 w0 G1 w' a' h0 hs1 iz;exact⟨.ret,s2,hq,G2,wY,hd,e1,nr⟩
  ·obtain⟨G1,hs1,hd,e1,iz⟩:=hg;obtain⟨G2,wY,nr⟩:=Ib G0 w0 G1 w' a' h0 hs1 iz;exact⟨.exit i,s2,hq,G2,wY,hd,e1,nr⟩
theorem AW.nW {c:Code}{st:St}{Q:aJ->St->Prop}(h:AW C c st (JR C Q)):AW C c st Q:=λG0 w0 G w a h0 hs hst=>wp_mono (h G0 w0 G w a h0 hs hst) λex a' w' hp=>MB h0 hp
theorem IQ.nW {b:Code}{n:Nat}{st:St}{Q:aJ->St->Prop}(h:IQ C b n st (JR C Q)):IQ C b n st Q:=λG0 w0 G w a a1 h0 hs hd hst=>uQ (λ_ _ _ hp=>MB h0 hp) n (h G0 w0 G w a a1 h0 hs hd hst)
theorem KE.yF {Q:aJ->St->Prop}:∀{K:List Fr} {e:aJ} {s:St},KE C (JR C Q) K e s->JR C (KE C Q K) e s
 | [],_,_,h=>h
 |.c x::K,.normal,s,h=>.inl (AW.nW (AW.mono h λ_ _ h=>KE.yF h))
 |.c _::K,.exit i,s,h=>KE.yF (K:=K) h
 |.c _::K,.ret,s,h=>KE.yF (K:=K) h
 |.c _::K,.panic v,s,h=>KE.yF (K:=K) h
 | .b id::K,.exit i,s,h=>by
   by_cases e:i=id
   · have h:KE C (JR C Q) K .normal s:=by
       have h:(if i=id then KE C (JR C Q) K .normal s else KE C (JR C Q) K (.exit i) s):=h
       rwa [if_pos e] at h
     rcases KE.yF h with h|⟨_,s2,Ib,h⟩
     · exact .inl (show(if i=id then KE C Q K .normal s else KE C Q K (.exit i) s) by rwa [if_pos e])
     · exact .inr ⟨.inr (.inr ⟨i,rfl⟩),s2,Ib,show(if i=id then KE C Q K .normal s2 else KE C Q K (.exit i) s2) by rwa [if_pos e]⟩
   · have h:KE C (JR C Q) K (.exit i) s:=by
       have h:(if i=id then KE C (JR C Q) K .normal s else KE C (JR C Q) K (.exit i) s):=h
       rwa [if_neg e] at h
     rcases KE.yF h with h|⟨_,s2,Ib,h⟩
     · exact .inl (show(if i=id then KE C Q K .normal s else KE C Q K (.exit i) s) by rwa [if_neg e])
     · exact .inr ⟨.inr (.inr ⟨i,rfl⟩),s2,Ib,show(if i=id then KE C Q K .normal s2 else KE C Q K (.exit i) s2) by rwa [if_neg e]⟩
 |.b _::K,.normal,s,h=>KE.yF (K:=K) h
 |.b _::K,.ret,s,h=>KE.yF (K:=K) h
 |.b _::K,.panic v,s,h=>KE.yF (K:=K) h
 |.x _ _::K,.normal,s,h=>.inl (IQ.nW (IQ.mono h λ_ _ h=>KE.yF (K:=K) h))
 |.x _ _::K,.exit i,s,h=>KE.yF (K:=K) h
 |.x _ _::K,.ret,s,h=>KE.yF (K:=K) h
 |.x _ _::K,.panic v,s,h=>KE.yF (K:=K) h
def yG:List Fr->aJ->Bool
 | [],_=>false
 |.c _::_,.normal=>true
 |.c _::K,e=>yG K e
 |.b id::K,.exit i=>if i=id then yG K .normal else yG K (.exit i)
 |.b _::K,e=>yG K e
 |.x _ _::_,.normal=>false
 |.x _ _::K,e=>yG K e
theorem KE.nW {Q:aJ->St->Prop}:∀{K:List Fr} {e:aJ} {s:St},yG K e=true->KE C (JR C Q) K e s->KE C Q K e s
 | [],_,_,hd,_=>by cases hd
 |.c x::K,.normal,s,_,h=>AW.nW (AW.mono h λ_ _ h=>KE.yF h)
 |.c _::K,.exit i,s,hd,h=>KE.nW (K:=K) hd h
 |.c _::K,.ret,s,hd,h=>KE.nW (K:=K) hd h
 |.c _::K,.panic v,s,hd,h=>KE.nW (K:=K) hd h
 |.b id::K,.exit i,s,hd,h=>by
  have h:(if i=id then KE C (JR C Q) K .normal s else KE C (JR C Q) K (.exit i) s):=h
  have hd:(if i=id then yG K .normal else yG K (.exit i))=true:=hd
  show(if i=id then KE C Q K .normal s else KE C Q K (.exit i) s)
  by_cases e:i=id
  · rw[if_pos e] at h hd ⊢;exact KE.nW hd h
  · rw[if_neg e] at h hd ⊢;exact KE.nW hd h
 |.b _::K,.normal,s,hd,h=>KE.nW (K:=K) hd h
 |.b _::K,.ret,s,hd,h=>KE.nW (K:=K) hd h
 |.b _::K,.panic v,s,hd,h=>KE.nW (K:=K) hd h
 |.x _ _::_,.normal,_,hd,_=>by cases hd
 |.x _ _::K,.exit i,s,hd,h=>KE.nW (K:=K) hd h
 |.x _ _::K,.ret,s,hd,h=>KE.nW (K:=K) hd h
 |.x _ _::K,.panic v,s,hd,h=>KE.nW (K:=K) hd h
theorem Zy (hm:C.P.prog.follows .mixedOrders=true)(az:aF C ev){once:List Nat}{n k T:Nat}{S ks:List Nm}{live:List Nat}{K:List Fr}{e:aJ}{s:St}{Q:R->aJ->St->Prop}(e2:aJ)(s2:St)(obs:List (Ob ev))(hd:yG K e=true)
 (h:bg (goK C f once 100000 n K e s) (V8 k S ks live T) (vals obs)=some ((e2,s2),[],vals obs))(k:∃r,Q r e2 s2):∃r,KE C (Q r) K e s:=by
 have key:∀Q,Q e2 s2->KE C (JR C Q) K e s:=
  MP.bind (qf hm az n K e s) (λp hp=>V9.mono λq hq=>show ∀Q:aJ->St->Prop,Q q.1 q.2->KE C (JR C Q) K e s fromλQ hk=>hp _ (by
   obtain⟨he,s',e1,Ib⟩:=hq;rw[e1];exact .inr ⟨he.elim .inl λh=>.inr (.inl h),q.2,Ib,hk⟩)) _ _ _ _ h (nC obs)
 exact k.imp λr hr=>KE.nW hd (key _ hr)
theorem br (b:Bool):b=true\/b=false:=by cases b<;>simp
theorem kF (hm:C.P.prog.follows .mixedOrders=true)(az:aF C ev){fn:Func}{m:Nat}{r:bz}{K:List Fr}{e:aJ}{s:St}(obs:List (Ob ev))(h:bg (goK C 0 [] 100000 3000 K e s) (Oh C fn m) (vals obs)=some (r,[],vals obs)):KE C (wh C fn m r) K e s:=abT hm az obs h
theorem kO (hm:C.P.prog.follows .mixedOrders=true)(az:aF C ev){α:Type}{st:α->St}{P:α->Prop}{Q:R->aJ->St->Prop}{K:List Fr}{e:aJ}{s:St}(obs:List (Ob ev))(h:IW (goK C 0 [] 100000 3000 K e s (vals obs))=some ([],vals obs))
 (k:∃r,Q r (exOf (goK C 0 [] 100000 3000 K e s (vals obs))) (stOf (goK C 0 [] 100000 3000 K e s (vals obs)))):∃o,KE C (uO C st P Q o) K e s:=abX hm az obs h k
theorem elt (l:List Tree)(i:Nat)(h:i<l.length):∃e,l[i]?=some e:=⟨_,List.getElem?_eq_getElem h⟩
end rules
attribute [irreducible] goK KE stOf exOf
end Go.Abs
noncomputable section
namespace Go.Abs
open Go
def KM (K:Tree->Prop)(es:List (TV×TV×Nat)):Prop:=∀e∈es,∃(x:Tree) (n:Int) (b:Nat),K x/\e=(.t x,.t (.int .i64 n),b)
theorem KM.nil {K:Tree->Prop}:KM K []:=λ_ h=>by cases h
structure KEq (P:iP)(kt:TypeId)(d:TypeDesc)(K:Tree->Prop):Prop where
 same:∀x,K x->DY P kt d (.t x) (.t x)=some true/\∃u,j5 (.t x)=some u/\Instr.sameBits 10000 u u=true
 other:∀x y,K x->K y->x≠y->DY P kt d (.t x) (.t y)=some false
 ok:∀x b,K x->uk P b kt (.t x)=true
open Classical in
def rT:List (TV×TV×Nat)->Tree->Nat->Option (Nat×TV×Nat)
 | [],_,_=>none
 |(k,v,b)::r,x,i=>if k=.t x then some (i,v,b) else rT r x (i+1)
theorem Gl {P:iP}{kt:TypeId}{d:TypeDesc}{K:Tree->Prop}(h:KEq P kt d K){x:Tree}(hx:K x):∀{es:List (TV×TV×Nat)},KM K es->∀i,l7 P kt d (.t x) es i=some (rT es x i)
 | [],_,i=>rfl
 | e ::es,hs,i=>by
   obtain⟨y,n,b,hy,rfl⟩:=hs e List.mem_cons_self
   unfold l7 rT
   by_cases hxy:x=y
   · subst hxy
     obtain⟨h1,u,h2,h3⟩:=h.same x hx
     simp only[h1,h2,h3,if_true]
   · rw[h.other x y hx hy hxy]
     have:¬(TV.t y=TV.t x):=λe=>hxy (TV.t.inj e).symm
     rw[if_neg this]
     exact Gl h hx (λe he=>hs e (List.mem_cons_of_mem _ he)) (i+1)
theorem Bo {K:Tree->Prop}{x:Tree}:∀{es:List (TV×TV×Nat)},KM K es->∀i j v b,rT es x i=some (j,v,b)->i<=j/\es[j - i]?=some (.t x,v,b)/\∃n:Int,v=.t (.int .i64 n)
 | [],_,_,_,_,_,h=>by cases h
 | e ::es,hs,i,j,v,b,h=>by
   obtain⟨y,n,b',hy,rfl⟩:=hs e List.mem_cons_self
   unfold rT at h
   split at h
   · rename_i e1
     cases h
     rw[Nat.sub_self]
     exact⟨Nat.le_refl _,by rw[e1];rfl,n,rfl⟩
   · obtain⟨h1,h2,h3⟩:=Bo (λe he=>hs e (List.mem_cons_of_mem _ he)) (i+1) j v b h
     refine⟨by omega, ?_,h3⟩
     rw[show j - i=(j - (i+1))+1 by omega]
     exact h2
def lkM (es:List (TV×TV×Nat))(x:Tree):Int:=match rT es x 0 with
 |some (_,.t (.int _ n),_)=>n
 |_=>0
def U4 (es:List (TV×TV×Nat))(c:Nat)(x:Tree)(n:Int):List (TV×TV×Nat):=match rT es x 0 with
 |some (i,_,b)=>es.set i (.t x,.t (.int .i64 n),b)
 |none=>es++[(.t x,.t (.int .i64 n),c)]
def upC (es:List (TV×TV×Nat))(c:Nat)(x:Tree):Nat:=match rT es x 0 with
 |some _=>c
 |none=>c+1
section
variable {P:iP}{ty kt et:TypeId}{ti tk te:TI}{K:Tree->Prop}{x:Tree}{es:List (TV×TV×Nat)}
theorem RS (ht:P.ty ty=some ti)(hd:ti.desc=.map kt et)(hk:P.ty kt=some tk)(he:P.ty et=some te)(hez:te.zero=some (.t (.int .i64 0)))(hK:KEq P kt tk.desc K)(hS:KM K es)(hx:K x):
 CJ P ty es (.t x) false=some (.t (.int .i64 (lkM es x))):=by
 have h:=Gl hK hx hS 0
 have h2:=Bo hS 0 (x:=x)
 unfold lkM
 cases hf:rT es x 0 with
 |none=>
  rw[hf] at h
  simp only[CJ,bh,ht,hd,hk,he,hK.ok x _ hx,if_true,h,hez,Bool.false_eq_true,if_false]
 |some p=>
  obtain⟨j,v,b⟩:=p
  rw[hf] at h
  obtain⟨_,_,n,rfl⟩:=h2 j v b hf
  simp only[CJ,bh,ht,hd,hk,he,hK.ok x _ hx,if_true,h,hez,Bool.false_eq_true,if_false]
theorem Wa {n:Int}(ht:P.ty ty=some ti)(hd:ti.desc=.map kt et)(hk:P.ty kt=some tk)(hK:KEq P kt tk.desc K)(hS:KM K es)(hx:K x)(c:Nat):
 Oc P ty es c (.t x) (.t (.int .i64 n))=some (U4 es c x n,upC es c x):=by
 have h:=Gl hK hx hS 0
 unfold U4 upC
 cases hf:rT es x 0 with
 |none=>
  rw[hf] at h
  simp only[Oc,bh,ht,hd,hk,hK.ok x _ hx,if_true,h]
 |some p=>
  obtain⟨j,v,b⟩:=p
  rw[hf] at h
  simp only[Oc,bh,ht,hd,hk,hK.ok x _ hx,if_true,h]
end
theorem RT {K:Tree->Prop}{es:List (TV×TV×Nat)}(h:KM K es){x:Tree}(hx:K x)(c:Nat)(n:Int):KM K (U4 es c x n):=by
 unfold U4;split
 ·rename_i i v b hf;intro e he;rcases List.mem_or_eq_of_mem_set he with he|he
  ·exact h e he
  ·exact⟨x,n,b,hx,he⟩
 ·intro e he;rcases List.mem_append.1 he with he|he
  ·exact h e he
  ·simp only[List.mem_singleton] at he;exact⟨x,n,c,hx,he⟩
def KB (es:List (TV×TV×Nat))(c:Nat):Prop:=(es.map (·.2.2)).Nodup/\∀e∈es,e.2.2<c
theorem KB.nil:KB [] 0:=⟨List.nodup_nil,λ_ h=>by cases h⟩
theorem KB.up {K:Tree->Prop}{es:List (TV×TV×Nat)}{c:Nat}(h:KB es c)(hS:KM K es)(x:Tree)(n:Int):KB (U4 es c x n) (upC es c x):=by
 unfold U4 upC;cases hf:rT es x 0 with
 | some p=>
   obtain⟨i,v,b⟩:=p
   obtain⟨_,h2,_⟩:=Bo hS 0 i v b hf
   rw[Nat.sub_zero] at h2
   obtain⟨hi,h3⟩:=List.getElem?_eq_some_iff.1 h2
   have e:(es.set i (.t x,.t (.int .i64 n),b)).map (·.2.2)=es.map (·.2.2):=by
     rw[List.map_set]
     have:(es.map (·.2.2))[i]'(by simpa using hi)=b:=by rw[List.getElem_map,h3]
     conv=>lhs;rw[show((TV.t x,TV.t (.int .i64 n),b):TV×TV×Nat).2.2=(es.map (·.2.2))[i]'(by simpa using hi) from this.symm]
     exact List.set_getElem_self _
   refine⟨by rw[e];exact h.1,λy hy=> ?_⟩
   rcases List.mem_or_eq_of_mem_set hy with hy|hy
   · exact h.2 y hy
   · have:=h.2 _ (List.mem_of_getElem? h2)
     rw[hy];exact this
 | none=>
   refine⟨?_,λy hy=> ?_⟩
   · rw[List.map_append]
     refine List.nodup_append.2 ⟨h.1,by simp,λa ha b hb=> ?_⟩
     simp only[List.map_cons,List.map_nil,List.mem_singleton] at hb
     subst hb
     obtain⟨e,he,rfl⟩:=List.mem_map.1 ha
     have:=h.2 e he
     omega
   · rcases List.mem_append.1 hy with hy|hy
     · have:=h.2 y hy;show _<c+1;omega
     · simp only[List.mem_singleton] at hy;rw[hy];exact Nat.lt_succ_self c
section
variable {P:iP}{ty kt et:TypeId}{ti tk te:TI}{K:Tree->Prop}{x:Tree}{es:List (TV×TV×Nat)}
end
theorem abY {σ:Nm->Option Nm}{K:Tree->Prop}{es:List (TV×TV×Nat)}{c:Nat}(h:KM K es):aO.rn σ (.map es c)=some (.map es c):=by
 have:PF σ es=some es:=by
  induction es with
  |nil=>rfl
  |cons e r ih=>
   obtain⟨x,n,b,_,rfl⟩:=h e List.mem_cons_self
   simp only[PF,TV.rn,ih λe he=>h e (List.mem_cons_of_mem _ he)]
 simp only[aO.rn,this,Option.map_some]
end Go.Abs
end
namespace Go.Abs
open Go
abbrev aM (k n:Int)(s t:List UInt8)(N L:List Tree):Tree:=.agg [.int .u8 k,.int .i64 n,.str s,.str t,.sl N,.sl L]
abbrev rU (k n:Int)(s t:List UInt8)(N L:List Tree):List TV:=[.t (.int .u8 k),.t (.int .i64 n),.t (.str s),.t (.str t),.t (.sl N),.t (.sl L)]
theorem s4 {p:Prop}(h:p:=by first|omega|(simp only[List.length_append,List.length_cons,List.length_nil,List.length_singleton] at*;omega)|(simp;done)|(simp;omega)):p:=h
theorem aQ {p:Prop}(h:p:=by first|assumption|omega|(simp;done)|(simp;omega)):p:=h
theorem pE {l:List Tree}{i:Nat}{x:Tree}(h:l[i]?=some x):x∈l:=List.mem_of_getElem? h
theorem jX (l:List Tree)(i:Nat)(h:i<l.length:=by first|omega|(simp;omega)):∃e,l[i]?=some e:=elt l i h
section
variable {ev:aX}
abbrev oL (t k:Nat)(X:List Tree):Ob ev:=oN (o:=.arr (t,true) k false ((flat X).map .t)) (λ_=>xg)
abbrev oNm (K:Tree->Prop)(es:List (TV×TV×Nat))(c:Nat)(h:KM K es):Ob ev:=oN (o:=.map es c) (λ_=>abY (K:=K) h)
abbrev xP (g:FuncId)(alA:List TV)(x:Tree)(h:ev g alA []=some (.ret (.t x) [] [])):Ob ev:=oC h
end
section
variable {C:cE}{ev:aX}{f:FuncId}{R:Type}
theorem kf {fn:Func}{m:Nat}{r:bz}{K:List Fr}{e:aJ}{s:St}(hm:C.P.prog.follows .mixedOrders=true)(obs:List (Ob ev))(az:aF C ev:=by assumption)(h:bg (goK C 0 [] 100000 3000 K e s) (Oh C fn m) (vals obs)=some (r,[],vals obs):=by kernel_rfl):KE C (wh C fn m r) K e s:=kF hm az obs h
theorem DH {fn:Func}{m:Nat}{r:bz}{K:List Fr}{e:aJ}{s:St}(hm:C.P.prog.follows .mixedOrders=true)(f:FuncId)(once:List Nat)(obs:List (Ob ev))(az:aF C ev:=by assumption)(h:bg (goK C f once 100000 3000 K e s) (Oh C fn m) (vals obs)=some (r,[],vals obs):=by kernel_rfl):KE C (wh C fn m r) K e s:=abT hm az obs h
theorem kx {α:Type}{st:α->St}{P:α->Prop}{Q:R->aJ->St->Prop}{K:List Fr}{e:aJ}{s:St}(hm:C.P.prog.follows .mixedOrders=true)(obs:List (Ob ev))(k:∃r,Q r (exOf (goK C 0 [] 100000 3000 K e s (vals obs))) (stOf (goK C 0 [] 100000 3000 K e s (vals obs))))(az:aF C ev:=by assumption)(h:IW (goK C 0 [] 100000 3000 K e s (vals obs))=some ([],vals obs):=by kernel_rfl):∃o,KE C (uO C st P Q o) K e s:=kO hm az obs h k
theorem kxi {α:Type}{st:α->St}{P:α->Prop}{Q:R->aJ->St->Prop}{K:List Fr}{e:aJ}{s:St}(hm:C.P.prog.follows .mixedOrders=true)(f:FuncId)(once:List Nat)(obs:List (Ob ev))(k:∃r,Q r (exOf (goK C f once 100000 3000 K e s (vals obs))) (stOf (goK C f once 100000 3000 K e s (vals obs))))(az:aF C ev:=by assumption)(h:IW (goK C f once 100000 3000 K e s (vals obs))=some ([],vals obs):=by kernel_rfl):∃o,KE C (uO C st P Q o) K e s:=abX hm az obs h k
theorem kri {s2:St}{K:List Fr}{e:aJ}{s:St}(hm:C.P.prog.follows .mixedOrders=true)(f:FuncId)(once:List Nat)(k T:Nat)(S ks:List Nm)(live:List Nat)(obs:List (Ob ev))(az:aF C ev:=by assumption)(h:bg (goK C f once 100000 3000 K e s) (CM k S ks live T) (vals obs)=some (s2,[],vals obs):=by kernel_rfl):KE C (λe s=>e=.normal/\Re C s s2) K e s:=RQ hm az obs h
theorem kr {s2:St}{K:List Fr}{e:aJ}{s:St}(hm:C.P.prog.follows .mixedOrders=true)(k T:Nat)(S:List Nm)(live:List Nat)(obs:List (Ob ev))(az:aF C ev:=by assumption)(h:bg (goK C 0 [] 100000 3000 K e s) (CM k S S live T) (vals obs)=some (s2,[],vals obs):=by kernel_rfl):KE C (λe s=>e=.normal/\Re C s s2) K e s:=RQ hm az obs h
theorem kl {α:Type}{K:List Fr}{e:aJ}{s:St}{Q:R->aJ->St->Prop}(hm:C.P.prog.follows .mixedOrders=true)(f:FuncId)(once:List Nat)(k T:Nat)(S ks:List Nm)(live:List Nat)(st:α->St)(ok:α->Prop)(μ:α->Nat)(x0:α)(L:Code×List Fr)(obs:List (Ob ev))(h0:ok x0)
 (hs:∀x,ok x->∃o,KE C (uO C st (λy=>ok y/\μ y<μ x) (λr=>KE C (Q r) L.2) o) [.c L.1] .normal (st x))(az:aF C ev:=by assumption)(h:bg (goK C f once 100000 3000 K e s) (MA k S ks live T) (vals obs)=some ((L,st x0),[],vals obs):=by kernel_rfl):∃r,KE C (Q r) K e s:=abW hm az st ok μ x0 L obs h h0 hs
end
end Go.Abs
