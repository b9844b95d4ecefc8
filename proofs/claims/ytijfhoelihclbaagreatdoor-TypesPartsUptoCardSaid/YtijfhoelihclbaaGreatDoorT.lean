/- Whole paths by the kernel: the interpreter asks for what it cannot tell (truths, answers of calls, elements of lists), and what it was told is proved beside. -/
import Derived.Test.YtijfhoelihclbaaGreatDoorS
noncomputable section
namespace Go.Abs
open Go
set_option linter.unusedVariables false
inductive Cl where
 |b (x c:Bool)
 |r (g:FuncId) (alS:List TV) (os:List aQ) (x:bG)
 |e (l:List Tree) (i:Nat) (x:Tree)
 |y (s:List UInt8) (i:Nat) (x:UInt8)
 |v (x y:TV)
 |n (o:aQ)
 |z
 |u (ag:Bool) (sz:Nat) (es:List Tree)
 |w (ag:Bool) (sz:Nat) (fs:List Tree) (len:Nat) (cs:List TV)
 |l (a b:Nat)
 |pp (p:Prop)
 |po (x:Option TV) (v:TV)
 |pc (x y:List TV)
 |pm (x:Option (List (TV×TV×Nat)×Nat)) (y:List (TV×TV×Nat)) (c:Nat)
def Cl.holds (ev:aS):Cl→Prop
 |.b p q=>p=q
 |.r g alS os q=>ev g alS os=some q
 |.e k i q=>k[i]?=some q
 |.y k i q=>k[i]?=some q
 |.v p q=>p=q
 |.n o=>∀σ,o.rn σ=some o
 |.z=>True
 |.u ag sz es=>fA ag sz es∧es≠ []
 |.w ag sz fs len cs=>cs=(flat fs).map TV.t∧len=fs.length∧fA ag sz fs
 |.l p q=>p≤q
 |.pp p=>p
 |.po p q=>p=some q
 |.pc p q=>p=q
 |.pm p q d=>p=some (q,d)
abbrev M (α:Type):=List Cl→Option (α×List Cl×List Cl)
section monad
variable {α β:Type}{ev:aS}
def fP (a:α):M α:=fun cl=>some (a,cl,[])
def mg:M α:=fun _=>none
def rG (x:Option α):M α:=fun cl=>match x with
 |some a=>some (a,cl,[])
 |none=>none
def cB (m:M α)(k:α→M β):M β:=fun cl=>match m cl with
 |some (a,cl1,e1)=>(match k a cl1 with
  |some (b,cl2,e2)=>some (b,cl2,e1++e2)
  |none=>none)
 |none=>none
def SX (x:Bool):M Bool:=fun cl=>match cl with
 |.b _ c::r=>some (c,r,[.b x c])
 |_=>none
def Xf (l:List Tree)(i:Nat):M Tree:=fun cl=>match cl with
 |.e _ _ x::r=>some (x,r,[.e l i x])
 |_=>none
def aaI (s:List UInt8)(i:Nat):M UInt8:=fun cl=>match cl with
 |.y _ _ x::r=>some (x,r,[.y s i x])
 |_=>none
def aaJ (g:FuncId)(alS:List TV)(os:List aQ):M bG:=fun cl=>match cl with
 |.r _ _ _ x::r=>some (x,r,[.r g alS os x])
 |_=>none
def P4 (v:TV):M TV:=fun cl=>match cl with
 |.v _ y::r=>some (y,r,[.v v y])
 |.z::r=>some (v,r,[.z])
 |_=>none
def aaK (ag:Bool)(sz:Nat)(es:List Tree):M Unit:=fun cl=>match cl with
 |.u _ _ _::r=>some ((),r,[.u ag sz es])
 |_=>none
def SY (ag:Bool)(sz:Nat)(len:Nat)(cs:List TV):M (List Tree):=fun cl=>match cl with
 |.w _ _ fs _ _::r=>some (fs,r,[.w ag sz fs len cs])
 |_=>none
def L4 (a b:Nat):M Unit:=fun cl=>match cl with
 |.l _ _::r=>some ((),r,[.l a b])
 |_=>none
def SZ (p:Prop):M Unit:=fun cl=>match cl with
 |.pp _::r=>some ((),r,[.pp p])
 |_=>none
def Xg (x:Option TV):M TV:=fun cl=>match cl with
 |.po _ v::r=>some (v,r,[.po x v])
 |_=>none
def aaL (x:List TV):M (List TV):=fun cl=>match cl with
 |.pc _ y::r=>some (y,r,[.pc x y])
 |_=>none
def aaM (x:Option (List (TV×TV×Nat)×Nat)):M (List (TV×TV×Nat)×Nat):=fun cl=>match cl with
 |.pm _ y c::r=>some ((y,c),r,[.pm x y c])
 |_=>none
def dL (ev:aS)(m:M α)(x:Option α):Prop:=∀cl a Bq em,m cl=some (a,Bq,em)→(∀c∈em,c.holds ev)→x=some a
theorem dL.ret (a:α):dL ev (fP a) (some a):=fun cl b Bq em h _=>by cases h;rfl
theorem dL.no {x:Option α}:dL ev mg x:=fun cl b Bq em h _=>by cases h
theorem dL.opt (x:Option α):dL ev (rG x) x:=fun cl b Bq em h _=>by
 cases x with
 |none=>cases h
 |some a=>cases h;rfl
theorem dL.bind {m:M α}{x:Option α}{k:α→M β}{y:α→Option β}(hm:dL ev m x)(hk:∀a,x=some a→dL ev (k a) (y a)):dL ev (cB m k) (x.bind y):=fun cl b Bq em h he=>by
  unfold cB at h
  split at h
  · rename_i a cl1 e1 h1
    split at h
    · rename_i b' cl2 e2 h2
      cases h
      have hx:=hm _ _ _ _ h1 fun c hc=>he c (List.mem_append_left _ hc)
      rw[hx]
      exact hk a hx _ _ _ _ h2 fun c hc=>he c (List.mem_append_right _ hc)
    · cases h
  · cases h
theorem dL.of_eq {m:M α}{x y:Option α}(h:dL ev m x)(e:x=y):dL ev m y:=e▸h
theorem C8 (x:Bool):dL ev (SX x) (some x):=fun cl a Bq em h he=>by
 unfold SX at h
 split at h
 · cases h;have:=he _ (List.mem_singleton_self _);exact congrArg some this
 · cases h
theorem Jn (l:List Tree)(i:Nat):dL ev (Xf l i) l[i]?:=fun cl a Bq em h he=>by
 unfold Xf at h
 split at h
 · cases h;exact he _ (List.mem_singleton_self _)
 · cases h
theorem S0 (s:List UInt8)(i:Nat):dL ev (aaI s i) s[i]?:=fun cl a Bq em h he=>by
 unfold aaI at h
 split at h
 · cases h;exact he _ (List.mem_singleton_self _)
 · cases h
theorem S1 (g:FuncId)(alS:List TV)(os:List aQ):dL ev (aaJ g alS os) (ev g alS os):=fun cl a Bq em h he=>by
 unfold aaJ at h
 split at h
 · cases h;exact he _ (List.mem_singleton_self _)
 · cases h
theorem yp (v:TV):dL ev (P4 v) (some v):=fun cl a Bq em h he=>by
 unfold P4 at h
 split at h
 · cases h;have:=he _ (List.mem_singleton_self _);exact congrArg some this
 · cases h;rfl
 · cases h
def MP (ev:aS)(m:M α)(P:α→Prop):Prop:=∀cl a Bq em,m cl=some (a,Bq,em)→(∀c∈em,c.holds ev)→P a
theorem MP.ret {a:α}{P:α→Prop}(h:P a):MP ev (fP a) P:=fun cl b Bq em hm _=>by cases hm;exact h
theorem MP.no {P:α→Prop}:MP ev mg P:=fun cl b Bq em h _=>by cases h
theorem MP.Wo {m:M α}{x:Option α}(h:dL ev m x):MP ev m fun a=>x=some a:=h
theorem MP.mono {m:M α}{P Q:α→Prop}(h:MP ev m P)(k:∀a,P a→Q a):MP ev m Q:=fun cl a Bq em hm he=>k a (h cl a Bq em hm he)
theorem MP.bind {m:M α}{P:α→Prop}{k:α→M β}{Q:β→Prop}(hm:MP ev m P)(hk:∀a,P a→MP ev (k a) Q):MP ev (cB m k) Q:=fun cl b Bq em h he=>by
  unfold cB at h
  split at h
  · rename_i a cl1 e1 h1
    split at h
    · rename_i b' cl2 e2 h2
      cases h
      exact hk a (hm _ _ _ _ h1 fun c hc=>he c (List.mem_append_left _ hc)) _ _ _ _ h2 fun c hc=>he c (List.mem_append_right _ hc)
    · cases h
  · cases h
theorem Xh {ag:Bool}{sz:Nat}{es:List Tree}:MP ev (aaK ag sz es) fun _=>fA ag sz es∧es≠ []:=fun cl a Bq em h he=>by
 unfold aaK at h
 split at h
 · cases h;exact he _ (List.mem_singleton_self _)
 · cases h
theorem GQ {ag:Bool}{sz len:Nat}{cs:List TV}:MP ev (SY ag sz len cs) fun fs=>cs=(flat fs).map TV.t∧len=fs.length∧fA ag sz fs:=fun cl a Bq em h he=>by
 unfold SY at h
 split at h
 · cases h;exact he _ (List.mem_singleton_self _)
 · cases h
theorem yq {x y:Nat}:MP ev (L4 x y) fun _=>x≤y:=fun cl a Bq em h he=>by
 unfold L4 at h
 split at h
 · cases h;exact he _ (List.mem_singleton_self _)
 · cases h
theorem GR {p:Prop}:MP ev (SZ p) fun _=>p:=fun cl a Bq em h he=>by
 unfold SZ at h
 split at h
 · cases h;exact he _ (List.mem_singleton_self _)
 · cases h
theorem NH {x:Option TV}:MP ev (Xg x) fun v=>x=some v:=fun cl a Bq em h he=>by
 unfold Xg at h
 split at h
 · cases h;exact he _ (List.mem_singleton_self _)
 · cases h
theorem Xi {x:List TV}:MP ev (aaL x) fun y=>x=y:=fun cl a Bq em h he=>by
 unfold aaL at h
 split at h
 · cases h;exact he _ (List.mem_singleton_self _)
 · cases h
theorem Xj {x:Option (List (TV×TV×Nat)×Nat)}:MP ev (aaM x) fun y=>x=some y:=fun cl a Bq em h he=>by
 unfold aaM at h
 split at h
 · cases h;exact he _ (List.mem_singleton_self _)
 · cases h
end monad
section ops
variable {ev:aS}{C:dh}{f:FuncId}
def BL (ops:Array Oper)(slots:List TV)(o:Oper):M Bool:=
 match o.guard with
 |none=>fP true
 | some (j,want)=>match(ops[j]?).bind (·.dst) with
  |none=>fP false
  |some d=>match slots[d]? with
   |some (.t (.bool b))=>cB (SX b) fun c=>fP (c==want)
   |some (.t (.bN []))=>fP false
   |none=>fP false
   |_=>mg
theorem C9 (ops:Array Oper)(slots:List TV)(o:Oper):dL ev (BL ops slots o) (dF ops slots o):=by
 unfold BL dF
 cases o.guard with
 |none=>exact dL.ret _
 | some p=>
  obtain⟨j,want⟩:=p
  simp only
  cases (ops[j]?).bind (·.dst) with
  |none=>exact dL.ret _
  |some d=>
   simp only
   generalize slots[d]?=z
   split
   · exact dL.bind (x:=some _) (y:=fun c=>some (c==want)) (C8 _) fun c _=>dL.ret _
   · exact dL.ret _
   · exact dL.ret _
   · exact dL.no
mutual
def GS:TV→Bool
 |.ref _ _ _=>true
 |.agg cs=>hasRefs cs
 |.bN cs=>hasRefs cs
 |.iface _ v=>GS v
 |_=>false
def hasRefs:List TV→Bool
 | []=>false
 |v::r=>GS v||hasRefs r
end
def NI (g:TV→M (Tree×List Nm)):List TV→M (List Tree×List Nm)
 | []=>fP ([],[])
 |v::r=>cB (g v) fun p=>cB (NI g r) fun q=>fP (p.1::q.1,p.2++q.2)
def P5 (H:Heap):Nat→TV→M (Tree×List Nm)
 |0,v=>rG (og H 0 v)
 | n+1,v=>match v with
  |.ref k 0 len=>(match H.get k with
   |some (.arr g bR fz cs)=>if 0<bR then cB (SY g.2 bR len cs) fun fs=>fP (.sl fs,[k]) else mg
   |_=>mg)
  |.agg cs=>cB (NI (P5 H n) cs) fun p=>fP (.agg p.1,p.2)
  |.bN cs=>cB (NI (P5 H n) cs) fun p=>fP (.bN p.1,p.2)
  |v=>rG (og H (n+1) v)
theorem GU {g:TV→M (Tree×List Nm)}{g':TV→Option (Tree×List Nm)}(h:∀v,MP ev (g v) fun p=>g' v=some p):∀(l:List TV),MP ev (NI g l) fun p=>w8 g' l=some p
 | []=>MP.ret rfl
 |v::r=>MP.bind (h v) fun p hp=>MP.bind (GU h r) fun q hq=>MP.ret (by simp only[w8,hp,hq])
theorem GV (H:Heap):∀(n:Nat) (v:TV),MP ev (P5 H n v) fun p=>og H n v=some p
  |0,v=>MP.Wo (dL.opt _)
  | n + 1,v=>by
    unfold P5
    split
    · rename_i k len
      split
      · rename_i g bR fz cs hk
        split
        · rename_i hz
          refine MP.bind GQ fun fs hf=>MP.ret ?_
          obtain⟨rfl,rfl,hu⟩:=hf
          obtain⟨g1,g2⟩:=g
          exact Gz hk hu hz rfl
        · exact MP.no
      · exact MP.no
    · rename_i cs
      exact MP.bind (GU (GV H n) cs) fun p hp=>MP.ret (by simp only[og,hp])
    · rename_i cs
      exact MP.bind (GU (GV H n) cs) fun p hp=>MP.ret (by simp only[og,hp])
    · exact MP.Wo (dL.opt _)
def Da (H:Heap):List TV→M (List TV×List Nm)
 | []=>fP ([],[])
 | v::r=>cB (Da H r) fun p=>match GS v with
  |true=>cB (P5 H iO v) fun q=>fP (.t q.1::p.1,q.2++p.2)
  |false=>fP (match og H iO v with
   |some (x,k)=>(.t x::p.1,k++p.2)
   |none=>(v::p.1,p.2))
theorem Db (H:Heap):∀(l:List TV),MP ev (Da H l) fun p=>iV H l=p
  | []=>MP.ret rfl
  | v ::r=>by
    refine MP.bind (Db H r) fun p hp=> ?_
    split
    · refine MP.bind (GV H iO v) fun q hq=>MP.ret ?_
      simp only[iV,hp,hq]
    · refine MP.ret ?_
      simp only[iV,hp]
      cases og H iO v<;>rfl
def Dc (H:Heap)(p:List TV×List Nm):Option (List TV×List aQ):=
 let H1:=H.dJ (cZ H p.2)
 match reach H1 fD [] (TV.jZ p.1) with
 |none=>none
 | some S=>if S.Nodup then(match TV.vR (QO S) p.1,jf H1 S S with
   |some alS,some os=>some (alS,os)
   |_,_=>none) else none
def Fw (ev:aS)(H:Heap)(g:FuncId)(p:List TV×List Nm)(t:Nat):Option vS:=
 let H1:=H.dJ (cZ H p.2)
 match reach H1 fD [] (TV.jZ p.1) with
 |none=>none
 | some S=>
  if S.Nodup then
   match TV.vR (QO S) p.1,jf H1 S S with
   | some alS,some os=>
    match ev g alS os with
    |some (.ret v os' news)=>match v.rn (kX S t),iC S t S os',gJ S t news with
     |some v,some h,some h'=>some (.val v ((cZ H p.2).filter (fun q=> !(S.contains q.1))++h++h'))
     |_,_,_=>none
    |some (.panic v os')=>match v.rn (kX S t),k7 S t S os' with
     |some v,some (h,lost)=>some (.panic v ((cZ H p.2).filter (fun q=> !(S.contains q.1))++h) lost)
     |_,_=>none
    |none=>none
   |_,_=>none
  else none
theorem Xk (H:Heap)(args:List TV)(g:FuncId)(t:Nat):oD ev H g args t=Fw ev H g (iV H args) t:=by
 unfold oD Fw
 generalize iV H args=p
 obtain⟨a,b⟩:=p
 rfl
theorem L5 {H:Heap}{p:List TV×List Nm}{g:FuncId}{t:Nat}{alS:List TV}{os:List aQ}{x:bG}(h:Dc H p=some (alS,os))(he:ev g alS os=some x):Fw ev H g p t=Fw (fun _ _ _=>some x) H g p t:=by
  unfold Dc at h
  unfold Fw
  simp only at h ⊢
  split at h
  · cases h
  · rename_i S hS
    split at h
    · rename_i hn
      rw[if_pos hn,if_pos hn]
      split at h
      · rename_i a b h1 h2
        cases h
        simp only[he]
      · cases h
    · cases h
def S2 (H:Heap)(g:FuncId)(args:List TV)(t:Nat):M vS:=cB (Da H args) fun p=>match Dc H p with
 |none=>mg
 |some (alS,os)=>cB (aaJ g alS os) fun x=>rG (Fw (fun _ _ _=>some x) H g p t)
theorem Jo (H:Heap)(g:FuncId)(args:List TV)(t:Nat):dL ev (S2 H g args t) (oD ev H g args t):=by
  refine MP.bind (Db H args) fun p hp=> ?_
  split
  · exact MP.no
  · rename_i alS os h
    refine MP.bind (MP.Wo (S1 g alS os)) fun x hx=>(MP.Wo (dL.opt _)).mono fun r hr=> ?_
    rw[Xk,hp,L5 h hx]
    exact hr
def Xl:TV→Option Nat
 |.t (.int _ (.ofNat n))=>some n
 |_=>none
theorem NJ {v:TV}{n:Nat}(h:Xl v=some n):fh v=some n:=by
  unfold Xl at h
  split at h
  · cases h
    simp[fh]
  · cases h
def wE (P:kK)(H:Heap)(t:TypeId)(x i:TV):M TV:=
 match bf P t,Xl i with
 | some ti,some n=>(match ti.desc,x with
  |.slice elem,.t (.sl es)=>(match bf P elem with
   |some te=>cB (Xf es n) fun e=>rG (if e.cells.length=te.size then some (.jL e.cells 0) else none)
   |none=>mg)
  |.slice elem,.k5 es=>(match bf P elem with
   |some te=>cB (Xf es n) fun e=>rG (if e.cells.length=te.size then some (.jL e.cells 0) else none)
   |none=>mg)
  |.slice elem,.ref k 0 len=>(match bf P elem,H.get k with
   |some te,some (.arr g bR _ cs)=>if te.size=bR∧0<bR then cB (SY g.2 bR len cs) fun _=>cB (L4 (n+1) len) fun _=>fP (.jY k cs.length (n*bR)) else mg
   |_,_=>mg)
  |_,_=>rG (eN P H t x i))
 |_,_=>rG (eN P H t x i)
theorem Ey (P:kK)(H:Heap)(t:TypeId)(x i:TV):dL ev (wE P H t x i) (eN P H t x i):=by
  unfold wE
  split
  · rename_i ti n ht hn
    have hi:=NJ hn
    split
    · rename_i elem es hd
      split
      · rename_i te hte
        refine dL.of_eq (dL.bind (Jn es n) fun e _=>dL.opt _) ?_
        unfold eN
        rw[ht,hi]
        simp only[hd,hte]
        cases es[n]? <;>rfl
      · exact dL.no
    · rename_i elem es hd
      split
      · rename_i te hte
        refine dL.of_eq (dL.bind (Jn es n) fun e _=>dL.opt _) ?_
        unfold eN
        rw[ht,hi]
        simp only[hd,hte]
        cases es[n]? <;>rfl
      · exact dL.no
    · rename_i elem k len hd
      split
      · rename_i te g bR fz cs hte hk
        split
        · rename_i hc
          obtain⟨hc,hz⟩:=hc
          refine MP.bind GQ fun fs hf=>MP.bind yq fun _ hl=>MP.ret ?_
          obtain⟨rfl,rfl,hu⟩:=hf
          have h2:ow H k 0 fs.length=some (g,bR,fz,(flat fs).map .t):=by
            unfold ow
            simp only[hk]
            rw[if_pos ⟨hz,by rw[Nat.zero_add,hu.length]⟩]
          unfold eN
          rw[ht,hi]
          simp only[hd,hte,h2,hc,Nat.zero_add]
          rw[if_pos ⟨trivial,hl⟩]
        · exact MP.no
      · exact MP.no
    · exact dL.opt _
  · exact dL.opt _
def S3 (P:kK)(H:Heap)(t:TypeId)(a:TV):M TV:=match a with
 |.jY k m o=>(match bf P t,H.get k with
  |some ti,some (.arr _ _ _ cs)=>cB (SZ (cs.length=m)) fun _=>Xg (partT ti.agg ti.size cs o)
  |_,_=>mg)
 |a=>rG (loadT P H t a)
theorem S4 (P:kK)(H:Heap)(t:TypeId)(a:TV):dL ev (S3 P H t a) (loadT P H t a):=by
  unfold S3
  split
  · rename_i k m o
    split
    · rename_i ti g bR fz cs ht hk
      refine MP.bind GR fun _ hm=>NH.mono fun v hv=> ?_
      subst hm
      simp only[loadT,ht,rW,hk,if_true]
      exact hv
    · exact MP.no
  · exact dL.opt _
def L6 (P:kK)(H:Heap)(t:TypeId)(a x:TV):M (List (Nm×aQ)):=match a with
 | .jY k m o=>(match bf P t,H.get k with
  |some ti,some (.arr g bR false cs)=>(match decide (x.cells.length=ti.size)&&x.cells.all TV.leaf with
   |true=>cB (SZ (cs.length=m)) fun _=>cB (L4 (o+ti.size) cs.length) fun _=>cB (aaL (dM cs o x.cells)) fun cs'=>fP [(k,.arr g bR false cs')]
   |false=>mg)
  |_,_=>mg)
 |a=>rG (storeT P H t a x)
theorem P6 (P:kK)(H:Heap)(t:TypeId)(a x:TV):dL ev (L6 P H t a x) (storeT P H t a x):=by
  unfold L6
  split
  · rename_i k m o
    split
    · rename_i ti g bR cs ht hk
      split
      · rename_i hb
        refine MP.bind GR fun _ hm=>MP.bind yq fun _ hl=>MP.bind Xi fun cs' hc=>MP.ret ?_
        subst hm hc
        exact sta ht hk hb hl
      · exact MP.no
    · exact MP.no
  · exact dL.opt _
def GW (H:Heap)(a:TV)(n:Nat):M TV:=match a with
 |.jY k m o=>(match H.get k with
  |some (.arr _ _ _ cs)=>cB (SZ (cs.length=m)) fun _=>fP (.jY k m (o+n))
  |_=>mg)
 |a=>rG (ov H a n)
theorem L8 (H:Heap)(a:TV)(n:Nat):dL ev (GW H a n) (ov H a n):=by
  unfold GW
  split
  · rename_i k m o
    split
    · rename_i g bR fz cs hk
      refine MP.bind GR fun _ hm=>MP.ret ?_
      simp only[ov,hk,if_pos hm]
    · exact MP.no
  · exact dL.opt _
def Dd (P:kK)(H:Heap)(s i:Nat)(a:TV):M TV:=match fN P s i with
 |some off=>GW H a off
 |none=>mg
def Fx (P:kK)(t:TypeId)(es:List (TV×TV×Nat))(k:TV)(ok:Bool):Option TV:=
 match bf P t with
 | some ti=>match ti.desc with
  | .map kt et=>match bf P kt,bf P et with
   | some tk,some te=>
    if s8 P es.isEmpty kt k=true then
     match j5 P kt tk.desc k es 0,te.zero with
     |some (some (_,v,_)),_=>some (if ok then p6 [v,.t (.bool true)] else v)
     |some none,some z=>some (if ok then p6 [z,.t (.bool false)] else z)
     |_,_=>none
    else none
   |_,_=>none
  |_=>none
 |none=>none
theorem aaN {P:kK}{H:Heap}{t:TypeId}{k:TV}{ok:Bool}{m:Nm}{es:List (TV×TV×Nat)}{c:Nat}(hk:H.get m=some (.map es c)):nO P H t (.map m) k ok=Fx P t es k ok:=by
 unfold nO Fx
 simp only[mapOf,hk]
 cases bf P t with
 |none=>rfl
 |some ti=>
  simp only
  cases ti.desc<;>try rfl
  rename_i kt et
  simp only
  cases bf P kt<;>cases bf P et<;>rfl
def S5 (P:kK)(H:Heap)(t:TypeId)(x k:TV)(ok:Bool):M TV:=match x with
 |.map m=>(match H.get m with
  |some (.map es _)=>Xg (Fx P t es k ok)
  |_=>mg)
 |x=>rG (nO P H t x k ok)
theorem S6 (P:kK)(H:Heap)(t:TypeId)(x k:TV)(ok:Bool):dL ev (S5 P H t x k ok) (nO P H t x k ok):=by
  unfold S5
  split
  · split
    · rename_i hk
      refine NH.mono fun v hv=> ?_
      rw[aaN hk];exact hv
    · exact MP.no
  · exact dL.opt _
def P7 (P:kK)(t:TypeId)(es:List (TV×TV×Nat))(c:Nat)(k v:TV):Option (List (TV×TV×Nat)×Nat):=
 match bf P t with
 | some ti=>match ti.desc with
  | .map kt _=>match bf P kt with
   | some tk=>
    if s8 P false kt k=true then
     match j5 P kt tk.desc k es 0 with
     |some (some (i,_,b))=>some (es.set i (k,v,b),c)
     |some none=>some (es++[(k,v,c)],c+1)
     |none=>none
    else none
   |none=>none
  |_=>none
 |none=>none
theorem ad2 {P:kK}{H:Heap}{t:TypeId}{k v:TV}{m:Nm}{es:List (TV×TV×Nat)}{c:Nat}(hk:H.get m=some (.map es c)){p:List (TV×TV×Nat)×Nat}(h:P7 P t es c k v=some p):iR P H t (.map m) k v=some [(m,.map p.1 p.2)]:=by
 unfold P7 at h
 split at h<;>try (cases h;done)
 rename_i ti ht
 split at h<;>try (cases h;done)
 rename_i kt et hd
 split at h<;>try (cases h;done)
 rename_i tk QU
 split at h<;>try (cases h;done)
 rename_i hc
 unfold iR
 simp only[ht,hd,hk,QU,if_pos hc]
 split at h<;>cases h<;>simp_all
section
variable {P:kK}{ty kt et:TypeId}{ti tk te:TI}{s:List UInt8}{es:List (TV×TV×Nat)}
theorem Jp (ht:P.ty ty=some ti)(hd:ti.desc=.map kt et)(hk:P.ty kt=some tk)(hkd:tk.desc=.string)(he:P.ty et=some te)(hez:te.zero=some (.t (.int .i64 0)))(Pk:∀b,s8 P b kt (.t (.str s))=true)(hS:SM es):
  ∃q:Int,Fx P ty es (.t (.str s)) false=some (.t (.int .i64 q)):=by
 obtain⟨r,hr,hv⟩:=C6 (P:=P) (kt:=kt) (s:=s) hS 0
 cases r with
 |none=>exact⟨0,by simp only[Fx,bf,ht,hd,hk,he,Pk,if_true,hkd,hr,hez,Bool.false_eq_true,if_false]⟩
 |some p=>
  obtain⟨j,v,b⟩:=p
  obtain⟨q,rfl⟩:=hv j v b rfl
  exact⟨q,by simp only[Fx,bf,ht,hd,hk,he,Pk,if_true,hkd,hr,hez,Bool.false_eq_true,if_false]⟩
theorem NK {v:Int}(ht:P.ty ty=some ti)(hd:ti.desc=.map kt et)(hk:P.ty kt=some tk)(hkd:tk.desc=.string)(Pk:∀b,s8 P b kt (.t (.str s))=true)(hS:SM es)(c:Nat):
  ∃(es':List (TV×TV×Nat)) (c':Nat),SM es'∧P7 P ty es c (.t (.str s)) (.t (.int .i64 v))=some (es',c'):=by
 obtain⟨r,hr,hv⟩:=C6 (P:=P) (kt:=kt) (s:=s) hS 0
 cases r with
 |none=>exact⟨es++[(.t (.str s),.t (.int .i64 v),c)],c+1,hS.app _ _ _,by simp only[P7,bf,ht,hd,hk,Pk,if_true,hkd,hr]⟩
 |some p=>
  obtain⟨j,u,b⟩:=p
  exact⟨es.set j (.t (.str s),.t (.int .i64 v),b),c,hS.set _ _ _ _,by simp only[P7,bf,ht,hd,hk,Pk,if_true,hkd,hr]⟩
end
def aaO (P:kK)(H:Heap)(t:TypeId)(x k v:TV):M (List (Nm×aQ)):=match x with
 |.map m=>(match H.get m with
  |some (.map es c)=>cB (aaM (P7 P t es c k v)) fun p=>fP [(m,.map p.1 p.2)]
  |_=>mg)
 |x=>rG (iR P H t x k v)
theorem Xm (P:kK)(H:Heap)(t:TypeId)(x k v:TV):dL ev (aaO P H t x k v) (iR P H t x k v):=by
  unfold aaO
  split
  · split
    · rename_i hk
      refine MP.bind Xj fun p hp=>MP.ret ?_
      exact ad2 hk hp
    · exact MP.no
  · exact dL.opt _
def L9 (P:kK)(t:TypeId)(x i:TV):M TV:=
 match bf P t,Xl i with
 |some ti,some n=>(match ti.desc,x with
  |.string,.t (.str s)=>cB (aaI s n) fun b=>fP (.t (.int .u8 b.toNat))
  |_,_=>rG (ox P t x i))
 |_,_=>rG (ox P t x i)
theorem P8 (P:kK)(t:TypeId)(x i:TV):dL ev (L9 P t x i) (ox P t x i):=by
  unfold L9
  split
  · rename_i ti n ht hn
    have hi:=NJ hn
    split
    · rename_i s hd
      refine dL.of_eq (dL.bind (y:=fun b=>some (.t (.int .u8 b.toNat))) (S0 s n) fun e _=>dL.ret _) ?_
      unfold ox
      rw[ht,hi]
      simp only[hd]
      cases s[n]? <;>rfl
    · exact dL.opt _
  · exact dL.opt _
def P9 (m:M TV):M vS:=cB m fun v=>fP (.val v [])
theorem BM {m:M TV}{x:Option TV}(h:dL ev m x):dL ev (P9 m) (match vQ x with
  |some (v,u)=>some (.val v u)
  |none=>none):=by
 refine dL.of_eq (dL.bind (y:=fun v=>some (.val v [])) h fun a _=>dL.ret _) ?_
 cases x<;>rfl
def aaP:TV→Option (List Tree)
 |.t (.sl es)=>some es
 |.k5 es=>some es
 |_=>none
theorem Xn {v:TV}{es:List Tree}(h:aaP v=some es):I6 v es:=by
 unfold aaP at h
 split at h
 · cases h;exact .inl rfl
 · cases h;exact .inr rfl
 · cases h
def aaQ ( P:kK)(nm:Nm)(H:Heap)(st xt:TypeId)(s x:TV):M (TV×List (Nm×aQ)):=
 match bf P st with
 | some ti=>(match ti.desc with
  | .slice elem=>(match bf P elem,aaP x with
   | some te,some es=>(match te.zero with
    | some z=>if te.size≠0∧z.cells.length=te.size∧te.bytes≠0∧st=xt then
      cB (aaK te.agg te.size es) fun _=>(match s with
       |.bl=>cB (L4 (es.length*te.bytes) eu) fun _=>fP (.ref nm 0 es.length,[(nm,.arr (elem,te.agg) te.size false ((flat es).map .t))])
       |.k5 []=>cB (L4 (es.length*te.bytes) eu) fun _=>fP (.ref nm 0 es.length,[(nm,.arr (elem,te.agg) te.size false ((flat es).map .t))])
       |.ref k 0 len=>(match H.get k with
        | some (.arr g bR fz cs)=>if g=(elem,te.agg)∧bR=te.size then cB (SY te.agg te.size len cs) fun fs=>cB (L4 ((len+es.length) *te.bytes) eu) fun _=>fP (.ref k 0 (fs++es).length,[(k,.arr (elem,te.agg) te.size fz ((flat (fs++es)).map .t))])
          else mg
        |_=>mg)
       |_=>mg)
     else mg
    |none=>mg)
   |_,_=>mg)
  |_=>mg)
 |none=>mg
theorem Xo      (C:dh)(nm:Nm)(H:Heap)(st xt:TypeId)(s x:TV):dL ev (aaQ C.P nm H st xt s x) (kq C.P nm H st xt s x):=by
  unfold aaQ
  split
  · rename_i ti ht
    split
    · rename_i elem hd
      split
      · rename_i te es hte hx
        have hv:=Xn hx
        split
        · rename_i z hz
          split
          · rename_i hc
            obtain⟨c1,c2,c3,rfl⟩:=hc
            have hA:AZ C.P st elem te:=⟨⟨ti,ht,hd⟩,hte,z,hz,c1,c2,c3⟩
            refine MP.bind Xh fun _ hu=> ?_
            obtain⟨hu,hne⟩:=hu
            split
            · refine MP.bind yq fun _ hb=>MP.ret ?_
              exact mZ hA (CW hv hu) (by simpa using hne) hu.qZ (by simp only[if_pos hb])
            · refine MP.bind yq fun _ hb=>MP.ret ?_
              refine mZ hA (CW hv hu) (by simpa using hne) hu.qZ ?_
              have e:eP H te.agg te.size (.k5 [])=some (0,[]):=rfl
              simp only[e,Nat.zero_add,if_pos hb,List.nil_append]
            · rename_i k len
              split
              · rename_i g bR fz cs hk
                split
                · rename_i hg
                  obtain⟨rfl,rfl⟩:=hg
                  refine MP.bind GQ fun fs hf=>MP.bind yq fun _ hb=>MP.ret ?_
                  obtain⟨rfl,rfl,hf⟩:=hf
                  refine mZ hA (CW hv hu) (by simpa using hne) hu.qZ ?_
                  have h2:ow H k 0 fs.length=some ((elem,te.agg),te.size,fz,(flat fs).map .t):=by
                    unfold ow
                    simp only[hk]
                    rw[if_pos ⟨by omega,by rw[Nat.zero_add,hf.length]⟩]
                  simp only[h2,hb,and_self,if_true,flat,List.flatMap_append,List.map_append,List.length_append]
                · exact MP.no
              · exact MP.no
            · exact MP.no
          · exact MP.no
        · exact MP.no
      · exact MP.no
    · exact MP.no
  · exact MP.no
def NL (C:dh)(f:FuncId)(H:Heap)(slots:List TV)(t:Nat)(o:Oper):M vS:=
 match o.op with
 |.call {callee:=.value fo,args,argTypes}=>(match jm C slots {callee:=.value fo,args,argTypes} with
  |some (g,alS)=>S2 H g alS t
  |none=>mg)
 |.call {callee:=.invoke recv name,args,argTypes}=>(match BA C H slots recv name args with
  |some (g,alS)=>S2 H g alS t
  |none=>mg)
 |.pick c a b=>(match cU C slots c,cU C slots a,cU C slots b with
  |some (.t (.bool x)),some u,some v=>cB (SX x) fun c=>fP (.val (if c then u else v) [])
  |_,_,_=>mg)
 |.indexAddr ty x i=>(match cU C slots x,cU C slots i with
  |some x,some i=>P9 (wE C.P H ty x i)
  |_,_=>mg)
 |.index ty x i=>(match cU C slots x,cU C slots i with
  |some x,some i=>P9 (L9 C.P ty x i)
  |_,_=>mg)
 |.load ty a=>(match cU C slots a with
  |some a=>P9 (S3 C.P H ty a)
  |_=>mg)
 |.store ty a x=>(match cU C slots a,cU C slots x with
  |some a,some x=>cB (L6 C.P H ty a x) fun u=>fP (.val b8 u)
  |_,_=>mg)
 |.fieldAddr s x i=>(match cU C slots x with
  |some a=>P9 (Dd C.P H s i a)
  |_=>mg)
 |.lookup ty x k ok=>(match cU C slots x,cU C slots k with
  |some x,some k=>P9 (S5 C.P H ty x k ok)
  |_,_=>mg)
 |.mapUpdate ty x k v=>(match cU C slots x,cU C slots k,cU C slots v with
  |some x,some k,some v=>cB (aaO C.P H ty x k v) fun u=>fP (.val b8 u)
  |_,_,_=>mg)
 | .call {callee:=.builtin .append,args,argTypes}=>(match args.toList,argTypes.toList with
  | [a,b],[ta,tb]=>(match cU C slots a,cU C slots b with
   |some x,some y=>cB (aaQ C.P (.loc [t]) H ta tb x y) fun p=>fP (.val p.1 p.2)
   |_,_=>mg)
  |_,_=>mg)
 |.call {callee:=.builtin .max, ..}=>(match aX C su f H slots t o with
  |some (.val v u)=>cB (P4 v) fun v=>fP (.val v u)
  |_=>mg)
 |.call {callee:=.builtin .min, ..}=>(match aX C su f H slots t o with
  |some (.val v u)=>cB (P4 v) fun v=>fP (.val v u)
  |_=>mg)
 |.binOp .add _ _ _ _=>(match aX C su f H slots t o with
  |some (.val v u)=>cB (P4 v) fun v=>fP (.val v u)
  |_=>mg)
 |.binOp .sub _ _ _ _=>(match aX C su f H slots t o with
  |some (.val v u)=>cB (P4 v) fun v=>fP (.val v u)
  |_=>mg)
 |_=>rG (aX C su f H slots t o)
theorem Jq (H:Heap)(slots:List TV)(t:Nat)(o:Oper):dL ev (NL C f H slots t o) (aX C ev f H slots t o):=by
  unfold NL
  split
  · rename_i fo args ats ho
    unfold aX
    rw[ho]
    simp only
    split
    · rename_i g alS hc;rw[hc];exact Jo _ _ _ _
    · exact dL.no
  · rename_i fo nm args ats ho
    unfold aX
    rw[ho]
    simp only
    split
    · rename_i g alS hc;rw[hc];exact Jo _ _ _ _
    · exact dL.no
  · rename_i c a b ho
    split
    · rename_i x u v h1 h2 h3
      refine dL.of_eq (dL.bind (y:=fun c=>some (.val (if c then u else v) [])) (C8 x) fun c _=>dL.ret _) ?_
      unfold aX
      rw[ho]
      simp only[evalOp,ho,h1,h2,h3]
      rfl
    · exact dL.no
  · rename_i ty x i ho
    split
    · rename_i a b h1 h2
      refine dL.of_eq (BM (Ey C.P H ty a b)) ?_
      unfold aX
      rw[ho]
      simp only[evalOp,ho,h1,h2]
      rfl
    · exact dL.no
  · rename_i ty x i ho
    split
    · rename_i a b h1 h2
      refine dL.of_eq (BM (P8 C.P ty a b)) ?_
      unfold aX
      rw[ho]
      simp only[evalOp,ho,h1,h2]
      rfl
    · exact dL.no
  · rename_i ty a ho
    split
    · rename_i x h1
      refine dL.of_eq (BM (S4 C.P H ty x)) ?_
      unfold aX
      rw[ho]
      simp only[evalOp,ho,h1]
      rfl
    · exact dL.no
  · rename_i ty a x ho
    split
    · rename_i u v h1 h2
      refine dL.of_eq (dL.bind (y:=fun q=>some (.val b8 q)) (P6 C.P H ty u v) fun q _=>dL.ret _) ?_
      unfold aX
      rw[ho]
      simp only[evalOp,ho,h1,h2,xg]
      cases storeT C.P H ty u v<;>rfl
    · exact dL.no
  · rename_i s x i ho
    split
    · rename_i a h1
      refine MP.bind (P:=fun v=>∃off,fN C.P s i=some off∧ov H a off=some v) ?_ fun v hv=>MP.ret ?_
      · unfold Dd
        split
        · rename_i off h2
          exact(MP.Wo (L8 H a off)).mono fun v hv=>⟨off,h2,hv⟩
        · exact MP.no
      · obtain⟨off,h2,h3⟩:=hv
        unfold fN at h2
        split at h2<;>try (simp at h2;done)
        rename_i ti Ge
        split at h2<;>try (simp at h2;done)
        rename_i fs hfs
        split at h2<;>try (simp at h2;done)
        rename_i fd WT
        split at h2<;>try (simp at h2;done)
        rename_i tf Rn
        split at h2<;>try (simp at h2;done)
        rename_i hz
        simp at h2
        subst h2
        unfold aX
        rw[ho]
        simp only[evalOp,ho,h1,Ge,hfs,WT,Rn,if_neg hz,h3,vQ,Option.map_some]
    · exact dL.no
  · rename_i ty x k ok ho
    split
    · rename_i a b h1 h2
      refine dL.of_eq (BM (S6 C.P H ty a b ok)) ?_
      unfold aX
      rw[ho]
      simp only[evalOp,ho,h1,h2]
      rfl
    · exact dL.no
  · rename_i ty x k v ho
    split
    · rename_i a b c h1 h2 h3
      refine dL.of_eq (dL.bind (y:=fun q=>some (.val b8 q)) (Xm C.P H ty a b c) fun q _=>dL.ret _) ?_
      unfold aX
      rw[ho]
      simp only[evalOp,ho,h1,h2,h3,xg]
      cases iR C.P H ty a b c<;>rfl
    · exact dL.no
  · rename_i args ats ho
    split
    · rename_i a b ta tb ha hta
      split
      · rename_i x y hx hy
        refine dL.of_eq (dL.bind (y:=fun p=>some (.val p.1 p.2)) (Xo C (.loc [t]) H ta tb x y) fun p _=>dL.ret _) ?_
        unfold aX
        rw[ho]
        have h1:jx C slots args.toList=some [x,y]:=by rw[ha];simp only[jx,hx,hy]
        have h2:mU C (.loc [t]) H .append [ta,tb] [x,y]=kq C.P (.loc [t]) H ta tb x y:=by delta mU;rfl
        simp only[evalOp,ho,h1,hta,h2]
        cases kq C.P (.loc [t]) H ta tb x y<;>rfl
      · exact dL.no
    · exact dL.no
  · rename_i alS ats ho
    have e:aX C su f H slots t o=aX C ev f H slots t o:=by
      unfold aX;rw[ho]
    split
    · rename_i v u h
      refine dL.of_eq (dL.bind (y:=fun v=>some (.val v u)) (yp v) fun c _=>dL.ret _) ?_
      rw[← e,h];rfl
    · exact dL.no
  · rename_i alS ats ho
    have e:aX C su f H slots t o=aX C ev f H slots t o:=by
      unfold aX;rw[ho]
    split
    · rename_i v u h
      refine dL.of_eq (dL.bind (y:=fun v=>some (.val v u)) (yp v) fun c _=>dL.ret _) ?_
      rw[← e,h];rfl
    · exact dL.no
  · rename_i ty x y r2 ho
    have e:aX C su f H slots t o=aX C ev f H slots t o:=by
      unfold aX;rw[ho]
    split
    · rename_i v u h
      refine dL.of_eq (dL.bind (y:=fun v=>some (.val v u)) (yp v) fun c _=>dL.ret _) ?_
      rw[← e,h];rfl
    · exact dL.no
  · rename_i ty x y r2 ho
    have e:aX C su f H slots t o=aX C ev f H slots t o:=by
      unfold aX;rw[ho]
    split
    · rename_i v u h
      refine dL.of_eq (dL.bind (y:=fun v=>some (.val v u)) (yp v) fun c _=>dL.ret _) ?_
      rw[← e,h];rfl
    · exact dL.no
  · rename_i h1 h2 h3 h4 h5 h6 h7 h8 h9 h10 h11 h12 h13 h14 h15
    have e:aX C su f H slots t o=aX C ev f H slots t o:=by
      unfold aX
      split
      · rfl
      · rename_i fo args ats ho;exact absurd ho (h1 fo args ats)
      · rename_i r nm args ats ho;exact absurd ho (h2 r nm args ats)
      · rfl
    rw[← e]
    exact dL.opt _
def Xp (C:dh)(f:FuncId)(ops:Array Oper):List Oper→St→M (aV×St)
 | [],st=>fP (.normal,st)
 | o::r,st=>cB (BL ops st.slots o) fun w=>match w with
  |false=>Xp C f ops r {st with slots:=eG st.slots o.dst b8,tick:=st.tick+1}
  |true=>cB (NL C f st.H st.slots st.tick o) fun res=>match res with
   |.val v u=>Xp C f ops r {slots:=eG st.slots o.dst v,H:=st.H.dJ u,tick:=st.tick+1}
   |.panic v u l=>fP (.panic v,{st with H:=(st.H.tB l).dJ u,tick:=st.tick+1})
theorem GX (ops:Array Oper):∀(l:List Oper) (st:St),dL ev (Xp C f ops l st) (Bf C ev f ops l st)
  | [],st=>dL.ret _
  | o ::r,st=>by
    refine dL.of_eq (dL.bind (y:=fun w=>match w with
      |false=>Bf C ev f ops r {st with slots:=eG st.slots o.dst b8,tick:=st.tick+1}
      | true=>(aX C ev f st.H st.slots st.tick o).bind fun res=>match res with
        |.val v u=>Bf C ev f ops r {slots:=eG st.slots o.dst v,H:=st.H.dJ u,tick:=st.tick+1}
        |.panic v u l=>some (.panic v,{st with H:=(st.H.tB l).dJ u,tick:=st.tick+1})) (C9 ops st.slots o) fun w _=> ?_) ?_
    · cases w with
      |false=>exact GX ops r _
      | true=>
        refine dL.bind (Jq st.H st.slots st.tick o) fun res _=> ?_
        cases res with
        |val v u=>exact GX ops r _
        |panic v u l=>exact dL.ret _
    · rw[ Bf]
      cases dF ops st.slots o with
      |none=>rfl
      | some w=>
        cases w with
        |false=>rfl
        | true=>
          show(aX C ev f st.H st.slots st.tick o).bind _=_
          cases aX C ev f st.H st.slots st.tick o with
          |none=>rfl
          |some res=>cases res<;>rfl
def S7 (bs:List Nat)(i:Nat):Option Nat→Bool
 |some j=>iE bs j i
 |none=>false
def Jr (C:dh)(ev:aS)(f:FuncId)(ops:Array Oper)(t0 i:Nat)(o:Oper)(s:vv)(pX:Option Nat):Option Rec:=
 (dF ops s.slots o).bind fun w=>match w with
  |false=>some ⟨[],.unwanted⟩
  | true=>(O4 C s.H s.slots o).bind fun fp=>(aX C ev f (l5 s.H fp) s.slots (t0+i) o).bind fun res=>match res with
   |.val v u=>if pX.isSome=true&& !u.isEmpty then none else some ⟨fp,.val v u⟩
   |.panic v u l=>match pX with
    |some _=>none
    |none=>some ⟨fp,.panic v u l⟩
theorem aaR (ops:Array Oper)(bs:List Nat)(t0 i:Nat)(o:Oper)(s:vv)(pX:Option Nat):Q9 C ev f ops bs t0 i o s pX=bif S7 bs i pX then some ⟨[],.xq⟩ else Jr C ev f ops t0 i o s pX:=by
 unfold Q9 Jr
 simp only[sC,CS]
 have e:(match dF ops s.slots o with
   |none=>none
   |some false=>some ⟨[],.unwanted⟩
   | some true=>
    match O4 C s.H s.slots o with
    |none=>none
    | some fp=>
     match aX C ev f (l5 s.H fp) s.slots (t0+i) o with
     |none=>none
     |some (.val v u)=>if pX.isSome=true&& !u.isEmpty then none else some ⟨fp,.val v u⟩
     |some (.panic v u l)=>match pX with
      |some _=>none
      |none=>some ⟨fp,.panic v u l⟩:Option Rec)=Jr C ev f ops t0 i o s pX:=by
  unfold Jr
  cases dF ops s.slots o with
  |none=>rfl
  | some w=>
   cases w with
   |false=>rfl
   | true=>
    simp only[Option.bind_some]
    cases O4 C s.H s.slots o with
    |none=>rfl
    |some fp=>
     simp only[Option.bind_some]
     cases aX C ev f (l5 s.H fp) s.slots (t0+i) o with
     |none=>rfl
     |some res=>cases res<;>rfl
 unfold Jr at e
 cases pX with
 |none=>exact e
 |some j=>
  show(match iE bs j i with|true=>_|false=>_)=bif iE bs j i then _ else _
  cases iE bs j i with
  |true=>rfl
  |false=>exact e
def aaS (C:dh)(f:FuncId)(ops:Array Oper)(bs:List Nat)(t0 i:Nat)(o:Oper)(s:vv)(pX:Option Nat):M Rec:=
 match S7 bs i pX with
 |true=>fP ⟨[],.xq⟩
 | false=>cB (BL ops s.slots o) fun w=>match w with
  |false=>fP ⟨[],.unwanted⟩
  | true=>match O4 C s.H s.slots o with
   |none=>mg
   | some fp=>cB (NL C f (l5 s.H fp) s.slots (t0+i) o) fun res=>match res with
    |.val v u=>if pX.isSome=true&& !u.isEmpty then mg else fP ⟨fp,.val v u⟩
    |.panic v u l=>match pX with
     |some _=>mg
     |none=>fP ⟨fp,.panic v u l⟩
theorem Xq (ops:Array Oper)(bs:List Nat)(t0 i:Nat)(o:Oper)(s:vv)(pX:Option Nat):dL ev (aaS C f ops bs t0 i o s pX) (Q9 C ev f ops bs t0 i o s pX):=by
 rw[aaR]
 unfold aaS
 cases S7 bs i pX with
 |true=>exact dL.ret _
 | false=>
  refine dL.bind (C9 ops s.slots o) fun w _=> ?_
  cases w with
  |false=>exact dL.ret _
  | true=>
   simp only
   cases O4 C s.H s.slots o with
   |none=>exact dL.no
   | some fp=>
    refine dL.bind (Jq _ _ _ _) fun res _=> ?_
    cases res with
    |val v u=>
     simp only
     split
     · exact dL.no
     · exact dL.ret _
    |panic v u l=>
     cases pX with
     |none=>exact dL.ret _
     |some _=>exact dL.no
def S8 (C:dh)(f:FuncId)(ops:Array Oper)(bs:List Nat)(t0:Nat):Nat→List Oper→vv→Option Nat→M (List Rec)
 |_,[],_,_=>fP []
 |i,o::r,s,pX=>cB (aaS C f ops bs t0 i o s pX) fun rec=>cB (S8 C f ops bs t0 (i+1) r (s.after o rec.res) (jA i pX rec.res)) fun rs=>fP (rec::rs)
theorem Js (ops:Array Oper)(bs:List Nat)(t0:Nat):∀(l:List Oper) (i:Nat) (s:vv) (pX:Option Nat),dL ev (S8 C f ops bs t0 i l s pX) (Bg C ev f ops bs t0 i l s pX)
 | [],i,s,pX=>dL.ret _
 | o::r,i,s,pX=>by
  refine dL.of_eq (dL.bind (Xq ops bs t0 i o s pX) fun rec _=>dL.bind (y:=fun rs=>some (rec::rs)) (Js ops bs t0 r (i+1) (s.after o rec.res) (jA i pX rec.res)) fun rs _=>dL.ret _) ?_
  rw[Bg]
  cases Q9 C ev f ops bs t0 i o s pX with
  |none=>rfl
  |some rec=>
   simp only[Option.bind_some]
   cases Bg C ev f ops bs t0 (i+1) r (s.after o rec.res) (jA i pX rec.res)<;>rfl
def regionEnd (ops:Array Oper)(st:St)(recs:List Rec):Option (aV×St):=
 let l:=ops.toList
 let bs:=pY l []
 if kL ops l recs bs l recs 0=true∧tN 0 l=true then
  let s:=xw l recs {slots:=st.slots,H:=st.H}
  match jo 0 recs with
  |none=>some (.normal,{slots:=s.slots,H:=s.H,tick:=st.tick+ops.size})
  |some (j,v,u,lost)=>
   some (.panic v,{slots:=st.slots,H:=(s.H.tB (lost++zN (bs.getD j 0) 0 (recs.take j))).dJ u,tick:=st.tick+ops.size})
 else none
def Jt (C:dh)(f:FuncId)(ops:Array Oper)(st:St):M (aV×St):=
 cB (S8 C f ops (pY ops.toList []) st.tick 0 ops.toList {slots:=st.slots,H:=st.H} none) fun recs=>rG (regionEnd ops st recs)
theorem Ju (ops:Array Oper)(st:St):dL ev (Jt C f ops st) (p7 C ev f ops st):=by
 refine dL.of_eq (dL.bind (Js _ _ _ _ _ _ _) fun recs _=>dL.opt _) ?_
 unfold p7
 simp only
 cases Bg C ev f ops (pY ops.toList []) st.tick 0 ops.toList {slots:=st.slots,H:=st.H} none<;>rfl
def NM (C:dh)(f:FuncId):Code→St→M (aV×St)
 |.skip,st=>fP (.normal,st)
 |.label _,st=>fP (.normal,st)
 |.region _ ops draw,st=>match draw with
  |true=>Jt C f ops st
  |false=>Xp C f ops ops.toList st
 |.exit id,st=>fP (.exit id,st)
 |.ret,st=>fP (.ret,st)
 |_,_=>mg
theorem S9 {fuel:Nat}:∀(c:Code) (st:St),dL ev (NM C f c st) (evalCode C ev f fuel c st):=by
 intro c st
 cases c with
 |skip=>exact dL.ret _
 |label l=>exact dL.ret _
 |region id ops draw=>
  cases draw with
  |true=>exact Ju ops st
  |false=>exact GX ops ops.toList st
 |exit id=>exact dL.ret _
 |ret=>exact dL.ret _
 |_=>exact dL.no
inductive Fr where
 |c (x:Code)
 |b (id:Nat)
 |x
def KE (C:dh)(Q:aV→St→Prop):List Fr→aV→St→Prop
 | [],e,s=>Q e s
 |.c x::K,.normal,s=>AW C x s (KE C Q K)
 |.c _::K,.exit i,s=>KE C Q K (.exit i) s
 |.c _::K,.ret,s=>KE C Q K .ret s
 |.c _::K,.panic v,s=>KE C Q K (.panic v) s
 |.b id::K,.exit i,s=>if i=id then KE C Q K .normal s else KE C Q K (.exit i) s
 |.b _::K,.normal,s=>KE C Q K .normal s
 |.b _::K,.ret,s=>KE C Q K .ret s
 |.b _::K,.panic v,s=>KE C Q K (.panic v) s
 |.x::_,.normal,_=>False
 |.x::K,.exit i,s=>KE C Q K (.exit i) s
 |.x::K,.ret,s=>KE C Q K .ret s
 |.x::K,.panic v,s=>KE C Q K (.panic v) s
theorem KE.seq {Q:aV→St→Prop}{a b:Code}{K:List Fr}{s:St}(h:KE C Q (.c a:: .c b::K) .normal s):KE C Q (.c (.seq a b)::K) .normal s:=by
 refine AW.seq (AW.mono h fun e s' h=> ?_)
 cases e with
 |normal=>exact h
 |_=>exact h
theorem KE.block {Q:aV→St→Prop}{id:Nat}{x:Code}{K:List Fr}{s:St}(h:KE C Q (.c x:: .b id::K) .normal s):KE C Q (.c (.block id x)::K) .normal s:=by
 refine AW.block (AW.mono h fun e s' h=> ?_)
 cases e with
 |exit i=>exact h
 |_=>exact h
theorem KE.cond {Q:aV→St→Prop}{c:Operand}{a b:Code}{K:List Fr}{s:St}{q:Bool}(hc:cU C s.slots c=some (.t (.bool q)))(h:KE C Q (.c (cond q a b)::K) .normal s):KE C Q (.c (.cond c a b)::K) .normal s:=by
 cases q with
 |true=>exact AW.cond hc (fun _=>h) fun e=>by cases e
 |false=>exact AW.cond hc (fun e=>by cases e) fun _=>h
theorem KE.once {Q:aV→St→Prop}{b:Code}{K:List Fr}{s:St}(h:KE C Q (.c b:: .x::K) .normal s):KE C Q (.c (.loop b)::K) .normal s:=by
 refine AW.loop (α:=Unit) (fun _=>s) (fun _=>True) (fun _=>0) () (Re.refl s) trivial fun _ _=>AW.mono h fun e s' h=> ?_
 cases e with
 |normal=>exact h.elim
 |_=>exact h
def ux:Code→Option Nat
 |.seq a b=>(ux a).or (ux b)
 |.cond _ a b=>(ux a).or (ux b)
 |.block _ c=>ux c
 |.loop c=>ux c
 |.region id _ _=>some id
 |_=>none
def isIn (l:List Nat):Option Nat→Bool
 |some r=>l.any (Nat.beq r)
 |none=>false
def goK (C:dh)(f:FuncId)(once:List Nat)(stop:Nat):Nat→List Fr→aV→St→M (List Fr×aV×St)
 |0,_,_,_=>mg
 |_+1,[],e,s=>fP ([],e,s)
 |n+1,.x::K,e,s=>match e with
  |.normal=>mg
  |e=>goK C f once stop n K e s
 | n+1,.b id::K,e,s=>match e with
  |.exit i=>(match Nat.beq i id with
   |true=>goK C f once stop n K .normal s
   |false=>goK C f once stop n K (.exit i) s)
  |e=>goK C f once stop n K e s
 | n+1,.c x::K,e,s=>match e with
  | .normal=>(match x with
   |.seq a b=>goK C f once stop n (.c a:: .c b::K) .normal s
   |.block id x=>goK C f once stop n (.c x:: .b id::K) .normal s
   |.loop x=>(match isIn once (ux x) with
    |true=>goK C f once stop n (.c x:: .x::K) .normal s
    |false=>fP (.c (.loop x)::K,.normal,s))
   |.cond c a b=>(match cU C s.slots c with
    |some (.t (.bool q))=>cB (SX q) fun q=>goK C f once stop n (.c (cond q a b)::K) .normal s
    |_=>mg)
   |.region id ops d=>(match Nat.beq id stop with
    |true=>fP (.c (.region id ops d)::K,.normal,s)
    |false=>cB (NM C f (.region id ops d) s) fun p=>goK C f once stop n K p.1 p.2)
   |x=>cB (NM C f x s) fun p=>goK C f once stop n K p.1 p.2)
  |e=>goK C f once stop n K e s
theorem wF (hm:C.P.prog.follows .mixedOrders=true)(ai:aF C ev){once:List Nat}{stop:Nat}:∀(n:Nat) (K:List Fr) (e:aV) (s:St),MP ev (goK C f once stop n K e s) fun p=>∀Q,KE C Q p.1 p.2.1 p.2.2→KE C Q K e s:=by
  intro n
  induction n with
  |zero=>intro K e s;exact MP.no
  | succ n ih =>
    intro K e s
    have code:∀(x:Code) (K:List Fr),MP ev (cB (NM C f x s) fun p=>goK C f once stop n K p.1 p.2) fun p=>∀Q,KE C Q p.1 p.2.1 p.2.2→KE C Q (.c x::K) .normal s:=fun x K=>
      MP.bind (MP.Wo (S9 (fuel:=0) x s)) fun p hx=>(ih K p.1 p.2).mono fun q hq Q hk=>AW.eval hm ai hx (hq Q hk)
    cases K with
    |nil=>exact MP.ret fun Q h=>h
    | cons fr K=>
      cases fr with
      | x=>
        cases e with
        |normal=>exact MP.no
        |exit i=>exact ih K (.exit i) s
        |ret=>exact ih K .ret s
        |panic v=>exact ih K (.panic v) s
      | b id=>
        cases e with
        | exit i=>
          cases hb:Nat.beq i id with
          | true=>
            simp only[goK,hb]
            refine(ih K .normal s).mono fun q hq Q hk=> ?_
            show if i=id then _ else _
            rw[if_pos (Nat.eq_of_beq_eq_true hb)]
            exact hq Q hk
          | false=>
            simp only[goK,hb]
            refine(ih K (.exit i) s).mono fun q hq Q hk=> ?_
            show if i=id then _ else _
            rw[if_neg (Nat.ne_of_beq_eq_false hb)]
            exact hq Q hk
        |normal=>exact ih K .normal s
        |ret=>exact ih K .ret s
        |panic v=>exact ih K (.panic v) s
      | c x =>
        cases e with
        |exit i=>exact ih K (.exit i) s
        |ret=>exact ih K .ret s
        |panic v=>exact ih K (.panic v) s
        | normal=>
          cases x with
          |seq a b=>exact(ih (.c a:: .c b::K) .normal s).mono fun q hq Q hk=>KE.seq (hq Q hk)
          |block id x=>exact(ih (.c x:: .b id::K) .normal s).mono fun q hq Q hk=>KE.block (hq Q hk)
          | loop x=>
            simp only[goK]
            split
            · exact(ih (.c x:: .x::K) .normal s).mono fun q hq Q hk=>KE.once (hq Q hk)
            · exact MP.ret fun Q h=>h
          | cond c a b=>
            simp only[goK]
            split
            · rename_i q hc
              refine MP.bind (MP.Wo (C8 q)) fun q' hq'=>(ih (.c (cond q' a b)::K) .normal s).mono fun r hr Q hk=> ?_
              cases hq'
              exact KE.cond hc (hr Q hk)
            · exact MP.no
          | region id ops d=>
            simp only[goK]
            split
            · exact MP.ret fun Q h=>h
            · exact code _ _
          |skip=>exact code .skip K
          |rangeFunc a b c d=>exact code (.rangeFunc a b c d) K
          |exit i=>exact code (.exit i) K
          |scope b=>exact code (.scope b) K
          |label l=>exact code (.label l) K
          |goto l=>exact code (.goto l) K
          |ret=>exact code .ret K
          |refuse w=>exact code (.refuse w) K
end ops
abbrev Ob (ev:aS):={c:Cl // c.holds ev}
abbrev vals {ev:aS}(l:List (Ob ev)):List Cl:=l.map (·.1)
section obs
variable {ev:aS}
abbrev oT:Ob ev:=⟨.b true true,rfl⟩
abbrev oF:Ob ev:=⟨.b false false,rfl⟩
abbrev oB {x c:Bool}(h:x=c):Ob ev:=⟨.b x c,h⟩
abbrev oC {g:FuncId}{alS:List TV}{os:List aQ}{x:bG}(h:ev g alS os=some x):Ob ev:=⟨.r g alS os x,h⟩
abbrev oE {l:List Tree}{i:Nat}{x:Tree}(h:l[i]?=some x):Ob ev:=⟨.e l i x,h⟩
abbrev oN {o:aQ}(h:∀σ,o.rn σ=some o):Ob ev:=⟨.n o,h⟩
theorem rH (l:List (Ob ev)):∀c∈vals l,c.holds ev:=fun c hc=>by
 obtain⟨o,_,rfl⟩:=List.mem_map.1 hc
 exact o.2
abbrev oU (ag:Bool)(sz:Nat)(es:List Tree)(h:fA ag sz es)(hn:es≠ []):Ob ev:=⟨.u ag sz es,h,hn⟩
abbrev oW (ag:Bool)(sz:Nat)(fs:List Tree)(h:fA ag sz fs):Ob ev:=⟨.w ag sz fs fs.length ((flat fs).map .t),rfl,rfl,h⟩
abbrev oA (a:Nat)(h:a≤70368744177664):Ob ev:=⟨.l a eu,h⟩
abbrev oZ:Ob ev:=⟨.z,trivial⟩
abbrev oQ (l:List Tree):Ob ev:=⟨.pp (((flat l).map TV.t).length=((flat l).map TV.t).length),rfl⟩
abbrev oO {x:Option TV}{v:TV}(h:x=some v):Ob ev:=⟨.po x v,h⟩
abbrev oK {x y:List TV}(h:x=y):Ob ev:=⟨.pc x y,h⟩
abbrev oM {x:Option (List (TV×TV×Nat)×Nat)}{y:List (TV×TV×Nat)}{c:Nat}(h:x=some (y,c)):Ob ev:=⟨.pm x y c,h⟩
abbrev oH {l:List Tree}{i:Nat}{x:Tree}(h:l[i]?=some x):Ob ev:=⟨.l (i+1) l.length,(List.getElem?_eq_some_iff.1 h).1⟩
abbrev oR (a b:Nat)(h:a≤b):Ob ev:=⟨.l a b,h⟩
theorem Fy {sz:Nat}{es:List Tree}{i j m:Nat}{e:Tree}(hu:∀e∈es,e.cells.length=sz)(he:es[i]?=some e)(hj:j+m≤sz):i*sz+j+m≤((flat es).map TV.t).length:=by
 have hi:i<es.length:=(List.getElem?_eq_some_iff.1 he).1
 rw[List.length_map,gZ hu]
 have:(i+1) *sz≤es.length*sz:=Nat.mul_le_mul_right _ hi
 rw[Nat.succ_mul] at this
 omega
abbrev oS (n:Nat)(h:1≤n)(h2:n<9223372036854775807):Ob ev:=⟨.v (.t (.int .i64 (IntKind.i64.wrap ((n:Int) - 1)))) (.t (.int .i64 ((n - 1:Nat):Int))),by
 show TV.t _=TV.t _
 rw[wrap64 (by omega) (by omega),show((n - 1:Nat):Int)=(n:Int) - 1 by omega]⟩
abbrev oG (k:IntKind)(a b:Int):Ob ev:=⟨.v (.t (.int k (if b>a then b else a))) (.t (.int k (max a b))),by
 show TV.t _=TV.t _
 rw[show(if b>a then b else a)=max a b from by rw[Int.max_def];split<;>split<;>omega]⟩
abbrev oI (n:Nat)(h:n<9223372036854775807):Ob ev:=⟨.v (.t (.int .i64 (IntKind.i64.wrap ((n:Int)+1)))) (.t (.int .i64 ((n+1:Nat):Int))),by
 show TV.t _=TV.t _
 rw[wrap64 (by omega) (by omega)];rfl⟩
end obs
def Xr (o:aQ):M aQ:=fun cl=>match cl with
 |.n _::r=>some (o,r,[.n o])
 |_=>none
def rnO (σ:Nm→Option Nm)(o:aQ):M aQ:=match o with
 |.arr g bR fz cs=>Xr (.arr g bR fz cs)
 |.map es c=>Xr (.map es c)
 |o=>rG (o.rn σ)
def NN (S:List Nm)(slots:List TV):List Nat→Option (List (Nat×TV))
 | []=>some []
 | i::r=>match slots[i]?,NN S slots r with
  |some v,some l=>(match v.rn (IY S) with
   |some v=>some ((i,v)::l)
   |none=>none)
  |_,_=>none
def NP (S:List Nm)(H:Heap):List Nm→M Heap
 | []=>fP []
 |k::r=>match H.get k,IY S k with
  |some o,some k'=>cB (rnO (IY S) o) fun o=>cB (NP S H r) fun h=>fP ((k',o)::h)
  |_,_=>mg
def Jv (n:Nat)(S ks:List Nm)(live:List Nat)(T:Nat)(s:St):M St:=
 match Nat.beq s.slots.length n&&S.all Nm.gy&&decide S.Nodup&&S.all (fun k=>(s.H.get k).isSome)&&Nat.ble S.length T,NN S s.slots live with
 |true,some sp=>cB (NP S s.H ks) fun H=>fP ⟨bX n sp,H,T⟩
 |_,_=>mg
section norm
variable {ev:aS}{C:dh}
theorem NQ {σ:Nm→Option Nm}{o:aQ}:MP ev (Xr o) fun o'=>o.rn σ=some o':=fun cl a Bq em h he=>by
 unfold Xr at h
 split at h
 · cases h;exact he _ (List.mem_singleton_self _) σ
 · cases h
theorem aaT {σ:Nm→Option Nm}{o:aQ}:MP ev (rnO σ o) fun o'=>o.rn σ=some o':=by
 unfold rnO
 split
 · exact NQ
 · exact NQ
 · exact MP.Wo (dL.opt _)
theorem Jw {S:List Nm}{slots:List TV}:∀{live:List Nat} {sp:List (Nat×TV)},NN S slots live=some sp→∀i,look sp i=.any∨∃v,slots[i]?=some v∧v.rn (IY S)=some (look sp i)
  | [],sp,h,i=>by cases h;exact .inl rfl
  | j ::r,sp,h,i=>by
    simp only[NN] at h
    split at h
    · rename_i v l h1 h2
      split at h
      · rename_i v' h3
        cases h
        rw[kP]
        by_cases e:i=j
        · subst e;rw[if_pos rfl];exact .inr ⟨v,h1,h3⟩
        · rw[if_neg e];exact Jw h2 i
      · cases h
    · cases h
theorem Jx {S:List Nm}{H:Heap}:∀{ks:List Nm},MP ev (NP S H ks) fun H'=>CA (IY S) H H'
  | []=>MP.ret trivial
  | k ::r=>by
    simp only[NP]
    split
    · rename_i o k' h1 h2
      exact MP.bind aaT fun o' ho=>MP.bind (Jx (ks:=r)) fun h hh=>MP.ret ⟨⟨k,o,h1,h2,.inl ho⟩,hh⟩
    · exact MP.no
theorem NR {σ:Nm→Option Nm}:∀{xs ys:List TV},xs.length=ys.length→(∀(i:Nat) (y:TV),ys[i]?=some y→y=TV.any∨∃x:TV,xs[i]?=some x∧x.rn σ=some y)→into σ xs ys
  | [],[],_,_=>trivial
  | x ::xs,y::ys,hl,h=>by
    refine⟨?_,NR (by simpa using hl) fun i y hy=> ?_⟩
    · rcases h 0 y rfl with e|⟨x',e1,e2⟩
      · exact .inl e
      · cases e1;exact .inr e2
    · rcases h (i+1) y (by simpa using hy) with e|⟨x',e1,e2⟩
      · exact .inl e
      · exact .inr ⟨x',by simpa using e1,e2⟩
  | [],_::_,hl,_=>by simp at hl
  |_::_,[],hl,_=>by simp at hl
theorem De {n:Nat}{S ks:List Nm}{live:List Nat}{T:Nat}{s:St}:MP ev (Jv n S ks live T s) fun s2=>Re C s s2:=by
  unfold Jv
  split
  · rename_i sp hb hs
    refine MP.bind Jx fun H' h1=>MP.ret ?_
    simp only[Bool.and_eq_true] at hb
    obtain⟨⟨⟨⟨b1,b2⟩,b3⟩,b4⟩,b5⟩:=hb
    have hn:=Nat.eq_of_beq_eq_true b1
    obtain⟨slots,H,t⟩:=s
    refine Re.mk S (NR (by rw[eS];exact hn) fun i y hy=> ?_) h1 (of_decide_eq_true b3) b2 (fun k hk=>List.all_eq_true.1 b4 k hk) (Nat.le_of_ble_eq_true b5)
    have hi:i<n:=by have:=(List.getElem?_eq_some_iff.1 hy).1;simpa [eS] using this
    rw[kD hi] at hy
    cases hy
    exact Jw hs i
  · exact MP.no
end norm
section rules
variable {ev:aS}{C:dh}{f:FuncId}{R:Type}
theorem AX.frames {c:Code}{st:St}{Q:R→aV→St→Prop}(h:∃r,KE C (Q r) [.c c] .normal st):AX C c st Q:=h.imp fun _ h=>AW.mono h fun _ _ h=>h
def Xs (C:dh)(fn:Func)(n:Nat)(st:St)(v:TV)(ks:List Nm):Option bG:=
 let H:=st.H.dJ (cZ st.H ks)
 match nA H 0 n with
 |none=>none
 |some os=>match reach H fD [] (v.names++os.flatMap aQ.names) with
  |none=>none
  |some R=>(j3 H R).map fun h=>.ret v os h
def BN (C:dh)(fn:Func)(n:Nat)(st:St):M bG:=
 match iW C st fn.results.toList with
 |none=>mg
 |some vs=>(match GS (qO vs) with
  |true=>cB (P5 st.H iO (qO vs)) fun p=>rG (Xs C fn n st (.t p.1) p.2)
  |false=>rG (finish C fn n st))
theorem Fz {fn:Func}{n:Nat}{st:St}:MP ev (BN C fn n st) fun r=>finish C fn n st=some r:=by
  unfold BN
  split
  · exact MP.no
  · rename_i vs hv
    split
    · refine MP.bind (GV st.H iO (qO vs)) fun p hp=>(MP.Wo (dL.opt _)).mono fun r hr=> ?_
      unfold finish
      simp only[hv,hp]
      exact hr
    · exact MP.Wo (dL.opt _)
def Xt (C:dh)(fn:Func)(m:Nat)(p:List Fr×aV×St):M bG:=match p with
 |([],.normal,s)=>BN C fn m s
 |([],.ret,s)=>BN C fn m s
 |([],.panic v,s)=>(match v.names.any Nm.gy with
  |false=>fP (.panic v (p8 s.H 0 m))
  |true=>mg)
 |_=>mg
theorem Xu {fn:Func}{m:Nat}{p:List Fr×aV×St}:MP ev (Xt C fn m p) fun r=>KE C (cv C fn m r) p.1 p.2.1 p.2.2:=by
  unfold Xt
  split
  · exact Fz.mono fun r h=>.inl h
  · exact Fz.mono fun r h=>.inl h
  · split
    · rename_i hv
      exact MP.ret ⟨hv,rfl⟩
    · exact MP.no
  · exact MP.no
theorem Qa (hm:C.P.prog.follows .mixedOrders=true)(ai:aF C ev){fn:Func}{once:List Nat}{m n:Nat}{r:bG}{K:List Fr}{e:aV}{s:St}(obs:List (Ob ev))(h:cB (goK C f once 100000 n K e s) (Xt C fn m) (vals obs)=some (r,[],vals obs)):KE C (cv C fn m r) K e s:=
 MP.bind (wF hm ai n K e s) (fun p hp=>Xu.mono fun r hr=>hp _ hr) _ _ _ _ h (rH obs)
def Ma (n:Nat)(S ks:List Nm)(live:List Nat)(T:Nat)(p:List Fr×aV×St):M St:=match p with
 |([],.normal,s)=>Jv n S ks live T s
 |_=>mg
theorem Qb {n T:Nat}{S ks:List Nm}{live:List Nat}{p:List Fr×aV×St}:MP ev (Ma n S ks live T p) fun s2=>KE C (fun e s=>e=.normal∧Re C s s2) p.1 p.2.1 p.2.2:=by
 unfold Ma
 split
 · exact De.mono fun s2 h=>⟨rfl,h⟩
 · exact MP.no
theorem bS (hm:C.P.prog.follows .mixedOrders=true)(ai:aF C ev){once:List Nat}{n k T:Nat}{S ks:List Nm}{live:List Nat}{s2:St}{K:List Fr}{e:aV}{s:St}(obs:List (Ob ev))(h:cB (goK C f once 100000 n K e s) (Ma k S ks live T) (vals obs)=some (s2,[],vals obs)):
  KE C (fun e s=>e=.normal∧Re C s s2) K e s:=
 MP.bind (wF hm ai n K e s) (fun p hp=>Qb.mono fun r hr=>hp _ hr) _ _ _ _ h (rH obs)
def A4 (p:Code→Bool):Code→List Fr→Option (Code×List Fr)
 |.seq a b,K=>(A4 p a (.c b::K)).or (A4 p b K)
 |.cond _ a b,K=>(A4 p a K).or (A4 p b K)
 |.block id c,K=>A4 p c (.b id::K)
 |.loop c,K=>match p (.loop c) with
  |true=>some (c,K)
  |false=>A4 p c []
 |x,K=>match p x with
  |true=>some (x,K)
  |false=>none
def Xv (r:Nat):Code→Bool
 |.loop c=>match ux c with
  |some i=>Nat.beq i r
  |none=>false
 |_=>false
def ad3 (r:Nat):Code→Bool
 |.region id _ _=>Nat.beq id r
 |_=>false
def iF (B:Code)(r:Nat):Code×List Fr:=(A4 (Xv r) B []).getD (.skip,[])
def ad4 (B:Code)(r:Nat):Code×List Fr:=(A4 (ad3 r) B []).getD (.skip,[])
def Ta (n:Nat)(S ks:List Nm)(live:List Nat)(T:Nat)(p:List Fr×aV×St):M ((Code×List Fr)×St):=match p with
 |(.c (.loop b)::K,.normal,s)=>cB (Jv n S ks live T s) fun s=>fP ((b,K),s)
 |_=>mg
theorem Tc {n T:Nat}{S ks:List Nm}{live:List Nat}{p:List Fr×aV×St}:MP ev (Ta n S ks live T p) fun q=>∃s,p=(.c (.loop q.1.1)::q.1.2,.normal,s)∧Re C s q.2:=by
 unfold Ta
 split
 · exact MP.bind De fun s2 h=>MP.ret ⟨_,rfl,h⟩
 · exact MP.no
theorem eF (hm:C.P.prog.follows .mixedOrders=true)(ai:aF C ev){α:Type}(st:α→St)(ok:α→Prop)(μ:α→Nat)(x0:α){once:List Nat}{n k T:Nat}{S ks:List Nm}{live:List Nat}{K:List Fr}{e:aV}{s:St}{Q:R→aV→St→Prop}(L:Code×List Fr)(obs:List (Ob ev))
  (h:cB (goK C f once 100000 n K e s) (Ta k S ks live T) (vals obs)=some ((L,st x0),[],vals obs))(h0:ok x0)
  (hs:∀x,ok x→∃o,KE C (C5 C st (fun y=>ok y∧μ y<μ x) (fun r=>KE C (Q r) L.2) o) [.c L.1] .normal (st x)):∃r,KE C (Q r) K e s:=by
 have key:∃p:List Fr×aV×St,(∀Q,KE C Q p.1 p.2.1 p.2.2→KE C Q K e s)∧∃s,p=(.c (.loop L.1)::L.2,.normal,s)∧Re C s (st x0):=
  MP.bind (wF hm ai n K e s) (fun p hp=>Tc.mono fun q hq=>show ∃p:List Fr×aV×St,(∀Q,KE C Q p.1 p.2.1 p.2.2→KE C Q K e s)∧∃s,p=(.c (.loop q.1.1)::q.1.2,.normal,s)∧Re C s q.2 from⟨p,hp,hq⟩) _ _ _ _ h (rH obs)
 obtain⟨p,hp,s',rfl,hre⟩:=key
 obtain⟨r,hr⟩:=AX.loop (C:=C) (Q:=fun r=>KE C (Q r) L.2) st ok μ x0 hre h0 fun x hx=>AX.frames (hs x hx)
 exact⟨r,hp _ hr⟩
abbrev GoR:=Option ((List Fr×aV×St)×List Cl×List Cl)
def exOf (r:GoR):aV:=match r with
 |some ((_,e,_),_,_)=>e
 |none=>.normal
def stOf (r:GoR):St:=match r with
 |some ((_,_,s),_,_)=>s
 |none=>⟨[],[],0⟩
def Y1 (r:GoR):Option (List Cl×List Cl):=match r with
 |some (([],.exit _,_),c,e)=>some (c,e)
 |some (([],.ret,_),c,e)=>some (c,e)
 |some (([],.panic _,_),c,e)=>some (c,e)
 |_=>none
theorem ad5 (hm:C.P.prog.follows .mixedOrders=true)(ai:aF C ev){α:Type}{st:α→St}{P:α→Prop}{Q:R→aV→St→Prop}{once:List Nat}{n:Nat}{K:List Fr}{e:aV}{s:St}(obs:List (Ob ev))(h:Y1 (goK C f once 100000 n K e s (vals obs))=some ([],vals obs))
  (k:∃r,Q r (exOf (goK C f once 100000 n K e s (vals obs))) (stOf (goK C f once 100000 n K e s (vals obs)))):∃o,KE C (C5 C st P Q o) K e s:=by
 have hv:=rH obs
 obtain⟨r,hr⟩:=k
 refine⟨.inr r, ?_⟩
 cases hg:goK C f once 100000 n K e s (vals obs) with
 |none=>rw[hg] at h;cases h
 | some q=>
  obtain⟨⟨K',e',s'⟩,c,em⟩:=q
  rw[hg] at h hr
  cases K' with
  |cons=>cases h
  |nil=>
   cases e' with
   |normal=>cases h
   |exit i=>cases h;exact wF hm ai _ _ _ _ _ _ _ _ hg hv _ hr
   |ret=>cases h;exact wF hm ai _ _ _ _ _ _ _ _ hg hv _ hr
   |panic v=>cases h;exact wF hm ai _ _ _ _ _ _ _ _ hg hv _ hr
def atO (n:Nat)(S ks:List Nm)(live:List Nat)(T:Nat)(p:List Fr×aV×St):M ((Code×List Fr)×St):=match p with
 |(.c x::K,.normal,s)=>cB (Jv n S ks live T s) fun s=>fP ((x,K),s)
 |_=>mg
theorem aaU {n T:Nat}{S ks:List Nm}{live:List Nat}{p:List Fr×aV×St}:MP ev (atO n S ks live T p) fun q=>∃s,p=(.c q.1.1::q.1.2,.normal,s)∧Re C s q.2:=by
 unfold atO
 split
 · exact MP.bind De fun s2 h=>MP.ret ⟨_,rfl,h⟩
 · exact MP.no
theorem Io (hm:C.P.prog.follows .mixedOrders=true)(ai:aF C ev)(B:Code)(stop:Nat){once:List Nat}{n k T:Nat}{S ks:List Nm}{live:List Nat}{K:List Fr}{e:aV}{s:St}{Q:R→aV→St→Prop}{x:Code}{K':List Fr}(hL:ad4 B stop=(x,K'))(s2:St)(obs:List (Ob ev))
  (h:cB (goK C f once stop n K e s) (atO k S ks live T) (vals obs)=some ((ad4 B stop,s2),[],vals obs))(k:AX C x s2 fun r=>KE C (Q r) K'):∃r,KE C (Q r) K e s:=by
 rw[hL] at h
 have key:∃p:List Fr×aV×St,(∀Q,KE C Q p.1 p.2.1 p.2.2→KE C Q K e s)∧∃s,p=(.c x::K',.normal,s)∧Re C s s2:=
  MP.bind (wF hm ai n K e s) (fun p hp=>aaU.mono fun q hq=>show ∃p:List Fr×aV×St,(∀Q,KE C Q p.1 p.2.1 p.2.2→KE C Q K e s)∧∃s,p=(.c q.1.1::q.1.2,.normal,s)∧Re C s q.2 from⟨p,hp,hq⟩) _ _ _ _ h (rH obs)
 obtain⟨p,hp,s',rfl,hre⟩:=key
 obtain⟨r,hr⟩:=k
 exact⟨r,hp _ (AW.re hre hr)⟩
theorem aL (b:Bool):b=true∨b=false:=by cases b<;>simp
theorem kF (hm:C.P.prog.follows .mixedOrders=true)(ai:aF C ev){fn:Func}{m:Nat}{r:bG}{K:List Fr}{e:aV}{s:St}(obs:List (Ob ev))(h:cB (goK C 0 [] 100000 3000 K e s) (Xt C fn m) (vals obs)=some (r,[],vals obs)):KE C (cv C fn m r) K e s:=Qa hm ai obs h
theorem kO (hm:C.P.prog.follows .mixedOrders=true)(ai:aF C ev){α:Type}{st:α→St}{P:α→Prop}{Q:R→aV→St→Prop}{K:List Fr}{e:aV}{s:St}(obs:List (Ob ev))(h:Y1 (goK C 0 [] 100000 3000 K e s (vals obs))=some ([],vals obs))
  (k:∃r,Q r (exOf (goK C 0 [] 100000 3000 K e s (vals obs))) (stOf (goK C 0 [] 100000 3000 K e s (vals obs)))):∃o,KE C (C5 C st P Q o) K e s:=ad5 hm ai obs h k
theorem ou (l:List Tree)(i:Nat)(h:i<l.length):∃e,l[i]?=some e:=⟨_,List.getElem?_eq_getElem h⟩
end rules
attribute [irreducible] goK KE stOf exOf
end Go.Abs
