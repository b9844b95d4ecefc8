/- Whole paths by the kernel: the interpreter asks for what it cannot tell (truths, answers of calls, elements of lists), and what it was told is proved beside. -/
import Derived.Test.YtijfhoelihclbaaGreatDoorS
noncomputable section
namespace Go.Abs
open Go
set_option linter.unusedVariables false
inductive Cl where
 |b (x c:Bool)
 |r (g:FuncId) (amC:List TV) (os:List aV) (x:bG)
 |e (l:List Tree) (i:Nat) (x:Tree)
 |y (s:List UInt8) (i:Nat) (x:UInt8)
 |v (x y:TV)
 |n (o:aV)
 |z
 |u (ag:Bool) (sz:Nat) (es:List Tree)
 |w (ag:Bool) (sz:Nat) (fs:List Tree) (len:Nat) (cs:List TV)
 |l (a b:Nat)
 |pp (p:Prop)
 |po (x:Option TV) (v:TV)
 |pc (x y:List TV)
 |pm (x:Option (List (TV×TV×Nat)×Nat)) (y:List (TV×TV×Nat)) (c:Nat)
def Cl.holds (ev:aW):Cl→Prop
 |.b p q=>p=q
 |.r g amC os q=>ev g amC os=some q
 |.e k i q=>k[i]?=some q
 |.y k i q=>k[i]?=some q
 |.v p q=>p=q
 |.n o=>∀σ,o.rn σ=some o
 |.z=>True
 |.u ag sz es=>cu ag sz es∧es≠ []
 |.w ag sz fs len cs=>cs=(flat fs).map TV.t∧len=fs.length∧cu ag sz fs
 |.l p q=>p≤q
 |.pp p=>p
 |.po p q=>p=some q
 |.pc p q=>p=q
 |.pm p q d=>p=some (q,d)
abbrev M (α:Type):=List Cl→Option (α×List Cl×List Cl)
section monad
variable {α β:Type}{ev:aW}
def gl (a:α):M α:=fun cl=>some (a,cl,[])
def mY:M α:=fun _=>none
def sN (x:Option α):M α:=fun cl=>match x with
 |some a=>some (a,cl,[])
 |none=>none
def cD (m:M α)(k:α→M β):M β:=fun cl=>match m cl with
 |some (a,cl1,e1)=>(match k a cl1 with
  |some (b,cl2,e2)=>some (b,cl2,e1++e2)
  |none=>none)
 |none=>none
def TG (x:Bool):M Bool:=fun cl=>match cl with
 |.b _ c::r=>some (c,r,[.b x c])
 |_=>none
def Ya (l:List Tree)(i:Nat):M Tree:=fun cl=>match cl with
 |.e _ _ x::r=>some (x,r,[.e l i x])
 |_=>none
def abK (s:List UInt8)(i:Nat):M UInt8:=fun cl=>match cl with
 |.y _ _ x::r=>some (x,r,[.y s i x])
 |_=>none
def abL (g:FuncId)(amC:List TV)(os:List aV):M bG:=fun cl=>match cl with
 |.r _ _ _ x::r=>some (x,r,[.r g amC os x])
 |_=>none
def QJ (v:TV):M TV:=fun cl=>match cl with
 |.v _ y::r=>some (y,r,[.v v y])
 |.z::r=>some (v,r,[.z])
 |_=>none
def abM (ag:Bool)(sz:Nat)(es:List Tree):M Unit:=fun cl=>match cl with
 |.u _ _ _::r=>some ((),r,[.u ag sz es])
 |_=>none
def TH (ag:Bool)(sz:Nat)(len:Nat)(cs:List TV):M (List Tree):=fun cl=>match cl with
 |.w _ _ fs _ _::r=>some (fs,r,[.w ag sz fs len cs])
 |_=>none
def MM (a b:Nat):M Unit:=fun cl=>match cl with
 |.l _ _::r=>some ((),r,[.l a b])
 |_=>none
def TJ (p:Prop):M Unit:=fun cl=>match cl with
 |.pp _::r=>some ((),r,[.pp p])
 |_=>none
def Yb (x:Option TV):M TV:=fun cl=>match cl with
 |.po _ v::r=>some (v,r,[.po x v])
 |_=>none
def abN (x:List TV):M (List TV):=fun cl=>match cl with
 |.pc _ y::r=>some (y,r,[.pc x y])
 |_=>none
def abO (x:Option (List (TV×TV×Nat)×Nat)):M (List (TV×TV×Nat)×Nat):=fun cl=>match cl with
 |.pm _ y c::r=>some ((y,c),r,[.pm x y c])
 |_=>none
def ew (ev:aW)(m:M α)(x:Option α):Prop:=∀cl a Cb em,m cl=some (a,Cb,em)→(∀c∈em,c.holds ev)→x=some a
theorem ew.ret (a:α):ew ev (gl a) (some a):=fun cl b Cb em h _=>by cases h;rfl
theorem ew.no {x:Option α}:ew ev mY x:=fun cl b Cb em h _=>by cases h
theorem ew.opt (x:Option α):ew ev (sN x) x:=fun cl b Cb em h _=>by
 cases x with
 |none=>cases h
 |some a=>cases h;rfl
theorem ew.bind {m:M α}{x:Option α}{k:α→M β}{y:α→Option β}(hm:ew ev m x)(hk:∀a,x=some a→ew ev (k a) (y a)):ew ev (cD m k) (x.bind y):=fun cl b Cb em h he=>by
  unfold cD at h
  split at h
  · rename_i a cl1 e1 h1
    split at h
    · rename_i b' cl2 e2 h2
      cases h
      have hx:=hm _ _ _ _ h1 fun c hc=>he c (List.mem_append_left _ hc)
      rw[hx]
      exact hk a hx _ _ _ _ h2 fun c hc=>he c (List.mem_append_right _ hc)
    · cases h
  · cases h
theorem ew.of_eq {m:M α}{x y:Option α}(h:ew ev m x)(e:x=y):ew ev m y:=e▸h
theorem DN (x:Bool):ew ev (TG x) (some x):=fun cl a Cb em h he=>by
 unfold TG at h
 split at h
 · cases h;have:=he _ (List.mem_singleton_self _);exact congrArg some this
 · cases h
theorem J8 (l:List Tree)(i:Nat):ew ev (Ya l i) l[i]?:=fun cl a Cb em h he=>by
 unfold Ya at h
 split at h
 · cases h;exact he _ (List.mem_singleton_self _)
 · cases h
theorem TK (s:List UInt8)(i:Nat):ew ev (abK s i) s[i]?:=fun cl a Cb em h he=>by
 unfold abK at h
 split at h
 · cases h;exact he _ (List.mem_singleton_self _)
 · cases h
theorem TL (g:FuncId)(amC:List TV)(os:List aV):ew ev (abL g amC os) (ev g amC os):=fun cl a Cb em h he=>by
 unfold abL at h
 split at h
 · cases h;exact he _ (List.mem_singleton_self _)
 · cases h
theorem zl (v:TV):ew ev (QJ v) (some v):=fun cl a Cb em h he=>by
 unfold QJ at h
 split at h
 · cases h;have:=he _ (List.mem_singleton_self _);exact congrArg some this
 · cases h;rfl
 · cases h
def MP (ev:aW)(m:M α)(P:α→Prop):Prop:=∀cl a Cb em,m cl=some (a,Cb,em)→(∀c∈em,c.holds ev)→P a
theorem MP.ret {a:α}{P:α→Prop}(h:P a):MP ev (gl a) P:=fun cl b Cb em hm _=>by cases hm;exact h
theorem MP.no {P:α→Prop}:MP ev mY P:=fun cl b Cb em h _=>by cases h
theorem MP.Xv {m:M α}{x:Option α}(h:ew ev m x):MP ev m fun a=>x=some a:=h
theorem MP.mono {m:M α}{P Q:α→Prop}(h:MP ev m P)(k:∀a,P a→Q a):MP ev m Q:=fun cl a Cb em hm he=>k a (h cl a Cb em hm he)
theorem MP.bind {m:M α}{P:α→Prop}{k:α→M β}{Q:β→Prop}(hm:MP ev m P)(hk:∀a,P a→MP ev (k a) Q):MP ev (cD m k) Q:=fun cl b Cb em h he=>by
  unfold cD at h
  split at h
  · rename_i a cl1 e1 h1
    split at h
    · rename_i b' cl2 e2 h2
      cases h
      exact hk a (hm _ _ _ _ h1 fun c hc=>he c (List.mem_append_left _ hc)) _ _ _ _ h2 fun c hc=>he c (List.mem_append_right _ hc)
    · cases h
  · cases h
theorem Yc {ag:Bool}{sz:Nat}{es:List Tree}:MP ev (abM ag sz es) fun _=>cu ag sz es∧es≠ []:=fun cl a Cb em h he=>by
 unfold abM at h
 split at h
 · cases h;exact he _ (List.mem_singleton_self _)
 · cases h
theorem HD {ag:Bool}{sz len:Nat}{cs:List TV}:MP ev (TH ag sz len cs) fun fs=>cs=(flat fs).map TV.t∧len=fs.length∧cu ag sz fs:=fun cl a Cb em h he=>by
 unfold TH at h
 split at h
 · cases h;exact he _ (List.mem_singleton_self _)
 · cases h
theorem zm {x y:Nat}:MP ev (MM x y) fun _=>x≤y:=fun cl a Cb em h he=>by
 unfold MM at h
 split at h
 · cases h;exact he _ (List.mem_singleton_self _)
 · cases h
theorem HE {p:Prop}:MP ev (TJ p) fun _=>p:=fun cl a Cb em h he=>by
 unfold TJ at h
 split at h
 · cases h;exact he _ (List.mem_singleton_self _)
 · cases h
theorem Oq {x:Option TV}:MP ev (Yb x) fun v=>x=some v:=fun cl a Cb em h he=>by
 unfold Yb at h
 split at h
 · cases h;exact he _ (List.mem_singleton_self _)
 · cases h
theorem Yd {x:List TV}:MP ev (abN x) fun y=>x=y:=fun cl a Cb em h he=>by
 unfold abN at h
 split at h
 · cases h;exact he _ (List.mem_singleton_self _)
 · cases h
theorem Ye {x:Option (List (TV×TV×Nat)×Nat)}:MP ev (abO x) fun y=>x=some y:=fun cl a Cb em h he=>by
 unfold abO at h
 split at h
 · cases h;exact he _ (List.mem_singleton_self _)
 · cases h
end monad
section ops
variable {ev:aW}{C:dI}{f:FuncId}
def Ct (ops:Array Oper)(slots:List TV)(o:Oper):M Bool:=
 match o.guard with
 |none=>gl true
 | some (j,want)=>match(ops[j]?).bind (·.dst) with
  |none=>gl false
  |some d=>match slots[d]? with
   |some (.t (.bool b))=>cD (TG b) fun c=>gl (c==want)
   |some (.t (.bX []))=>gl false
   |none=>gl false
   |_=>mY
theorem DO (ops:Array Oper)(slots:List TV)(o:Oper):ew ev (Ct ops slots o) (dR ops slots o):=by
 unfold Ct dR
 cases o.guard with
 |none=>exact ew.ret _
 | some p=>
  obtain⟨j,want⟩:=p
  simp only
  cases (ops[j]?).bind (·.dst) with
  |none=>exact ew.ret _
  |some d=>
   simp only
   generalize slots[d]?=z
   split
   · exact ew.bind (x:=some _) (y:=fun c=>some (c==want)) (DN _) fun c _=>ew.ret _
   · exact ew.ret _
   · exact ew.ret _
   · exact ew.no
mutual
def HF:TV→Bool
 |.ref _ _ _=>true
 |.agg cs=>hasRefs cs
 |.bX cs=>hasRefs cs
 |.iface _ v=>HF v
 |_=>false
def hasRefs:List TV→Bool
 | []=>false
 |v::r=>HF v||hasRefs r
end
def Ot (g:TV→M (Tree×List Nm)):List TV→M (List Tree×List Nm)
 | []=>gl ([],[])
 |v::r=>cD (g v) fun p=>cD (Ot g r) fun q=>gl (p.1::q.1,p.2++q.2)
def QK (H:Heap):Nat→TV→M (Tree×List Nm)
 |0,v=>sN (pV H 0 v)
 | n+1,v=>match v with
  |.ref k 0 len=>(match H.get k with
   |some (.arr g b8 fz cs)=>if 0<b8 then cD (TH g.2 b8 len cs) fun fs=>gl (.sl fs,[k]) else mY
   |_=>mY)
  |.agg cs=>cD (Ot (QK H n) cs) fun p=>gl (.agg p.1,p.2)
  |.bX cs=>cD (Ot (QK H n) cs) fun p=>gl (.bX p.1,p.2)
  |v=>sN (pV H (n+1) v)
theorem HH {g:TV→M (Tree×List Nm)}{g':TV→Option (Tree×List Nm)}(h:∀v,MP ev (g v) fun p=>g' v=some p):∀(l:List TV),MP ev (Ot g l) fun p=>yh g' l=some p
 | []=>MP.ret rfl
 |v::r=>MP.bind (h v) fun p hp=>MP.bind (HH h r) fun q hq=>MP.ret (by simp only[yh,hp,hq])
theorem HI (H:Heap):∀(n:Nat) (v:TV),MP ev (QK H n v) fun p=>pV H n v=some p
  |0,v=>MP.Xv (ew.opt _)
  | n + 1,v=>by
    unfold QK
    split
    · rename_i k len
      split
      · rename_i g b8 fz cs hk
        split
        · rename_i hz
          refine MP.bind HD fun fs hf=>MP.ret ?_
          obtain⟨rfl,rfl,hu⟩:=hf
          obtain⟨g1,g2⟩:=g
          exact Hp hk hu hz rfl
        · exact MP.no
      · exact MP.no
    · rename_i cs
      exact MP.bind (HH (HI H n) cs) fun p hp=>MP.ret (by simp only[pV,hp])
    · rename_i cs
      exact MP.bind (HH (HI H n) cs) fun p hp=>MP.ret (by simp only[pV,hp])
    · exact MP.Xv (ew.opt _)
def DR (H:Heap):List TV→M (List TV×List Nm)
 | []=>gl ([],[])
 | v::r=>cD (DR H r) fun p=>match HF v with
  |true=>cD (QK H jv v) fun q=>gl (.t q.1::p.1,q.2++p.2)
  |false=>gl (match pV H jv v with
   |some (x,k)=>(.t x::p.1,k++p.2)
   |none=>(v::p.1,p.2))
theorem DT (H:Heap):∀(l:List TV),MP ev (DR H l) fun p=>jC H l=p
  | []=>MP.ret rfl
  | v ::r=>by
    refine MP.bind (DT H r) fun p hp=> ?_
    split
    · refine MP.bind (HI H jv v) fun q hq=>MP.ret ?_
      simp only[jC,hp,hq]
    · refine MP.ret ?_
      simp only[jC,hp]
      cases pV H jv v<;>rfl
def DU (H:Heap)(p:List TV×List Nm):Option (List TV×List aV):=
 let H1:=H.ei (dF H p.2)
 match reach H1 fL [] (TV.kS p.1) with
 |none=>none
 | some S=>if S.Nodup then(match TV.xu (RF S) p.1,jN H1 S S with
   |some amC,some os=>some (amC,os)
   |_,_=>none) else none
def F9 (ev:aW)(H:Heap)(g:FuncId)(p:List TV×List Nm)(t:Nat):Option xw:=
 let H1:=H.ei (dF H p.2)
 match reach H1 fL [] (TV.kS p.1) with
 |none=>none
 | some S=>
  if S.Nodup then
   match TV.xu (RF S) p.1,jN H1 S S with
   | some amC,some os=>
    match ev g amC os with
    |some (.ret v os' news)=>match v.rn (lY S t),jf S t S os',iG S t news with
     |some v,some h,some h'=>some (.val v ((dF H p.2).filter (fun q=> !(S.contains q.1))++h++h'))
     |_,_,_=>none
    |some (.panic v os')=>match v.rn (lY S t),l9 S t S os' with
     |some v,some (h,lost)=>some (.panic v ((dF H p.2).filter (fun q=> !(S.contains q.1))++h) lost)
     |_,_=>none
    |none=>none
   |_,_=>none
  else none
theorem Yf (H:Heap)(args:List TV)(g:FuncId)(t:Nat):qc ev H g args t=F9 ev H g (jC H args) t:=by
 unfold qc F9
 generalize jC H args=p
 obtain⟨a,b⟩:=p
 rfl
theorem MN {H:Heap}{p:List TV×List Nm}{g:FuncId}{t:Nat}{amC:List TV}{os:List aV}{x:bG}(h:DU H p=some (amC,os))(he:ev g amC os=some x):F9 ev H g p t=F9 (fun _ _ _=>some x) H g p t:=by
  unfold DU at h
  unfold F9
  simp only at h ⊢
  split at h
  · cases h
  · rename_i S hS
    split at h
    · rename_i hn
      rw[if_pos hn,if_pos hn]
      split at h
      · rename_i a b h1 h2
        cases h
        simp only[he]
      · cases h
    · cases h
def TM (H:Heap)(g:FuncId)(args:List TV)(t:Nat):M xw:=cD (DR H args) fun p=>match DU H p with
 |none=>mY
 |some (amC,os)=>cD (abL g amC os) fun x=>sN (F9 (fun _ _ _=>some x) H g p t)
theorem J9 (H:Heap)(g:FuncId)(args:List TV)(t:Nat):ew ev (TM H g args t) (qc ev H g args t):=by
  refine MP.bind (DT H args) fun p hp=> ?_
  split
  · exact MP.no
  · rename_i amC os h
    refine MP.bind (MP.Xv (TL g amC os)) fun x hx=>(MP.Xv (ew.opt _)).mono fun r hr=> ?_
    rw[Yf,hp,MN h hx]
    exact hr
def Yg:TV→Option Nat
 |.t (.int _ (.ofNat n))=>some n
 |_=>none
theorem Ou {v:TV}{n:Nat}(h:Yg v=some n):fU v=some n:=by
  unfold Yg at h
  split at h
  · cases h
    simp[fU]
  · cases h
def xP (P:lI)(H:Heap)(t:TypeId)(x i:TV):M TV:=
 match bn P t,Yg i with
 | some ti,some n=>(match ti.desc,x with
  |.slice elem,.t (.sl es)=>(match bn P elem with
   |some te=>cD (Ya es n) fun e=>sN (if e.cells.length=te.size then some (.kD e.cells 0) else none)
   |none=>mY)
  |.slice elem,.l7 es=>(match bn P elem with
   |some te=>cD (Ya es n) fun e=>sN (if e.cells.length=te.size then some (.kD e.cells 0) else none)
   |none=>mY)
  |.slice elem,.ref k 0 len=>(match bn P elem,H.get k with
   |some te,some (.arr g b8 _ cs)=>if te.size=b8∧0<b8 then cD (TH g.2 b8 len cs) fun _=>cD (MM (n+1) len) fun _=>gl (.kR k cs.length (n*b8)) else mY
   |_,_=>mY)
  |_,_=>sN (fE P H t x i))
 |_,_=>sN (fE P H t x i)
theorem Fc (P:lI)(H:Heap)(t:TypeId)(x i:TV):ew ev (xP P H t x i) (fE P H t x i):=by
  unfold xP
  split
  · rename_i ti n ht hn
    have hi:=Ou hn
    split
    · rename_i elem es hd
      split
      · rename_i te hte
        refine ew.of_eq (ew.bind (J8 es n) fun e _=>ew.opt _) ?_
        unfold fE
        rw[ht,hi]
        simp only[hd,hte]
        cases es[n]? <;>rfl
      · exact ew.no
    · rename_i elem es hd
      split
      · rename_i te hte
        refine ew.of_eq (ew.bind (J8 es n) fun e _=>ew.opt _) ?_
        unfold fE
        rw[ht,hi]
        simp only[hd,hte]
        cases es[n]? <;>rfl
      · exact ew.no
    · rename_i elem k len hd
      split
      · rename_i te g b8 fz cs hte hk
        split
        · rename_i hc
          obtain⟨hc,hz⟩:=hc
          refine MP.bind HD fun fs hf=>MP.bind zm fun _ hl=>MP.ret ?_
          obtain⟨rfl,rfl,hu⟩:=hf
          have h2:nZ H k 0 fs.length=some (g,b8,fz,(flat fs).map .t):=by
            unfold nZ
            simp only[hk]
            rw[if_pos ⟨hz,by rw[Nat.zero_add,hu.length]⟩]
          unfold fE
          rw[ht,hi]
          simp only[hd,hte,h2,hc,Nat.zero_add]
          rw[if_pos ⟨trivial,hl⟩]
        · exact MP.no
      · exact MP.no
    · exact ew.opt _
  · exact ew.opt _
def TN (P:lI)(H:Heap)(t:TypeId)(a:TV):M TV:=match a with
 |.kR k m o=>(match bn P t,H.get k with
  |some ti,some (.arr _ _ _ cs)=>cD (TJ (cs.length=m)) fun _=>Yb (partT ti.agg ti.size cs o)
  |_,_=>mY)
 |a=>sN (loadT P H t a)
theorem TP (P:lI)(H:Heap)(t:TypeId)(a:TV):ew ev (TN P H t a) (loadT P H t a):=by
  unfold TN
  split
  · rename_i k m o
    split
    · rename_i ti g b8 fz cs ht hk
      refine MP.bind HE fun _ hm=>Oq.mono fun v hv=> ?_
      subst hm
      simp only[loadT,ht,s6,hk,if_true]
      exact hv
    · exact MP.no
  · exact ew.opt _
def MO (P:lI)(H:Heap)(t:TypeId)(a x:TV):M (List (Nm×aV)):=match a with
 | .kR k m o=>(match bn P t,H.get k with
  |some ti,some (.arr g b8 false cs)=>(match decide (x.cells.length=ti.size)&&x.cells.all TV.leaf with
   |true=>cD (TJ (cs.length=m)) fun _=>cD (MM (o+ti.size) cs.length) fun _=>cD (abN (ez cs o x.cells)) fun cs'=>gl [(k,.arr g b8 false cs')]
   |false=>mY)
  |_,_=>mY)
 |a=>sN (storeT P H t a x)
theorem QL (P:lI)(H:Heap)(t:TypeId)(a x:TV):ew ev (MO P H t a x) (storeT P H t a x):=by
  unfold MO
  split
  · rename_i k m o
    split
    · rename_i ti g b8 cs ht hk
      split
      · rename_i hb
        refine MP.bind HE fun _ hm=>MP.bind zm fun _ hl=>MP.bind Yd fun cs' hc=>MP.ret ?_
        subst hm hc
        exact sta ht hk hb hl
      · exact MP.no
    · exact MP.no
  · exact ew.opt _
def HJ (H:Heap)(a:TV)(n:Nat):M TV:=match a with
 |.kR k m o=>(match H.get k with
  |some (.arr _ _ _ cs)=>cD (TJ (cs.length=m)) fun _=>gl (.kR k m (o+n))
  |_=>mY)
 |a=>sN (p8 H a n)
theorem MQ (H:Heap)(a:TV)(n:Nat):ew ev (HJ H a n) (p8 H a n):=by
  unfold HJ
  split
  · rename_i k m o
    split
    · rename_i g b8 fz cs hk
      refine MP.bind HE fun _ hm=>MP.ret ?_
      simp only[p8,hk,if_pos hm]
    · exact MP.no
  · exact ew.opt _
def DV (P:lI)(H:Heap)(s i:Nat)(a:TV):M TV:=match eX P s i with
 |some off=>HJ H a off
 |none=>mY
def Ga (P:lI)(t:TypeId)(es:List (TV×TV×Nat))(k:TV)(ok:Bool):Option TV:=
 match bn P t with
 | some ti=>match ti.desc with
  | .map kt et=>match bn P kt,bn P et with
   | some tk,some te=>
    if uw P es.isEmpty kt k=true then
     match kW P kt tk.desc k es 0,te.zero with
     |some (some (_,v,_)),_=>some (if ok then q8 [v,.t (.bool true)] else v)
     |some none,some z=>some (if ok then q8 [z,.t (.bool false)] else z)
     |_,_=>none
    else none
   |_,_=>none
  |_=>none
 |none=>none
theorem abP {P:lI}{H:Heap}{t:TypeId}{k:TV}{ok:Bool}{m:Nm}{es:List (TV×TV×Nat)}{c:Nat}(hk:H.get m=some (.map es c)):pF P H t (.map m) k ok=Ga P t es k ok:=by
 unfold pF Ga
 simp only[mapOf,hk]
 cases bn P t with
 |none=>rfl
 |some ti=>
  simp only
  cases ti.desc<;>try rfl
  rename_i kt et
  simp only
  cases bn P kt<;>cases bn P et<;>rfl
def TQ (P:lI)(H:Heap)(t:TypeId)(x k:TV)(ok:Bool):M TV:=match x with
 |.map m=>(match H.get m with
  |some (.map es _)=>Yb (Ga P t es k ok)
  |_=>mY)
 |x=>sN (pF P H t x k ok)
theorem TR (P:lI)(H:Heap)(t:TypeId)(x k:TV)(ok:Bool):ew ev (TQ P H t x k ok) (pF P H t x k ok):=by
  unfold TQ
  split
  · split
    · rename_i hk
      refine Oq.mono fun v hv=> ?_
      rw[abP hk];exact hv
    · exact MP.no
  · exact ew.opt _
def QM (P:lI)(t:TypeId)(es:List (TV×TV×Nat))(c:Nat)(k v:TV):Option (List (TV×TV×Nat)×Nat):=
 match bn P t with
 | some ti=>match ti.desc with
  | .map kt _=>match bn P kt with
   | some tk=>
    if uw P false kt k=true then
     match kW P kt tk.desc k es 0 with
     |some (some (i,_,b))=>some (es.set i (k,v,b),c)
     |some none=>some (es++[(k,v,c)],c+1)
     |none=>none
    else none
   |none=>none
  |_=>none
 |none=>none
theorem afa {P:lI}{H:Heap}{t:TypeId}{k v:TV}{m:Nm}{es:List (TV×TV×Nat)}{c:Nat}(hk:H.get m=some (.map es c)){p:List (TV×TV×Nat)×Nat}(h:QM P t es c k v=some p):jy P H t (.map m) k v=some [(m,.map p.1 p.2)]:=by
 unfold QM at h
 split at h<;>try (cases h;done)
 rename_i ti ht
 split at h<;>try (cases h;done)
 rename_i kt et hd
 split at h<;>try (cases h;done)
 rename_i tk RH
 split at h<;>try (cases h;done)
 rename_i hc
 unfold jy
 simp only[ht,hd,hk,RH,if_pos hc]
 split at h<;>cases h<;>simp_all
section
variable {P:lI}{ty kt et:TypeId}{ti tk te:TI}{s:List UInt8}{es:List (TV×TV×Nat)}
theorem Ka (ht:P.ty ty=some ti)(hd:ti.desc=.map kt et)(hk:P.ty kt=some tk)(hkd:tk.desc=.string)(he:P.ty et=some te)(hez:te.zero=some (.t (.int .i64 0)))(Qe:∀b,uw P b kt (.t (.str s))=true)(hS:SM es):
  ∃q:Int,Ga P ty es (.t (.str s)) false=some (.t (.int .i64 q)):=by
 obtain⟨r,hr,hv⟩:=DL (P:=P) (kt:=kt) (s:=s) hS 0
 cases r with
 |none=>exact⟨0,by simp only[Ga,bn,ht,hd,hk,he,Qe,if_true,hkd,hr,hez,Bool.false_eq_true,if_false]⟩
 |some p=>
  obtain⟨j,v,b⟩:=p
  obtain⟨q,rfl⟩:=hv j v b rfl
  exact⟨q,by simp only[Ga,bn,ht,hd,hk,he,Qe,if_true,hkd,hr,hez,Bool.false_eq_true,if_false]⟩
theorem Ov {v:Int}(ht:P.ty ty=some ti)(hd:ti.desc=.map kt et)(hk:P.ty kt=some tk)(hkd:tk.desc=.string)(Qe:∀b,uw P b kt (.t (.str s))=true)(hS:SM es)(c:Nat):
  ∃(es':List (TV×TV×Nat)) (c':Nat),SM es'∧QM P ty es c (.t (.str s)) (.t (.int .i64 v))=some (es',c'):=by
 obtain⟨r,hr,hv⟩:=DL (P:=P) (kt:=kt) (s:=s) hS 0
 cases r with
 |none=>exact⟨es++[(.t (.str s),.t (.int .i64 v),c)],c+1,hS.app _ _ _,by simp only[QM,bn,ht,hd,hk,Qe,if_true,hkd,hr]⟩
 |some p=>
  obtain⟨j,u,b⟩:=p
  exact⟨es.set j (.t (.str s),.t (.int .i64 v),b),c,hS.set _ _ _ _,by simp only[QM,bn,ht,hd,hk,Qe,if_true,hkd,hr]⟩
end
def abQ (P:lI)(H:Heap)(t:TypeId)(x k v:TV):M (List (Nm×aV)):=match x with
 |.map m=>(match H.get m with
  |some (.map es c)=>cD (abO (QM P t es c k v)) fun p=>gl [(m,.map p.1 p.2)]
  |_=>mY)
 |x=>sN (jy P H t x k v)
theorem Yh (P:lI)(H:Heap)(t:TypeId)(x k v:TV):ew ev (abQ P H t x k v) (jy P H t x k v):=by
  unfold abQ
  split
  · split
    · rename_i hk
      refine MP.bind Ye fun p hp=>MP.ret ?_
      exact afa hk hp
    · exact MP.no
  · exact ew.opt _
def MS (P:lI)(t:TypeId)(x i:TV):M TV:=
 match bn P t,Yg i with
 |some ti,some n=>(match ti.desc,x with
  |.string,.t (.str s)=>cD (abK s n) fun b=>gl (.t (.int .u8 b.toNat))
  |_,_=>sN (p9 P t x i))
 |_,_=>sN (p9 P t x i)
theorem QN (P:lI)(t:TypeId)(x i:TV):ew ev (MS P t x i) (p9 P t x i):=by
  unfold MS
  split
  · rename_i ti n ht hn
    have hi:=Ou hn
    split
    · rename_i s hd
      refine ew.of_eq (ew.bind (y:=fun b=>some (.t (.int .u8 b.toNat))) (TK s n) fun e _=>ew.ret _) ?_
      unfold p9
      rw[ht,hi]
      simp only[hd]
      cases s[n]? <;>rfl
    · exact ew.opt _
  · exact ew.opt _
def QO (m:M TV):M xw:=cD m fun v=>gl (.val v [])
theorem Cu {m:M TV}{x:Option TV}(h:ew ev m x):ew ev (QO m) (match xq x with
  |some (v,u)=>some (.val v u)
  |none=>none):=by
 refine ew.of_eq (ew.bind (y:=fun v=>some (.val v [])) h fun a _=>ew.ret _) ?_
 cases x<;>rfl
def abR:TV→Option (List Tree)
 |.t (.sl es)=>some es
 |.l7 es=>some es
 |_=>none
theorem Yi {v:TV}{es:List Tree}(h:abR v=some es):BM v es:=by
 unfold abR at h
 split at h
 · cases h;exact .inl rfl
 · cases h;exact .inr rfl
 · cases h
def abS ( P:lI)(nm:Nm)(H:Heap)(st xt:TypeId)(s x:TV):M (TV×List (Nm×aV)):=
 match bn P st with
 | some ti=>(match ti.desc with
  | .slice elem=>(match bn P elem,abR x with
   | some te,some es=>(match te.zero with
    | some z=>if te.size≠0∧z.cells.length=te.size∧te.bytes≠0∧st=xt then
      cD (abM te.agg te.size es) fun _=>(match s with
       |.aL=>cD (MM (es.length*te.bytes) dQ) fun _=>gl (.ref nm 0 es.length,[(nm,.arr (elem,te.agg) te.size false ((flat es).map .t))])
       |.l7 []=>cD (MM (es.length*te.bytes) dQ) fun _=>gl (.ref nm 0 es.length,[(nm,.arr (elem,te.agg) te.size false ((flat es).map .t))])
       |.ref k 0 len=>(match H.get k with
        | some (.arr g b8 fz cs)=>if g=(elem,te.agg)∧b8=te.size then cD (TH te.agg te.size len cs) fun fs=>cD (MM ((len+es.length) *te.bytes) dQ) fun _=>gl (.ref k 0 (fs++es).length,[(k,.arr (elem,te.agg) te.size fz ((flat (fs++es)).map .t))])
          else mY
        |_=>mY)
       |_=>mY)
     else mY
    |none=>mY)
   |_,_=>mY)
  |_=>mY)
 |none=>mY
theorem Yj      (C:dI)(nm:Nm)(H:Heap)(st xt:TypeId)(s x:TV):ew ev (abS C.P nm H st xt s x) (jS C.P nm H st xt s x):=by
  unfold abS
  split
  · rename_i ti ht
    split
    · rename_i elem hd
      split
      · rename_i te es hte hx
        have hv:=Yi hx
        split
        · rename_i z hz
          split
          · rename_i hc
            obtain⟨c1,c2,c3,rfl⟩:=hc
            have hA:uA C.P st elem te:=⟨⟨ti,ht,hd⟩,hte,z,hz,c1,c2,c3⟩
            refine MP.bind Yc fun _ hu=> ?_
            obtain⟨hu,hne⟩:=hu
            split
            · refine MP.bind zm fun _ hb=>MP.ret ?_
              exact ko hA (xL hv hu) (by simpa using hne) hu.nE (by simp only[if_pos hb])
            · refine MP.bind zm fun _ hb=>MP.ret ?_
              refine ko hA (xL hv hu) (by simpa using hne) hu.nE ?_
              have e:fG H te.agg te.size (.l7 [])=some (0,[]):=rfl
              simp only[e,Nat.zero_add,if_pos hb,List.nil_append]
            · rename_i k len
              split
              · rename_i g b8 fz cs hk
                split
                · rename_i hg
                  obtain⟨rfl,rfl⟩:=hg
                  refine MP.bind HD fun fs hf=>MP.bind zm fun _ hb=>MP.ret ?_
                  obtain⟨rfl,rfl,hf⟩:=hf
                  refine ko hA (xL hv hu) (by simpa using hne) hu.nE ?_
                  have h2:nZ H k 0 fs.length=some ((elem,te.agg),te.size,fz,(flat fs).map .t):=by
                    unfold nZ
                    simp only[hk]
                    rw[if_pos ⟨by omega,by rw[Nat.zero_add,hf.length]⟩]
                  simp only[h2,hb,and_self,if_true,flat,List.flatMap_append,List.map_append,List.length_append]
                · exact MP.no
              · exact MP.no
            · exact MP.no
          · exact MP.no
        · exact MP.no
      · exact MP.no
    · exact MP.no
  · exact MP.no
def Ow (C:dI)(f:FuncId)(H:Heap)(slots:List TV)(t:Nat)(o:Oper):M xw:=
 match o.op with
 |.call {callee:=.value fo,args,argTypes}=>(match jT C slots {callee:=.value fo,args,argTypes} with
  |some (g,amC)=>TM H g amC t
  |none=>mY)
 |.call {callee:=.invoke recv name,args,argTypes}=>(match Cj C H slots recv name args with
  |some (g,amC)=>TM H g amC t
  |none=>mY)
 |.pick c a b=>(match dB C slots c,dB C slots a,dB C slots b with
  |some (.t (.bool x)),some u,some v=>cD (TG x) fun c=>gl (.val (if c then u else v) [])
  |_,_,_=>mY)
 |.indexAddr ty x i=>(match dB C slots x,dB C slots i with
  |some x,some i=>QO (xP C.P H ty x i)
  |_,_=>mY)
 |.index ty x i=>(match dB C slots x,dB C slots i with
  |some x,some i=>QO (MS C.P ty x i)
  |_,_=>mY)
 |.load ty a=>(match dB C slots a with
  |some a=>QO (TN C.P H ty a)
  |_=>mY)
 |.store ty a x=>(match dB C slots a,dB C slots x with
  |some a,some x=>cD (MO C.P H ty a x) fun u=>gl (.val cz u)
  |_,_=>mY)
 |.fieldAddr s x i=>(match dB C slots x with
  |some a=>QO (DV C.P H s i a)
  |_=>mY)
 |.lookup ty x k ok=>(match dB C slots x,dB C slots k with
  |some x,some k=>QO (TQ C.P H ty x k ok)
  |_,_=>mY)
 |.mapUpdate ty x k v=>(match dB C slots x,dB C slots k,dB C slots v with
  |some x,some k,some v=>cD (abQ C.P H ty x k v) fun u=>gl (.val cz u)
  |_,_,_=>mY)
 | .call {callee:=.builtin .append,args,argTypes}=>(match args.toList,argTypes.toList with
  | [a,b],[ta,tb]=>(match dB C slots a,dB C slots b with
   |some x,some y=>cD (abS C.P (.loc [t]) H ta tb x y) fun p=>gl (.val p.1 p.2)
   |_,_=>mY)
  |_,_=>mY)
 |.call {callee:=.builtin .max, ..}=>(match bk C tD f H slots t o with
  |some (.val v u)=>cD (QJ v) fun v=>gl (.val v u)
  |_=>mY)
 |.call {callee:=.builtin .min, ..}=>(match bk C tD f H slots t o with
  |some (.val v u)=>cD (QJ v) fun v=>gl (.val v u)
  |_=>mY)
 |.binOp .add _ _ _ _=>(match bk C tD f H slots t o with
  |some (.val v u)=>cD (QJ v) fun v=>gl (.val v u)
  |_=>mY)
 |.binOp .sub _ _ _ _=>(match bk C tD f H slots t o with
  |some (.val v u)=>cD (QJ v) fun v=>gl (.val v u)
  |_=>mY)
 |_=>sN (bk C tD f H slots t o)
theorem Kb (H:Heap)(slots:List TV)(t:Nat)(o:Oper):ew ev (Ow C f H slots t o) (bk C ev f H slots t o):=by
  unfold Ow
  split
  · rename_i fo args ats ho
    unfold bk
    rw[ho]
    simp only
    split
    · rename_i g amC hc;rw[hc];exact J9 _ _ _ _
    · exact ew.no
  · rename_i fo nm args ats ho
    unfold bk
    rw[ho]
    simp only
    split
    · rename_i g amC hc;rw[hc];exact J9 _ _ _ _
    · exact ew.no
  · rename_i c a b ho
    split
    · rename_i x u v h1 h2 h3
      refine ew.of_eq (ew.bind (y:=fun c=>some (.val (if c then u else v) [])) (DN x) fun c _=>ew.ret _) ?_
      unfold bk
      rw[ho]
      simp only[evalOp,ho,h1,h2,h3]
      rfl
    · exact ew.no
  · rename_i ty x i ho
    split
    · rename_i a b h1 h2
      refine ew.of_eq (Cu (Fc C.P H ty a b)) ?_
      unfold bk
      rw[ho]
      simp only[evalOp,ho,h1,h2]
      rfl
    · exact ew.no
  · rename_i ty x i ho
    split
    · rename_i a b h1 h2
      refine ew.of_eq (Cu (QN C.P ty a b)) ?_
      unfold bk
      rw[ho]
      simp only[evalOp,ho,h1,h2]
      rfl
    · exact ew.no
  · rename_i ty a ho
    split
    · rename_i x h1
      refine ew.of_eq (Cu (TP C.P H ty x)) ?_
      unfold bk
      rw[ho]
      simp only[evalOp,ho,h1]
      rfl
    · exact ew.no
  · rename_i ty a x ho
    split
    · rename_i u v h1 h2
      refine ew.of_eq (ew.bind (y:=fun q=>some (.val cz q)) (QL C.P H ty u v) fun q _=>ew.ret _) ?_
      unfold bk
      rw[ho]
      simp only[evalOp,ho,h1,h2,yp]
      cases storeT C.P H ty u v<;>rfl
    · exact ew.no
  · rename_i s x i ho
    split
    · rename_i a h1
      refine MP.bind (P:=fun v=>∃off,eX C.P s i=some off∧p8 H a off=some v) ?_ fun v hv=>MP.ret ?_
      · unfold DV
        split
        · rename_i off h2
          exact(MP.Xv (MQ H a off)).mono fun v hv=>⟨off,h2,hv⟩
        · exact MP.no
      · obtain⟨off,h2,h3⟩:=hv
        unfold eX at h2
        split at h2<;>try (simp at h2;done)
        rename_i ti GV
        split at h2<;>try (simp at h2;done)
        rename_i fs hfs
        split at h2<;>try (simp at h2;done)
        rename_i fd XT
        split at h2<;>try (simp at h2;done)
        rename_i tf R8
        split at h2<;>try (simp at h2;done)
        rename_i hz
        simp at h2
        subst h2
        unfold bk
        rw[ho]
        simp only[evalOp,ho,h1,GV,hfs,XT,R8,if_neg hz,h3,xq,Option.map_some]
    · exact ew.no
  · rename_i ty x k ok ho
    split
    · rename_i a b h1 h2
      refine ew.of_eq (Cu (TR C.P H ty a b ok)) ?_
      unfold bk
      rw[ho]
      simp only[evalOp,ho,h1,h2]
      rfl
    · exact ew.no
  · rename_i ty x k v ho
    split
    · rename_i a b c h1 h2 h3
      refine ew.of_eq (ew.bind (y:=fun q=>some (.val cz q)) (Yh C.P H ty a b c) fun q _=>ew.ret _) ?_
      unfold bk
      rw[ho]
      simp only[evalOp,ho,h1,h2,h3,yp]
      cases jy C.P H ty a b c<;>rfl
    · exact ew.no
  · rename_i args ats ho
    split
    · rename_i a b ta tb ha hta
      split
      · rename_i x y hx hy
        refine ew.of_eq (ew.bind (y:=fun p=>some (.val p.1 p.2)) (Yj C (.loc [t]) H ta tb x y) fun p _=>ew.ret _) ?_
        unfold bk
        rw[ho]
        have h1:j4 C slots args.toList=some [x,y]:=by rw[ha];simp only[j4,hx,hy]
        have h2:od C (.loc [t]) H .append [ta,tb] [x,y]=jS C.P (.loc [t]) H ta tb x y:=by delta od;rfl
        simp only[evalOp,ho,h1,hta,h2]
        cases jS C.P (.loc [t]) H ta tb x y<;>rfl
      · exact ew.no
    · exact ew.no
  · rename_i amC ats ho
    have e:bk C tD f H slots t o=bk C ev f H slots t o:=by
      unfold bk;rw[ho]
    split
    · rename_i v u h
      refine ew.of_eq (ew.bind (y:=fun v=>some (.val v u)) (zl v) fun c _=>ew.ret _) ?_
      rw[← e,h];rfl
    · exact ew.no
  · rename_i amC ats ho
    have e:bk C tD f H slots t o=bk C ev f H slots t o:=by
      unfold bk;rw[ho]
    split
    · rename_i v u h
      refine ew.of_eq (ew.bind (y:=fun v=>some (.val v u)) (zl v) fun c _=>ew.ret _) ?_
      rw[← e,h];rfl
    · exact ew.no
  · rename_i ty x y r2 ho
    have e:bk C tD f H slots t o=bk C ev f H slots t o:=by
      unfold bk;rw[ho]
    split
    · rename_i v u h
      refine ew.of_eq (ew.bind (y:=fun v=>some (.val v u)) (zl v) fun c _=>ew.ret _) ?_
      rw[← e,h];rfl
    · exact ew.no
  · rename_i ty x y r2 ho
    have e:bk C tD f H slots t o=bk C ev f H slots t o:=by
      unfold bk;rw[ho]
    split
    · rename_i v u h
      refine ew.of_eq (ew.bind (y:=fun v=>some (.val v u)) (zl v) fun c _=>ew.ret _) ?_
      rw[← e,h];rfl
    · exact ew.no
  · rename_i h1 h2 h3 h4 h5 h6 h7 h8 h9 h10 h11 h12 h13 h14 h15
    have e:bk C tD f H slots t o=bk C ev f H slots t o:=by
      unfold bk
      split
      · rfl
      · rename_i fo args ats ho;exact absurd ho (h1 fo args ats)
      · rename_i r nm args ats ho;exact absurd ho (h2 r nm args ats)
      · rfl
    rw[← e]
    exact ew.opt _
def Yk (C:dI)(f:FuncId)(ops:Array Oper):List Oper→St→M (aP×St)
 | [],st=>gl (.normal,st)
 | o::r,st=>cD (Ct ops st.slots o) fun w=>match w with
  |false=>Yk C f ops r {st with slots:=fB st.slots o.dst cz,tick:=st.tick+1}
  |true=>cD (Ow C f st.H st.slots st.tick o) fun res=>match res with
   |.val v u=>Yk C f ops r {slots:=fB st.slots o.dst v,H:=st.H.ei u,tick:=st.tick+1}
   |.panic v u l=>gl (.panic v,{st with H:=(st.H.uH l).ei u,tick:=st.tick+1})
theorem HK (ops:Array Oper):∀(l:List Oper) (st:St),ew ev (Yk C f ops l st) (B1 C ev f ops l st)
  | [],st=>ew.ret _
  | o ::r,st=>by
    refine ew.of_eq (ew.bind (y:=fun w=>match w with
      |false=>B1 C ev f ops r {st with slots:=fB st.slots o.dst cz,tick:=st.tick+1}
      | true=>(bk C ev f st.H st.slots st.tick o).bind fun res=>match res with
        |.val v u=>B1 C ev f ops r {slots:=fB st.slots o.dst v,H:=st.H.ei u,tick:=st.tick+1}
        |.panic v u l=>some (.panic v,{st with H:=(st.H.uH l).ei u,tick:=st.tick+1})) (DO ops st.slots o) fun w _=> ?_) ?_
    · cases w with
      |false=>exact HK ops r _
      | true=>
        refine ew.bind (Kb st.H st.slots st.tick o) fun res _=> ?_
        cases res with
        |val v u=>exact HK ops r _
        |panic v u l=>exact ew.ret _
    · rw[ B1]
      cases dR ops st.slots o with
      |none=>rfl
      | some w=>
        cases w with
        |false=>rfl
        | true=>
          show(bk C ev f st.H st.slots st.tick o).bind _=_
          cases bk C ev f st.H st.slots st.tick o with
          |none=>rfl
          |some res=>cases res<;>rfl
def TS (bs:List Nat)(i:Nat):Option Nat→Bool
 |some j=>jg bs j i
 |none=>false
def Kc (C:dI)(ev:aW)(f:FuncId)(ops:Array Oper)(t0 i:Nat)(o:Oper)(s:wQ)(qV:Option Nat):Option Rec:=
 (dR ops s.slots o).bind fun w=>match w with
  |false=>some ⟨[],.unwanted⟩
  | true=>(PX C s.H s.slots o).bind fun fp=>(bk C ev f (ni s.H fp) s.slots (t0+i) o).bind fun res=>match res with
   |.val v u=>if qV.isSome=true&& !u.isEmpty then none else some ⟨fp,.val v u⟩
   |.panic v u l=>match qV with
    |some _=>none
    |none=>some ⟨fp,.panic v u l⟩
theorem abT (ops:Array Oper)(bs:List Nat)(t0 i:Nat)(o:Oper)(s:wQ)(qV:Option Nat):RT C ev f ops bs t0 i o s qV=bif TS bs i qV then some ⟨[],.yu⟩ else Kc C ev f ops t0 i o s qV:=by
 unfold RT Kc
 simp only[tJ,Du]
 have e:(match dR ops s.slots o with
   |none=>none
   |some false=>some ⟨[],.unwanted⟩
   | some true=>
    match PX C s.H s.slots o with
    |none=>none
    | some fp=>
     match bk C ev f (ni s.H fp) s.slots (t0+i) o with
     |none=>none
     |some (.val v u)=>if qV.isSome=true&& !u.isEmpty then none else some ⟨fp,.val v u⟩
     |some (.panic v u l)=>match qV with
      |some _=>none
      |none=>some ⟨fp,.panic v u l⟩:Option Rec)=Kc C ev f ops t0 i o s qV:=by
  unfold Kc
  cases dR ops s.slots o with
  |none=>rfl
  | some w=>
   cases w with
   |false=>rfl
   | true=>
    simp only[Option.bind_some]
    cases PX C s.H s.slots o with
    |none=>rfl
    |some fp=>
     simp only[Option.bind_some]
     cases bk C ev f (ni s.H fp) s.slots (t0+i) o with
     |none=>rfl
     |some res=>cases res<;>rfl
 unfold Kc at e
 cases qV with
 |none=>exact e
 |some j=>
  show(match jg bs j i with|true=>_|false=>_)=bif jg bs j i then _ else _
  cases jg bs j i with
  |true=>rfl
  |false=>exact e
def abU (C:dI)(f:FuncId)(ops:Array Oper)(bs:List Nat)(t0 i:Nat)(o:Oper)(s:wQ)(qV:Option Nat):M Rec:=
 match TS bs i qV with
 |true=>gl ⟨[],.yu⟩
 | false=>cD (Ct ops s.slots o) fun w=>match w with
  |false=>gl ⟨[],.unwanted⟩
  | true=>match PX C s.H s.slots o with
   |none=>mY
   | some fp=>cD (Ow C f (ni s.H fp) s.slots (t0+i) o) fun res=>match res with
    |.val v u=>if qV.isSome=true&& !u.isEmpty then mY else gl ⟨fp,.val v u⟩
    |.panic v u l=>match qV with
     |some _=>mY
     |none=>gl ⟨fp,.panic v u l⟩
theorem Yl (ops:Array Oper)(bs:List Nat)(t0 i:Nat)(o:Oper)(s:wQ)(qV:Option Nat):ew ev (abU C f ops bs t0 i o s qV) (RT C ev f ops bs t0 i o s qV):=by
 rw[abT]
 unfold abU
 cases TS bs i qV with
 |true=>exact ew.ret _
 | false=>
  refine ew.bind (DO ops s.slots o) fun w _=> ?_
  cases w with
  |false=>exact ew.ret _
  | true=>
   simp only
   cases PX C s.H s.slots o with
   |none=>exact ew.no
   | some fp=>
    refine ew.bind (Kb _ _ _ _) fun res _=> ?_
    cases res with
    |val v u=>
     simp only
     split
     · exact ew.no
     · exact ew.ret _
    |panic v u l=>
     cases qV with
     |none=>exact ew.ret _
     |some _=>exact ew.no
def TT (C:dI)(f:FuncId)(ops:Array Oper)(bs:List Nat)(t0:Nat):Nat→List Oper→wQ→Option Nat→M (List Rec)
 |_,[],_,_=>gl []
 |i,o::r,s,qV=>cD (abU C f ops bs t0 i o s qV) fun rec=>cD (TT C f ops bs t0 (i+1) r (s.after o rec.res) (j6 i qV rec.res)) fun rs=>gl (rec::rs)
theorem Ke (ops:Array Oper)(bs:List Nat)(t0:Nat):∀(l:List Oper) (i:Nat) (s:wQ) (qV:Option Nat),ew ev (TT C f ops bs t0 i l s qV) (B2 C ev f ops bs t0 i l s qV)
 | [],i,s,qV=>ew.ret _
 | o::r,i,s,qV=>by
  refine ew.of_eq (ew.bind (Yl ops bs t0 i o s qV) fun rec _=>ew.bind (y:=fun rs=>some (rec::rs)) (Ke ops bs t0 r (i+1) (s.after o rec.res) (j6 i qV rec.res)) fun rs _=>ew.ret _) ?_
  rw[B2]
  cases RT C ev f ops bs t0 i o s qV with
  |none=>rfl
  |some rec=>
   simp only[Option.bind_some]
   cases B2 C ev f ops bs t0 (i+1) r (s.after o rec.res) (j6 i qV rec.res)<;>rfl
def regionEnd (ops:Array Oper)(st:St)(recs:List Rec):Option (aP×St):=
 let l:=ops.toList
 let bs:=qW l []
 if lJ ops l recs bs l recs 0=true∧uV 0 l=true then
  let s:=yx l recs {slots:=st.slots,H:=st.H}
  match jU 0 recs with
  |none=>some (.normal,{slots:=s.slots,H:=s.H,tick:=st.tick+ops.size})
  |some (j,v,u,lost)=>
   some (.panic v,{slots:=st.slots,H:=(s.H.uH (lost++AK (bs.getD j 0) 0 (recs.take j))).ei u,tick:=st.tick+ops.size})
 else none
def Kf (C:dI)(f:FuncId)(ops:Array Oper)(st:St):M (aP×St):=
 cD (TT C f ops (qW ops.toList []) st.tick 0 ops.toList {slots:=st.slots,H:=st.H} none) fun recs=>sN (regionEnd ops st recs)
theorem Kg (ops:Array Oper)(st:St):ew ev (Kf C f ops st) (q9 C ev f ops st):=by
 refine ew.of_eq (ew.bind (Ke _ _ _ _ _ _ _) fun recs _=>ew.opt _) ?_
 unfold q9
 simp only
 cases B2 C ev f ops (qW ops.toList []) st.tick 0 ops.toList {slots:=st.slots,H:=st.H} none<;>rfl
def Ox (C:dI)(f:FuncId):Code→St→M (aP×St)
 |.skip,st=>gl (.normal,st)
 |.label _,st=>gl (.normal,st)
 |.region _ ops draw,st=>match draw with
  |true=>Kf C f ops st
  |false=>Yk C f ops ops.toList st
 |.exit id,st=>gl (.exit id,st)
 |.ret,st=>gl (.ret,st)
 |_,_=>mY
theorem TU {fuel:Nat}:∀(c:Code) (st:St),ew ev (Ox C f c st) (evalCode C ev f fuel c st):=by
 intro c st
 cases c with
 |skip=>exact ew.ret _
 |label l=>exact ew.ret _
 |region id ops draw=>
  cases draw with
  |true=>exact Kg ops st
  |false=>exact HK ops ops.toList st
 |exit id=>exact ew.ret _
 |ret=>exact ew.ret _
 |_=>exact ew.no
inductive Fr where
 |c (x:Code)
 |b (id:Nat)
 |x
def KE (C:dI)(Q:aP→St→Prop):List Fr→aP→St→Prop
 | [],e,s=>Q e s
 |.c x::K,.normal,s=>AW C x s (KE C Q K)
 |.c _::K,.exit i,s=>KE C Q K (.exit i) s
 |.c _::K,.ret,s=>KE C Q K .ret s
 |.c _::K,.panic v,s=>KE C Q K (.panic v) s
 |.b id::K,.exit i,s=>if i=id then KE C Q K .normal s else KE C Q K (.exit i) s
 |.b _::K,.normal,s=>KE C Q K .normal s
 |.b _::K,.ret,s=>KE C Q K .ret s
 |.b _::K,.panic v,s=>KE C Q K (.panic v) s
 |.x::_,.normal,_=>False
 |.x::K,.exit i,s=>KE C Q K (.exit i) s
 |.x::K,.ret,s=>KE C Q K .ret s
 |.x::K,.panic v,s=>KE C Q K (.panic v) s
theorem KE.seq {Q:aP→St→Prop}{a b:Code}{K:List Fr}{s:St}(h:KE C Q (.c a:: .c b::K) .normal s):KE C Q (.c (.seq a b)::K) .normal s:=by
 refine AW.seq (AW.mono h fun e s' h=> ?_)
 cases e with
 |normal=>exact h
 |_=>exact h
theorem KE.block {Q:aP→St→Prop}{id:Nat}{x:Code}{K:List Fr}{s:St}(h:KE C Q (.c x:: .b id::K) .normal s):KE C Q (.c (.block id x)::K) .normal s:=by
 refine AW.block (AW.mono h fun e s' h=> ?_)
 cases e with
 |exit i=>exact h
 |_=>exact h
theorem KE.cond {Q:aP→St→Prop}{c:Operand}{a b:Code}{K:List Fr}{s:St}{q:Bool}(hc:dB C s.slots c=some (.t (.bool q)))(h:KE C Q (.c (cond q a b)::K) .normal s):KE C Q (.c (.cond c a b)::K) .normal s:=by
 cases q with
 |true=>exact AW.cond hc (fun _=>h) fun e=>by cases e
 |false=>exact AW.cond hc (fun e=>by cases e) fun _=>h
theorem KE.once {Q:aP→St→Prop}{b:Code}{K:List Fr}{s:St}(h:KE C Q (.c b:: .x::K) .normal s):KE C Q (.c (.loop b)::K) .normal s:=by
 refine AW.loop (α:=Unit) (fun _=>s) (fun _=>True) (fun _=>0) () (Re.refl s) trivial fun _ _=>AW.mono h fun e s' h=> ?_
 cases e with
 |normal=>exact h.elim
 |_=>exact h
def vE:Code→Option Nat
 |.seq a b=>(vE a).or (vE b)
 |.cond _ a b=>(vE a).or (vE b)
 |.block _ c=>vE c
 |.loop c=>vE c
 |.region id _ _=>some id
 |_=>none
def isIn (l:List Nat):Option Nat→Bool
 |some r=>l.any (Nat.beq r)
 |none=>false
def goK (C:dI)(f:FuncId)(once:List Nat)(stop:Nat):Nat→List Fr→aP→St→M (List Fr×aP×St)
 |0,_,_,_=>mY
 |_+1,[],e,s=>gl ([],e,s)
 |n+1,.x::K,e,s=>match e with
  |.normal=>mY
  |e=>goK C f once stop n K e s
 | n+1,.b id::K,e,s=>match e with
  |.exit i=>(match Nat.beq i id with
   |true=>goK C f once stop n K .normal s
   |false=>goK C f once stop n K (.exit i) s)
  |e=>goK C f once stop n K e s
 | n+1,.c x::K,e,s=>match e with
  | .normal=>(match x with
   |.seq a b=>goK C f once stop n (.c a:: .c b::K) .normal s
   |.block id x=>goK C f once stop n (.c x:: .b id::K) .normal s
   |.loop x=>(match isIn once (vE x) with
    |true=>goK C f once stop n (.c x:: .x::K) .normal s
    |false=>gl (.c (.loop x)::K,.normal,s))
   |.cond c a b=>(match dB C s.slots c with
    |some (.t (.bool q))=>cD (TG q) fun q=>goK C f once stop n (.c (cond q a b)::K) .normal s
    |_=>mY)
   |.region id ops d=>(match Nat.beq id stop with
    |true=>gl (.c (.region id ops d)::K,.normal,s)
    |false=>cD (Ox C f (.region id ops d) s) fun p=>goK C f once stop n K p.1 p.2)
   |x=>cD (Ox C f x s) fun p=>goK C f once stop n K p.1 p.2)
  |e=>goK C f once stop n K e s
theorem vF (hm:C.P.prog.follows .mixedOrders=true)(ai:aF C ev){once:List Nat}{stop:Nat}:∀(n:Nat) (K:List Fr) (e:aP) (s:St),MP ev (goK C f once stop n K e s) fun p=>∀Q,KE C Q p.1 p.2.1 p.2.2→KE C Q K e s:=by
  intro n
  induction n with
  |zero=>intro K e s;exact MP.no
  | succ n ih =>
    intro K e s
    have code:∀(x:Code) (K:List Fr),MP ev (cD (Ox C f x s) fun p=>goK C f once stop n K p.1 p.2) fun p=>∀Q,KE C Q p.1 p.2.1 p.2.2→KE C Q (.c x::K) .normal s:=fun x K=>
      MP.bind (MP.Xv (TU (fuel:=0) x s)) fun p hx=>(ih K p.1 p.2).mono fun q hq Q hk=>AW.eval hm ai hx (hq Q hk)
    cases K with
    |nil=>exact MP.ret fun Q h=>h
    | cons fr K=>
      cases fr with
      | x=>
        cases e with
        |normal=>exact MP.no
        |exit i=>exact ih K (.exit i) s
        |ret=>exact ih K .ret s
        |panic v=>exact ih K (.panic v) s
      | b id=>
        cases e with
        | exit i=>
          cases hb:Nat.beq i id with
          | true=>
            simp only[goK,hb]
            refine(ih K .normal s).mono fun q hq Q hk=> ?_
            show if i=id then _ else _
            rw[if_pos (Nat.eq_of_beq_eq_true hb)]
            exact hq Q hk
          | false=>
            simp only[goK,hb]
            refine(ih K (.exit i) s).mono fun q hq Q hk=> ?_
            show if i=id then _ else _
            rw[if_neg (Nat.ne_of_beq_eq_false hb)]
            exact hq Q hk
        |normal=>exact ih K .normal s
        |ret=>exact ih K .ret s
        |panic v=>exact ih K (.panic v) s
      | c x =>
        cases e with
        |exit i=>exact ih K (.exit i) s
        |ret=>exact ih K .ret s
        |panic v=>exact ih K (.panic v) s
        | normal=>
          cases x with
          |seq a b=>exact(ih (.c a:: .c b::K) .normal s).mono fun q hq Q hk=>KE.seq (hq Q hk)
          |block id x=>exact(ih (.c x:: .b id::K) .normal s).mono fun q hq Q hk=>KE.block (hq Q hk)
          | loop x=>
            simp only[goK]
            split
            · exact(ih (.c x:: .x::K) .normal s).mono fun q hq Q hk=>KE.once (hq Q hk)
            · exact MP.ret fun Q h=>h
          | cond c a b=>
            simp only[goK]
            split
            · rename_i q hc
              refine MP.bind (MP.Xv (DN q)) fun q' hq'=>(ih (.c (cond q' a b)::K) .normal s).mono fun r hr Q hk=> ?_
              cases hq'
              exact KE.cond hc (hr Q hk)
            · exact MP.no
          | region id ops d=>
            simp only[goK]
            split
            · exact MP.ret fun Q h=>h
            · exact code _ _
          |skip=>exact code .skip K
          |rangeFunc a b c d=>exact code (.rangeFunc a b c d) K
          |exit i=>exact code (.exit i) K
          |scope b=>exact code (.scope b) K
          |label l=>exact code (.label l) K
          |goto l=>exact code (.goto l) K
          |ret=>exact code .ret K
          |refuse w=>exact code (.refuse w) K
end ops
abbrev Ob (ev:aW):={c:Cl // c.holds ev}
abbrev vals {ev:aW}(l:List (Ob ev)):List Cl:=l.map (·.1)
section obs
variable {ev:aW}
abbrev oT:Ob ev:=⟨.b true true,rfl⟩
abbrev oF:Ob ev:=⟨.b false false,rfl⟩
abbrev oB {x c:Bool}(h:x=c):Ob ev:=⟨.b x c,h⟩
abbrev oC {g:FuncId}{amC:List TV}{os:List aV}{x:bG}(h:ev g amC os=some x):Ob ev:=⟨.r g amC os x,h⟩
abbrev oE {l:List Tree}{i:Nat}{x:Tree}(h:l[i]?=some x):Ob ev:=⟨.e l i x,h⟩
abbrev oN {o:aV}(h:∀σ,o.rn σ=some o):Ob ev:=⟨.n o,h⟩
theorem p6 (l:List (Ob ev)):∀c∈vals l,c.holds ev:=fun c hc=>by
 obtain⟨o,_,rfl⟩:=List.mem_map.1 hc
 exact o.2
abbrev oU (ag:Bool)(sz:Nat)(es:List Tree)(h:cu ag sz es)(hn:es≠ []):Ob ev:=⟨.u ag sz es,h,hn⟩
abbrev oW (ag:Bool)(sz:Nat)(fs:List Tree)(h:cu ag sz fs):Ob ev:=⟨.w ag sz fs fs.length ((flat fs).map .t),rfl,rfl,h⟩
abbrev oA (a:Nat)(h:a≤70368744177664):Ob ev:=⟨.l a dQ,h⟩
abbrev oZ:Ob ev:=⟨.z,trivial⟩
abbrev oQ (l:List Tree):Ob ev:=⟨.pp (((flat l).map TV.t).length=((flat l).map TV.t).length),rfl⟩
abbrev oO {x:Option TV}{v:TV}(h:x=some v):Ob ev:=⟨.po x v,h⟩
abbrev oK {x y:List TV}(h:x=y):Ob ev:=⟨.pc x y,h⟩
abbrev oM {x:Option (List (TV×TV×Nat)×Nat)}{y:List (TV×TV×Nat)}{c:Nat}(h:x=some (y,c)):Ob ev:=⟨.pm x y c,h⟩
abbrev oH {l:List Tree}{i:Nat}{x:Tree}(h:l[i]?=some x):Ob ev:=⟨.l (i+1) l.length,(List.getElem?_eq_some_iff.1 h).1⟩
abbrev oR (a b:Nat)(h:a≤b):Ob ev:=⟨.l a b,h⟩
theorem Gb {sz:Nat}{es:List Tree}{i j m:Nat}{e:Tree}(hu:∀e∈es,e.cells.length=sz)(he:es[i]?=some e)(hj:j+m≤sz):i*sz+j+m≤((flat es).map TV.t).length:=by
 have hi:i<es.length:=(List.getElem?_eq_some_iff.1 he).1
 rw[List.length_map,iR hu]
 have:(i+1) *sz≤es.length*sz:=Nat.mul_le_mul_right _ hi
 rw[Nat.succ_mul] at this
 omega
abbrev oS (n:Nat)(h:1≤n)(h2:n<9223372036854775807):Ob ev:=⟨.v (.t (.int .i64 (IntKind.i64.wrap ((n:Int) - 1)))) (.t (.int .i64 ((n - 1:Nat):Int))),by
 show TV.t _=TV.t _
 rw[wrap64 (by omega) (by omega),show((n - 1:Nat):Int)=(n:Int) - 1 by omega]⟩
abbrev oG (k:IntKind)(a b:Int):Ob ev:=⟨.v (.t (.int k (if b>a then b else a))) (.t (.int k (max a b))),by
 show TV.t _=TV.t _
 rw[show(if b>a then b else a)=max a b from by rw[Int.max_def];split<;>split<;>omega]⟩
abbrev oI (n:Nat)(h:n<9223372036854775807):Ob ev:=⟨.v (.t (.int .i64 (IntKind.i64.wrap ((n:Int)+1)))) (.t (.int .i64 ((n+1:Nat):Int))),by
 show TV.t _=TV.t _
 rw[wrap64 (by omega) (by omega)];rfl⟩
end obs
def Ym (o:aV):M aV:=fun cl=>match cl with
 |.n _::r=>some (o,r,[.n o])
 |_=>none
def rnO (σ:Nm→Option Nm)(o:aV):M aV:=match o with
 |.arr g b8 fz cs=>Ym (.arr g b8 fz cs)
 |.map es c=>Ym (.map es c)
 |o=>sN (o.rn σ)
def Oy (S:List Nm)(slots:List TV):List Nat→Option (List (Nat×TV))
 | []=>some []
 | i::r=>match slots[i]?,Oy S slots r with
  |some v,some l=>(match v.rn (JI S) with
   |some v=>some ((i,v)::l)
   |none=>none)
  |_,_=>none
def Oz (S:List Nm)(H:Heap):List Nm→M Heap
 | []=>gl []
 |k::r=>match H.get k,JI S k with
  |some o,some k'=>cD (rnO (JI S) o) fun o=>cD (Oz S H r) fun h=>gl ((k',o)::h)
  |_,_=>mY
def DW (n:Nat)(S ks:List Nm)(live:List Nat)(T:Nat)(s:St):M St:=
 match Nat.beq s.slots.length n&&S.all Nm.gZ&&decide S.Nodup&&S.all (fun k=>(s.H.get k).isSome)&&Nat.ble S.length T,Oy S s.slots live with
 |true,some sp=>cD (Oz S s.H ks) fun H=>gl ⟨bH n sp,H,T⟩
 |_,_=>mY
section norm
variable {ev:aW}{C:dI}
theorem OA {σ:Nm→Option Nm}{o:aV}:MP ev (Ym o) fun o'=>o.rn σ=some o':=fun cl a Cb em h he=>by
 unfold Ym at h
 split at h
 · cases h;exact he _ (List.mem_singleton_self _) σ
 · cases h
theorem abV {σ:Nm→Option Nm}{o:aV}:MP ev (rnO σ o) fun o'=>o.rn σ=some o':=by
 unfold rnO
 split
 · exact OA
 · exact OA
 · exact MP.Xv (ew.opt _)
theorem Kh {S:List Nm}{slots:List TV}:∀{live:List Nat} {sp:List (Nat×TV)},Oy S slots live=some sp→∀i,look sp i=.any∨∃v,slots[i]?=some v∧v.rn (JI S)=some (look sp i)
  | [],sp,h,i=>by cases h;exact .inl rfl
  | j ::r,sp,h,i=>by
    simp only[Oy] at h
    split at h
    · rename_i v l h1 h2
      split at h
      · rename_i v' h3
        cases h
        rw[lN]
        by_cases e:i=j
        · subst e;rw[if_pos rfl];exact .inr ⟨v,h1,h3⟩
        · rw[if_neg e];exact Kh h2 i
      · cases h
    · cases h
theorem Ki {S:List Nm}{H:Heap}:∀{ks:List Nm},MP ev (Oz S H ks) fun H'=>Dh (JI S) H H'
  | []=>MP.ret trivial
  | k ::r=>by
    simp only[Oz]
    split
    · rename_i o k' h1 h2
      exact MP.bind abV fun o' ho=>MP.bind (Ki (ks:=r)) fun h hh=>MP.ret ⟨⟨k,o,h1,h2,.inl ho⟩,hh⟩
    · exact MP.no
theorem OB {σ:Nm→Option Nm}:∀{xs ys:List TV},xs.length=ys.length→(∀(i:Nat) (y:TV),ys[i]?=some y→y=TV.any∨∃x:TV,xs[i]?=some x∧x.rn σ=some y)→into σ xs ys
  | [],[],_,_=>trivial
  | x ::xs,y::ys,hl,h=>by
    refine⟨?_,OB (by simpa using hl) fun i y hy=> ?_⟩
    · rcases h 0 y rfl with e|⟨x',e1,e2⟩
      · exact .inl e
      · cases e1;exact .inr e2
    · rcases h (i+1) y (by simpa using hy) with e|⟨x',e1,e2⟩
      · exact .inl e
      · exact .inr ⟨x',by simpa using e1,e2⟩
  | [],_::_,hl,_=>by simp at hl
  |_::_,[],hl,_=>by simp at hl
theorem vG {n:Nat}{S ks:List Nm}{live:List Nat}{T:Nat}{s:St}:MP ev (DW n S ks live T s) fun s2=>Re C s s2:=by
  unfold DW
  split
  · rename_i sp hb hs
    refine MP.bind Ki fun H' h1=>MP.ret ?_
    simp only[Bool.and_eq_true] at hb
    obtain⟨⟨⟨⟨b1,b2⟩,b3⟩,b4⟩,b5⟩:=hb
    have hn:=Nat.eq_of_beq_eq_true b1
    obtain⟨slots,H,t⟩:=s
    refine Re.mk S (OB (by rw[fI];exact hn) fun i y hy=> ?_) h1 (of_decide_eq_true b3) b2 (fun k hk=>List.all_eq_true.1 b4 k hk) (Nat.le_of_ble_eq_true b5)
    have hi:i<n:=by have:=(List.getElem?_eq_some_iff.1 hy).1;simpa [fI] using this
    rw[lz hi] at hy
    cases hy
    exact Kh hs i
  · exact MP.no
end norm
section rules
variable {ev:aW}{C:dI}{f:FuncId}{R:Type}
theorem AX.frames {c:Code}{st:St}{Q:R→aP→St→Prop}(h:∃r,KE C (Q r) [.c c] .normal st):AX C c st Q:=h.imp fun _ h=>AW.mono h fun _ _ h=>h
def Yn (C:dI)(fn:Func)(n:Nat)(st:St)(v:TV)(ks:List Nm):Option bG:=
 let H:=st.H.ei (dF st.H ks)
 match mg H 0 n with
 |none=>none
 |some os=>match reach H fL [] (v.names++os.flatMap aV.names) with
  |none=>none
  |some R=>(j7 H R).map fun h=>.ret v os h
def Cv (C:dI)(fn:Func)(n:Nat)(st:St):M bG:=
 match iP C st fn.results.toList with
 |none=>mY
 |some vs=>(match HF (qd vs) with
  |true=>cD (QK st.H jv (qd vs)) fun p=>sN (Yn C fn n st (.t p.1) p.2)
  |false=>sN (finish C fn n st))
theorem Ge {fn:Func}{n:Nat}{st:St}:MP ev (Cv C fn n st) fun r=>finish C fn n st=some r:=by
  unfold Cv
  split
  · exact MP.no
  · rename_i vs hv
    split
    · refine MP.bind (HI st.H jv (qd vs)) fun p hp=>(MP.Xv (ew.opt _)).mono fun r hr=> ?_
      unfold finish
      simp only[hv,hp]
      exact hr
    · exact MP.Xv (ew.opt _)
def Yo (C:dI)(fn:Func)(m:Nat)(p:List Fr×aP×St):M bG:=match p with
 |([],.normal,s)=>Cv C fn m s
 |([],.ret,s)=>Cv C fn m s
 |([],.panic v,s)=>(match v.names.any Nm.gZ with
  |false=>gl (.panic v (ru s.H 0 m))
  |true=>mY)
 |_=>mY
theorem Yp {fn:Func}{m:Nat}{p:List Fr×aP×St}:MP ev (Yo C fn m p) fun r=>KE C (cB C fn m r) p.1 p.2.1 p.2.2:=by
  unfold Yo
  split
  · exact Ge.mono fun r h=>.inl h
  · exact Ge.mono fun r h=>.inl h
  · split
    · rename_i hv
      exact MP.ret ⟨hv,rfl⟩
    · exact MP.no
  · exact MP.no
theorem QS (hm:C.P.prog.follows .mixedOrders=true)(ai:aF C ev){fn:Func}{once:List Nat}{m n:Nat}{r:bG}{K:List Fr}{e:aP}{s:St}(obs:List (Ob ev))(h:cD (goK C f once 100000 n K e s) (Yo C fn m) (vals obs)=some (r,[],vals obs)):KE C (cB C fn m r) K e s:=
 MP.bind (vF hm ai n K e s) (fun p hp=>Yp.mono fun r hr=>hp _ hr) _ _ _ _ h (p6 obs)
def MT (n:Nat)(S ks:List Nm)(live:List Nat)(T:Nat)(p:List Fr×aP×St):M St:=match p with
 |([],.normal,s)=>DW n S ks live T s
 |_=>mY
theorem QT {n T:Nat}{S ks:List Nm}{live:List Nat}{p:List Fr×aP×St}:MP ev (MT n S ks live T p) fun s2=>KE C (fun e s=>e=.normal∧Re C s s2) p.1 p.2.1 p.2.2:=by
 unfold MT
 split
 · exact vG.mono fun s2 h=>⟨rfl,h⟩
 · exact MP.no
theorem bB (hm:C.P.prog.follows .mixedOrders=true)(ai:aF C ev){once:List Nat}{n k T:Nat}{S ks:List Nm}{live:List Nat}{s2:St}{K:List Fr}{e:aP}{s:St}(obs:List (Ob ev))(h:cD (goK C f once 100000 n K e s) (MT k S ks live T) (vals obs)=some (s2,[],vals obs)):
  KE C (fun e s=>e=.normal∧Re C s s2) K e s:=
 MP.bind (vF hm ai n K e s) (fun p hp=>QT.mono fun r hr=>hp _ hr) _ _ _ _ h (p6 obs)
def BR (p:Code→Bool):Code→List Fr→Option (Code×List Fr)
 |.seq a b,K=>(BR p a (.c b::K)).or (BR p b K)
 |.cond _ a b,K=>(BR p a K).or (BR p b K)
 |.block id c,K=>BR p c (.b id::K)
 |.loop c,K=>match p (.loop c) with
  |true=>some (c,K)
  |false=>BR p c []
 |x,K=>match p x with
  |true=>some (x,K)
  |false=>none
def Yq (r:Nat):Code→Bool
 |.loop c=>match vE c with
  |some i=>Nat.beq i r
  |none=>false
 |_=>false
def afb (r:Nat):Code→Bool
 |.region id _ _=>Nat.beq id r
 |_=>false
def iA (B:Code)(r:Nat):Code×List Fr:=(BR (Yq r) B []).getD (.skip,[])
def afc (B:Code)(r:Nat):Code×List Fr:=(BR (afb r) B []).getD (.skip,[])
def TW (n:Nat)(S ks:List Nm)(live:List Nat)(T:Nat)(p:List Fr×aP×St):M ((Code×List Fr)×St):=match p with
 |(.c (.loop b)::K,.normal,s)=>cD (DW n S ks live T s) fun s=>gl ((b,K),s)
 |_=>mY
theorem TX {n T:Nat}{S ks:List Nm}{live:List Nat}{p:List Fr×aP×St}:MP ev (TW n S ks live T p) fun q=>∃s,p=(.c (.loop q.1.1)::q.1.2,.normal,s)∧Re C s q.2:=by
 unfold TW
 split
 · exact MP.bind vG fun s2 h=>MP.ret ⟨_,rfl,h⟩
 · exact MP.no
theorem eo (hm:C.P.prog.follows .mixedOrders=true)(ai:aF C ev){α:Type}(st:α→St)(ok:α→Prop)(μ:α→Nat)(x0:α){once:List Nat}{n k T:Nat}{S ks:List Nm}{live:List Nat}{K:List Fr}{e:aP}{s:St}{Q:R→aP→St→Prop}(L:Code×List Fr)(obs:List (Ob ev))
  (h:cD (goK C f once 100000 n K e s) (TW k S ks live T) (vals obs)=some ((L,st x0),[],vals obs))(h0:ok x0)
  (hs:∀x,ok x→∃o,KE C (DJ C st (fun y=>ok y∧μ y<μ x) (fun r=>KE C (Q r) L.2) o) [.c L.1] .normal (st x)):∃r,KE C (Q r) K e s:=by
 have key:∃p:List Fr×aP×St,(∀Q,KE C Q p.1 p.2.1 p.2.2→KE C Q K e s)∧∃s,p=(.c (.loop L.1)::L.2,.normal,s)∧Re C s (st x0):=
  MP.bind (vF hm ai n K e s) (fun p hp=>TX.mono fun q hq=>show ∃p:List Fr×aP×St,(∀Q,KE C Q p.1 p.2.1 p.2.2→KE C Q K e s)∧∃s,p=(.c (.loop q.1.1)::q.1.2,.normal,s)∧Re C s q.2 from⟨p,hp,hq⟩) _ _ _ _ h (p6 obs)
 obtain⟨p,hp,s',rfl,JJ⟩:=key
 obtain⟨r,hr⟩:=AX.loop (C:=C) (Q:=fun r=>KE C (Q r) L.2) st ok μ x0 JJ h0 fun x hx=>AX.frames (hs x hx)
 exact⟨r,hp _ hr⟩
abbrev GoR:=Option ((List Fr×aP×St)×List Cl×List Cl)
def exOf (r:GoR):aP:=match r with
 |some ((_,e,_),_,_)=>e
 |none=>.normal
def stOf (r:GoR):St:=match r with
 |some ((_,_,s),_,_)=>s
 |none=>⟨[],[],0⟩
def Z9 (r:GoR):Option (List Cl×List Cl):=match r with
 |some (([],.exit _,_),c,e)=>some (c,e)
 |some (([],.ret,_),c,e)=>some (c,e)
 |some (([],.panic _,_),c,e)=>some (c,e)
 |_=>none
theorem afd (hm:C.P.prog.follows .mixedOrders=true)(ai:aF C ev){α:Type}{st:α→St}{P:α→Prop}{Q:R→aP→St→Prop}{once:List Nat}{n:Nat}{K:List Fr}{e:aP}{s:St}(obs:List (Ob ev))(h:Z9 (goK C f once 100000 n K e s (vals obs))=some ([],vals obs))
  (k:∃r,Q r (exOf (goK C f once 100000 n K e s (vals obs))) (stOf (goK C f once 100000 n K e s (vals obs)))):∃o,KE C (DJ C st P Q o) K e s:=by
 have hv:=p6 obs
 obtain⟨r,hr⟩:=k
 refine⟨.inr r, ?_⟩
 cases hg:goK C f once 100000 n K e s (vals obs) with
 |none=>rw[hg] at h;cases h
 | some q=>
  obtain⟨⟨K',e',s'⟩,c,em⟩:=q
  rw[hg] at h hr
  cases K' with
  |cons=>cases h
  |nil=>
   cases e' with
   |normal=>cases h
   |exit i=>cases h;exact vF hm ai _ _ _ _ _ _ _ _ hg hv _ hr
   |ret=>cases h;exact vF hm ai _ _ _ _ _ _ _ _ hg hv _ hr
   |panic v=>cases h;exact vF hm ai _ _ _ _ _ _ _ _ hg hv _ hr
def atO (n:Nat)(S ks:List Nm)(live:List Nat)(T:Nat)(p:List Fr×aP×St):M ((Code×List Fr)×St):=match p with
 |(.c x::K,.normal,s)=>cD (DW n S ks live T s) fun s=>gl ((x,K),s)
 |_=>mY
theorem abW {n T:Nat}{S ks:List Nm}{live:List Nat}{p:List Fr×aP×St}:MP ev (atO n S ks live T p) fun q=>∃s,p=(.c q.1.1::q.1.2,.normal,s)∧Re C s q.2:=by
 unfold atO
 split
 · exact MP.bind vG fun s2 h=>MP.ret ⟨_,rfl,h⟩
 · exact MP.no
theorem uR (hm:C.P.prog.follows .mixedOrders=true)(ai:aF C ev)(B:Code)(stop:Nat){once:List Nat}{n k T:Nat}{S ks:List Nm}{live:List Nat}{K:List Fr}{e:aP}{s:St}{Q:R→aP→St→Prop}{x:Code}{K':List Fr}(hL:afc B stop=(x,K'))(s2:St)(obs:List (Ob ev))
  (h:cD (goK C f once stop n K e s) (atO k S ks live T) (vals obs)=some ((afc B stop,s2),[],vals obs))(k:AX C x s2 fun r=>KE C (Q r) K'):∃r,KE C (Q r) K e s:=by
 rw[hL] at h
 have key:∃p:List Fr×aP×St,(∀Q,KE C Q p.1 p.2.1 p.2.2→KE C Q K e s)∧∃s,p=(.c x::K',.normal,s)∧Re C s s2:=
  MP.bind (vF hm ai n K e s) (fun p hp=>abW.mono fun q hq=>show ∃p:List Fr×aP×St,(∀Q,KE C Q p.1 p.2.1 p.2.2→KE C Q K e s)∧∃s,p=(.c q.1.1::q.1.2,.normal,s)∧Re C s q.2 from⟨p,hp,hq⟩) _ _ _ _ h (p6 obs)
 obtain⟨p,hp,s',rfl,JJ⟩:=key
 obtain⟨r,hr⟩:=k
 exact⟨r,hp _ (AW.re JJ hr)⟩
def abX (n:Nat)(S ks:List Nm)(live:List Nat)(T:Nat)(p:List Fr×aP×St):M (aP×St):=match p with
 |([],.normal,s)=>cD (DW n S ks live T s) fun s=>gl (.normal,s)
 |([],.ret,s)=>cD (DW n S ks live T s) fun s=>gl (.ret,s)
 |_=>mY
theorem Yr {n T:Nat}{S ks:List Nm}{live:List Nat}{p:List Fr×aP×St}:MP ev (abX n S ks live T p) fun q=>(q.1=.normal∨q.1=.ret)∧∃s,p=([],q.1,s)∧Re C s q.2:=by
 unfold abX
 split
 · exact MP.bind vG fun s2 h=>MP.ret ⟨.inl rfl,_,rfl,h⟩
 · exact MP.bind vG fun s2 h=>MP.ret ⟨.inr rfl,_,rfl,h⟩
 · exact MP.no
def OC (C:dI)(Q:aP→St→Prop):aP→St→Prop:=fun e s=>Q e s∨((e=.normal∨e=.ret∨∃i,e=.exit i)∧∃s2,Re C s s2∧Q e s2)
theorem AW.qA {c:Code}{st:St}{Q:aP→St→Prop}(h:AW C c st (OC C Q)):AW C c st Q:=fun G0 w0 G w a h0 hs hst=>wp_mono (h G0 w0 G w a h0 hs hst) fun ex a' w' ⟨e,st',hq,hg⟩=>by
  rcases hq with hq|⟨he,s2,JJ,hq⟩
  · exact⟨e,st',hq,hg⟩
  · rcases he with rfl|rfl|⟨i,rfl⟩
    · obtain⟨G1,hs1,hd,e1,kT⟩:=hg
      obtain⟨G2,hs2,E8⟩:=JJ G0 w0 G1 w' a' h0 hs1 kT
      exact⟨.normal,s2,hq,G2,hs2,hd,e1,E8⟩
    · obtain⟨G1,hs1,hd,e1,kT⟩:=hg
      obtain⟨G2,hs2,E8⟩:=JJ G0 w0 G1 w' a' h0 hs1 kT
      exact⟨.ret,s2,hq,G2,hs2,hd,e1,E8⟩
    · obtain⟨G1,hs1,hd,e1,kT⟩:=hg
      obtain⟨G2,hs2,E8⟩:=JJ G0 w0 G1 w' a' h0 hs1 kT
      exact⟨.exit i,s2,hq,G2,hs2,hd,e1,E8⟩
theorem KE.Bb {Q:aP→St→Prop}:∀{K:List Fr} {e:aP} {s:St},KE C (OC C Q) K e s→OC C (KE C Q K) e s
  | [],_,_,h=>h
  |.c x::K,.normal,s,h=>.inl (AW.qA (AW.mono h fun _ _ h=>KE.Bb h))
  |.c _::K,.exit i,s,h=>KE.Bb (K:=K) h
  |.c _::K,.ret,s,h=>KE.Bb (K:=K) h
  |.c _::K,.panic v,s,h=>KE.Bb (K:=K) h
  | .b id::K,.exit i,s,h=>by
    by_cases e:i=id
    · have h:KE C (OC C Q) K .normal s:=by
        have h:(if i=id then KE C (OC C Q) K .normal s else KE C (OC C Q) K (.exit i) s):=h
        rwa [if_pos e] at h
      rcases KE.Bb h with h|⟨_,s2,JJ,h⟩
      · exact .inl (show(if i=id then KE C Q K .normal s else KE C Q K (.exit i) s) by rwa [if_pos e])
      · exact .inr ⟨.inr (.inr ⟨i,rfl⟩),s2,JJ,show(if i=id then KE C Q K .normal s2 else KE C Q K (.exit i) s2) by rwa [if_pos e]⟩
    · have h:KE C (OC C Q) K (.exit i) s:=by
        have h:(if i=id then KE C (OC C Q) K .normal s else KE C (OC C Q) K (.exit i) s):=h
        rwa [if_neg e] at h
      rcases KE.Bb h with h|⟨_,s2,JJ,h⟩
      · exact .inl (show(if i=id then KE C Q K .normal s else KE C Q K (.exit i) s) by rwa [if_neg e])
      · exact .inr ⟨.inr (.inr ⟨i,rfl⟩),s2,JJ,show(if i=id then KE C Q K .normal s2 else KE C Q K (.exit i) s2) by rwa [if_neg e]⟩
  |.b _::K,.normal,s,h=>KE.Bb (K:=K) h
  |.b _::K,.ret,s,h=>KE.Bb (K:=K) h
  |.b _::K,.panic v,s,h=>KE.Bb (K:=K) h
  |.x::_,.normal,_,h=>False.elim h
  |.x::K,.exit i,s,h=>KE.Bb (K:=K) h
  |.x::K,.ret,s,h=>KE.Bb (K:=K) h
  |.x::K,.panic v,s,h=>KE.Bb (K:=K) h
def zn:List Fr→aP→Bool
 | [],_=>false
 |.c _::_,.normal=>true
 |.c _::K,e=>zn K e
 |.b id::K,.exit i=>if i=id then zn K .normal else zn K (.exit i)
 |.b _::K,e=>zn K e
 |.x::_,.normal=>false
 |.x::K,e=>zn K e
theorem KE.qA {Q:aP→St→Prop}:∀{K:List Fr} {e:aP} {s:St},zn K e=true→KE C (OC C Q) K e s→KE C Q K e s
 | [],_,_,hd,_=>by cases hd
 |.c x::K,.normal,s,_,h=>AW.qA (AW.mono h fun _ _ h=>KE.Bb h)
 |.c _::K,.exit i,s,hd,h=>KE.qA (K:=K) hd h
 |.c _::K,.ret,s,hd,h=>KE.qA (K:=K) hd h
 |.c _::K,.panic v,s,hd,h=>KE.qA (K:=K) hd h
 |.b id::K,.exit i,s,hd,h=>by
  have h:(if i=id then KE C (OC C Q) K .normal s else KE C (OC C Q) K (.exit i) s):=h
  have hd:(if i=id then zn K .normal else zn K (.exit i))=true:=hd
  show(if i=id then KE C Q K .normal s else KE C Q K (.exit i) s)
  by_cases e:i=id
  · rw[if_pos e] at h hd ⊢;exact KE.qA hd h
  · rw[if_neg e] at h hd ⊢;exact KE.qA hd h
 |.b _::K,.normal,s,hd,h=>KE.qA (K:=K) hd h
 |.b _::K,.ret,s,hd,h=>KE.qA (K:=K) hd h
 |.b _::K,.panic v,s,hd,h=>KE.qA (K:=K) hd h
 |.x::_,.normal,_,hd,_=>by cases hd
 |.x::K,.exit i,s,hd,h=>KE.qA (K:=K) hd h
 |.x::K,.ret,s,hd,h=>KE.qA (K:=K) hd h
 |.x::K,.panic v,s,hd,h=>KE.qA (K:=K) hd h
theorem Ys (hm:C.P.prog.follows .mixedOrders=true)(ai:aF C ev){once:List Nat}{n k T:Nat}{S ks:List Nm}{live:List Nat}{K:List Fr}{e:aP}{s:St}{Q:R→aP→St→Prop}(e2:aP)(s2:St)(obs:List (Ob ev))(hd:zn K e=true)
  (h:cD (goK C f once 100000 n K e s) (abX k S ks live T) (vals obs)=some ((e2,s2),[],vals obs))(k:∃r,Q r e2 s2):∃r,KE C (Q r) K e s:=by
 have key:∀Q,Q e2 s2→KE C (OC C Q) K e s:=
  MP.bind (vF hm ai n K e s) (fun p hp=>Yr.mono fun q hq=>show ∀Q:aP→St→Prop,Q q.1 q.2→KE C (OC C Q) K e s from fun Q hk=>hp _ (by
   obtain⟨he,s',e1,JJ⟩:=hq
   rw[e1]
   exact .inr ⟨he.elim .inl fun h=>.inr (.inl h),q.2,JJ,hk⟩)) _ _ _ _ h (p6 obs)
 exact k.imp fun r hr=>KE.qA hd (key _ hr)
theorem aK (b:Bool):b=true∨b=false:=by cases b<;>simp
theorem kF (hm:C.P.prog.follows .mixedOrders=true)(ai:aF C ev){fn:Func}{m:Nat}{r:bG}{K:List Fr}{e:aP}{s:St}(obs:List (Ob ev))(h:cD (goK C 0 [] 100000 3000 K e s) (Yo C fn m) (vals obs)=some (r,[],vals obs)):KE C (cB C fn m r) K e s:=QS hm ai obs h
theorem kO (hm:C.P.prog.follows .mixedOrders=true)(ai:aF C ev){α:Type}{st:α→St}{P:α→Prop}{Q:R→aP→St→Prop}{K:List Fr}{e:aP}{s:St}(obs:List (Ob ev))(h:Z9 (goK C 0 [] 100000 3000 K e s (vals obs))=some ([],vals obs))
  (k:∃r,Q r (exOf (goK C 0 [] 100000 3000 K e s (vals obs))) (stOf (goK C 0 [] 100000 3000 K e s (vals obs)))):∃o,KE C (DJ C st P Q o) K e s:=afd hm ai obs h k
theorem lC (l:List Tree)(i:Nat)(h:i<l.length):∃e,l[i]?=some e:=⟨_,List.getElem?_eq_getElem h⟩
end rules
attribute [irreducible] goK KE stOf exOf
end Go.Abs
