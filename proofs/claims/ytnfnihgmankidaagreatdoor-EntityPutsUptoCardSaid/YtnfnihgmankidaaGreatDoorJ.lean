/- Summaries of functions whose code is not gone through: what they answer. -/
import Derived.Test.YtnfnihgmankidaaGreatDoorA
import Derived.Lib.Index
import Derived.Test.YtnfnihgmankidaaGreatDoorD
import Derived.Shelf.Abstract
import Derived.WalkKit
set_option linter.unusedVariables false
set_option linter.unusedSimpArgs false
noncomputable section
namespace Go.Abs
open Go
abbrev iy:=aW->List TV->List aO->Option bk
def zK (T:TypeId):iy:=λ_ args aU=>match args,aU with
 | [.ptr (.arg 0) 0],(.cells ty [.t .bT,c1])::os=>if ty=T then some (.ret (.t (.cv [])) (.cells ty [.ptr (.arg 0) 0,c1]::os) []) else none
 | [.ptr (.arg 0) 0],(.cells ty [.ptr (.arg 0) 0,c1])::os=>some (.ret (.t (.cv [])) (.cells ty [.ptr (.arg 0) 0,c1]::os) [])
 |_,_=>none
def uw:List TV->Option (List UInt8)
 | []=>some []
 |.t (.int .u8 (.ofNat m))::r=>cond (Nat.blt m 256) ((uw r).map (UInt8.ofNat m:: ·)) none
 |_=>none
def sU (E:TypeId):iy:=λ_ args aU=>match args,aU with
 | [.ptr (.arg 0) 0],(.cells _ [_,.cc])::_=>some (.ret (.t (.str [])) aU [])
 | [.ptr (.arg 0) 0],(.cells _ [_,.ref (.arg j) 0 len])::_=>match aU[j]? with
  |some (.arr g 1 _ cs)=>if g.1=E/\cs.length=len/\0<len/\len<4294967296 then(uw cs).map λs=>.ret (.t (.str s)) (aU.set j .dead) [] else none
  |_=>none
 |_,_=>none
def wj:iy:=λ_ args aU=>match args with
 | [.t (.str s),.t (.str p)]=>if s.length<4294967281 then some (.ret (.t (.int .i64 (Lib.index s p))) aU []) else none
 |_=>none
def mF:iy:=λ_ args aU=>match args with
 | [.t (.str s),.t (.int .u8 c)]=>if s.length<4294967281 then some (.ret (.t (.int .i64 (Lib.indexByte s (UInt8.ofNat c.toNat)))) aU []) else none
 |_=>none
def Z3 (H:Heap)(i:Nat):aO:=(H.get (.arg i)).getD .dead
def wk (H:Heap):Nat->Nat->List aO
 |_,0=>[]
 |i,n+1=>Z3 H i::wk H (i+1) n
def yL (H:Heap)(n:Nat)(b:Bool):Option bk:=
 let os:=wk H 0 n
 match reach H eB [] (os.flatMap aO.names) with
 |none=>none
 |some R=>(jY H R).map λh=>.ret (.t (.bool b)) os h
def jv:Nm:=.loc [1]
def Ba (u:Heap)(l:List Nm):Bool:= !(u.any λp=>decide (p.1=jv))&& !(l.any λk=>decide (k=jv))
def MW (C:cE)(f:FuncId):Bool:=match C.P.fn f with
 |some fn=>fn.body.isSome&& !(fn.name== "runtime.NumGoroutine")
 |none=>false
def DN (C:cE)(stop:TypeId):iy:=λev args aU=>match args with
 | [_,.fn (.func f) fs cs]=>
  if MW C f=true then
   let H:=bX 0 aU
   match rG ev H f (fs++cs) 0 with
   |some (.val _ u)=>if Ba u []=true then yL (H.dX u) aU.length true else none
   |some (.panic (.iface t _) u l)=>if t=stop/\Ba u l=true then yL ((H.tU l).dX u) aU.length false else none
   |some (.panic (.t (.iface t _)) u l)=>if t=stop/\Ba u l=true then yL ((H.tU l).dX u) aU.length false else none
   |_=>none
  else none
 |_=>none
def Tq:List (List UInt8):=[[66,111,111,108],[76,111,110,103],[83,116,114,105,110,103],[83,101,116],[65,99,116,105,111,110]]
def wm:List (List UInt8):=[[116,114,117,101],[102,97,108,115,101],[105,102],[116,104,101,110],[101,108,115,101],[105,110],[104,97,115],[105,115],[108,105,107,101],[112,101,114,109,105,116],[102,111,114,98,105,100],[119,104,101,110],[117,110,108,101,115,115],[112,114,105,110,99,105,112,97,108],[97,99,116,105,111,110],[114,101,115,111,117,114,99,101],[99,111,110,116,101,120,116],[101,110,116,105,116,121],[97,112,112,108,105,101,115,84,111]]
def Tr:List (List UInt8):=[[38,38],[124,124],[61,61],[33,61],[60],[60,61],[62],[62,61],[105,110],[43],[45],[42]]
def Tt:List (List UInt8):=[[99,111,110,116,97,105,110,115],[99,111,110,116,97,105,110,115,65,108,108],[99,111,110,116,97,105,110,115,65,110,121]]
def Z4:List UInt8:=[66,111,111,108,32,76,111,110,103,32,83,116,114,105,110,103,32,83,101,116,32,65,99,116,105,111,110]
def Tv:List UInt8:=[116,114,117,101,32,102,97,108,115,101,32,105,102,32,116,104,101,110,32,101,108,115,101,32,105,110,32,104,97,115,32,105,115,32,108,105,107,101,32,112,101,114,109,105,116,32,102,111,114,98,105,100,32,119,104,101,110,32,117,110,108,101,115,115,32,112,114,105,110,99,105,112,97,108,32,97,99,116,105,111,110,32,114,101,115,111,117,114,99,101,32,99,111,110,116,101,120,116,32,101,110,116,105,116,121,32,97,112,112,108,105,101,115,84,111]
def Z5:List UInt8:=[38,38,32,124,124,32,61,61,32,33,61,32,60,32,60,61,32,62,32,62,61,32,105,110,32,43,32,45,32,42]
def Z6:List UInt8:=[99,111,110,116,97,105,110,115,32,99,111,110,116,97,105,110,115,65,108,108,32,99,111,110,116,97,105,110,115,65,110,121]
def wo:List (List UInt8×TV):=[(Z4,.t (.sl (Tq.map .str))),(Tv,.t (.sl (wm.map .str))),(Z5,.t (.sl (Tr.map .str))),(Z6,.t (.sl (Tt.map .str)))]
def Kv:List UInt8->List UInt8->Bool
 | [],[]=>true
 |a::r,b::t=>cond (Nat.beq a.toNat b.toNat) (Kv r t) false
 |_,_=>false
def Kw (s:List UInt8):List (List UInt8×TV)->Option TV
 | []=>none
 |(k,v)::r=>cond (Kv s k) (some v) (Kw s r)
def Bb (tab:List (List UInt8×TV)):iy:=λ_ args aU=>match args,aU with
 | [.t (.str s)],[]=>match Kw s tab with
  |some v=>some (.ret v [] [])
  |none=>none
 |_,_=>none
end Go.Abs
end
noncomputable section
namespace Go.Abs
open Go
def gu (C:cE)(g:FuncId)(s:iy):Prop:=∀ev,aI C ev->∀args aU r,s ev args aU=some r->∀(G:Gh) (w:World) (vs:List Value),WF G w->jO C G->yD G aU.length->
 HR G w (bX 0 aU)->cB G args vs->nk C.P g vs.toArray w (sL G w aU.length r)
theorem sV {C:cE}{X:Ext}(h:∀g s,X g=some s->gu C g s):BR C X:=h
theorem DO:∀(os:List aO) (i j:Nat) (o:aO),os[j]?=some o->(bX i os).get (.arg (i+j))=some o:=by
 intro os;induction os with
 |nil=>intro i j o h;simp at h
 | cons x r ih=>
  intro i j o h
  cases j with
  |zero=>simp at h;subst h;simp[bX,Heap.get]
  | succ j=>
   simp at h
   have:=ih (i+1) j o h
   have e:i+(j+1)=i+1+j:=by omega
   rw[e]
   simp only[bX,Heap.get]
   have hne:¬(Nm.arg i=Nm.arg (i+1+j)):=by intro he;injection he with he;omega
   first
    |rw[if_neg hne];exact this
    |simpa [hne] using this
section
variable {C:cE}{g:FuncId}{G:Gh}{w:World}{vs:List Value}
theorem gG {aU:List aO}(hH:HR G w (bX 0 aU)):∀i o,aU[i]?=some o->G.dom (.arg i)/\OR G w (.arg i) o:=by
 intro i o ho;have:=DO aU 0 i o ho;rw[Nat.zero_add] at this;exact hH _ _ this
theorem DP {aU:List aO}{x:TV}{v:Value}(hw:WF G w)(hH:HR G w (bX 0 aU))(hx:VR G x v):sL G w aU.length (.ret x aU []) (.returned v) w:=
 ⟨v,G,rfl,Step.refl hw _ _,rfl,gG hH,λ_ _ h=>by simp at h,hx⟩
theorem cB.only {x:TV}(h:cB G [x] vs):∃v,vs=[v]/\VR G x v:=by
 obtain⟨v,r,rfl,hv,hr⟩:=h.fQ;have:r=[]:=List.eq_nil_of_length_eq_zero (by simpa using hr.1);subst this;exact⟨v,rfl,hv⟩
theorem cB.two {x y:TV}(h:cB G [x,y] vs):∃v u,vs=[v,u]/\VR G x v/\VR G y u:=by
 obtain⟨v,r,rfl,hv,hr⟩:=h.fQ;obtain⟨u,rfl,hu⟩:=hr.only;exact⟨v,u,rfl,hv,hu⟩
theorem VR.Im {s:List UInt8}{v:Value}(h:VR G (.t (.str s)) v):v=.string ⟨s.toArray⟩:=by
 cases h with|t _ _ h=>cases h;rfl
theorem VR.jP {k:IntKind}{n:Int}{v:Value}(h:VR G (.t (.int k n)) v):v=.int k n:=by
 cases h with|t _ _ h=>cases h;rfl
theorem VR.MX {v:Value}(h:VR G (.t .bT) v):v=.pointer none:=by
 cases h with|t _ _ h=>cases h;rfl
theorem VR.Ky {v:Value}(h:VR G .cc v):v=.slice none 0 0:=by
 cases h;rfl
theorem VR.zL {k:Nm}{o:Nat}{v:Value}(h:VR G (.ptr k o) v):v=.pointer (some ⟨G.mu k,o,none⟩)/\G.dom k/\G.arr k=none:=by
 cases h with|ptr _ _ hd hn=>exact⟨rfl,hd,hn⟩
theorem Kz {gm:Nat}{m:Int}(hgm:C.iT gm=some [.int .i64 m])(Io:∀args w,(callFunc g args).run C.P.prog w=.ok (.enter g args) w)
 (hc:∀(s sub:ByteArray) (m:Int) (w:World),s.size<4294967281->w.cell? ⟨gm,0,none⟩=some (.int .i64 m)->
  Calls C.P.prog g #[.string s,.string sub] w λe w'=>e=.returned (.int .i64 (Lib.index s.data.toList sub.data.toList))/\w'=w):gu C g wj:=by
 intro ev aC args aU r h G w vs hw hg had hH hv
 unfold wj at h
 split at h
 ·rename_i s p;split at h
  ·rename_i hlt;simp at h;subst h;obtain⟨x,y,rfl,hx,hy⟩:=hv.two;rw[hx.Im,hy.Im];obtain⟨vals,h1,h2⟩:=hg gm _ hgm;have e1:=h1 0 _ rfl;have e2:=h2 0 _ rfl;obtain⟨us,ty,fr,hh,hu⟩:=hw.F _ _ _ e1;have hcell:w.cell? ⟨gm,0,none⟩=some (.int .i64 m):=by
    rw[cell_of hh,show(0:Nat)=0+0 from rfl,hu];generalize vals 0=v0 at e2;cases e2;rfl
   refine .inl ⟨Io _ _,(hc ⟨s.toArray⟩ ⟨p.toArray⟩ m w hlt hcell).mono ?_⟩;rintro e w' ⟨rfl,rfl⟩;exact DP hw hH (.t _ _ (.int _ _))
  ·simp at h
 ·simp at h
theorem Cp (Io:∀args w,(callFunc g args).run C.P.prog w=.ok (.enter g args) w)
 (hc:∀(s:ByteArray) (c:Int) (w:World),Calls C.P.prog g #[.string s,.int .u8 c] w λe w'=>e=.returned (.int .i64 (Lib.indexByte s.data.toList (UInt8.ofNat c.toNat)))/\w'=w):gu C g mF:=by
 intro ev aC args aU r h G w vs hw hg had hH hv
 unfold mF at h
 split at h
 ·rename_i s c;split at h
  ·simp at h;subst h;obtain⟨x,y,rfl,hx,hy⟩:=hv.two;rw[hx.Im,hy.jP];refine .inl ⟨Io _ _,(hc ⟨s.toArray⟩ c w).mono ?_⟩;rintro e w' ⟨rfl,rfl⟩;exact DP hw hH (.t _ _ (.int _ _))
  ·simp at h
 ·simp at h
theorem OU:∀{a b:List UInt8},Kv a b=true->a=b
 | [],[],_=>rfl
 | [],_::_,h=>by simp[Kv] at h
 |_::_,[],h=>by simp[Kv] at h
 | a::r,b::t,h=>by
   simp only[Kv] at h
   cases hn:Nat.beq a.toNat b.toNat with
   |false=>rw[hn] at h;cases h
   |true=>
    rw[hn] at h
    have e:a=b:=UInt8.toNat_inj.1 (Nat.eq_of_beq_eq_true hn)
    rw[e,OU (show Kv r t=true from h)]
theorem DQ {s:List UInt8}{v:TV}:∀{tab:List (List UInt8×TV)},Kw s tab=some v->(s,v)∈tab
 | [],h=>by simp[Kw] at h
 | (k,u)::r,h=>by
   simp only[Kw] at h
   cases hb:Kv s k with
   |false=>rw[hb] at h;exact List.mem_cons_of_mem _ (DQ h)
   |true=>
    rw[hb] at h
    have e:=OU hb
    subst e
    obtain rfl:u=v:=by simpa using h
    exact List.mem_cons_self
theorem QM {tab:List (List UInt8×TV)}{ev0:aW}(ahb:aI C ev0)(h0:∀p∈tab,ev0 g [.t (.str p.1)] []=some (.ret p.2 [] [])):gu C g (Bb tab):=by
 intro ev aC args aU r h G w vs hw hg had hH hv;unfold Bb at h;split at h
 ·rename_i s;split at h
  ·rename_i v hf;simp at h;subst h;exact ahb g _ _ _ (h0 _ (DQ hf)) G w vs hw hg had hH hv
  ·simp at h
 ·simp at h
theorem xu {k:Nm}{ty:TypeId}{a b:TV}(ho:OR G w k (.cells ty [a,b])):
 G.arr k=none/\∃x y fr,w.heap[G.mu k]?=some (.cells #[x,y] ty fr)/\l5 #[x,y] fr/\VR G a x/\VR G b y/\∀o,G.F (G.mu k) o=none:=by
 obtain⟨ha,us,ty',fr,hh,⟨mX,rfl⟩,hv,hF⟩:=ho
 obtain⟨us⟩:=us
 obtain⟨x,y,rfl,hx,hy⟩:=hv.two
 exact⟨ha,x,y,fr,hh,mX,hx,hy,hF⟩
theorem nW {us:Array Value}{ty:TypeId}{fr:Nat×Nat}{b o:Nat}(hh:w.heap[b]?=some (.cells us ty fr))(ht:l5 us fr)(ho:o<us.size):w.frozen? ⟨b,o,none⟩=false:=by
 rw[AU hh];have:=ht o ho;simp only[Bool.and_eq_false_iff,decide_eq_false_iff_not];by_cases h1:fr.1<=o
 ·right;exactλh2=>this ⟨h1,h2⟩
 ·left;exact h1
theorem MY {T:TypeId}(Io:∀args w,(callFunc g args).run C.P.prog w=.ok (.enter g args) w)
 (hf:∀(b:Nat) (w:World),w.cell? ⟨b,0,none⟩=some (.pointer none)->w.shape? b=some (T,2)->w.frozen? ⟨b,0,none⟩=false->
  Calls C.P.prog g #[.pointer (some ⟨b,0,none⟩)] w λe w'=>e=.returned (.tuple #[])/\w'=w.setCell ⟨b,0,none⟩ (.pointer (some ⟨b,0,none⟩)))
 (hu:∀(b:Nat) (w:World),w.cell? ⟨b,0,none⟩=some (.pointer (some ⟨b,0,none⟩))->
  Calls C.P.prog g #[.pointer (some ⟨b,0,none⟩)] w λe w'=>e=.returned (.tuple #[])/\w'=w):gu C g (zK T):=by
 intro ev aC args aU r h G w vs hw hg had hH hv
 unfold zK at h
 split at h
 ·rename_i ty c1 os;split at h
  ·rename_i hT;subst hT;simp at h;subst h;obtain⟨x,rfl,hx⟩:=hv.only;obtain⟨rfl,hd,hn⟩:=hx.zL;obtain⟨_,ho⟩:=gG hH 0 _ rfl;obtain⟨ha,x,y,fr,hh,mX,hx0,hy0,hF⟩:=xu ho;have:=hx0.MX;subst this;refine .inl ⟨Io _ _,(hf (G.mu (.arg 0)) w (by rw[cell_of hh];rfl) (by simp[World.shape?,hh]) (nW hh mX (by simp))).mono ?_⟩;rintro e w' ⟨rfl,rfl⟩;rw[l6 hh];have hst:=gq (vs:=[.pointer (some ⟨G.mu (.arg 0),0,none⟩),y]) hw hd (Gh.jf ha) hh (λo ⟨u,hu⟩=>by rw[hF] at hu;simp at hu);refine⟨_,G,rfl,hst.mono (λ_ _ _=>trivial) (λ_ h=>h.elim),rfl,λi o ho'=> ?_,λ_ _ h=>by simp at h,.t _ _ (.cv [] [] rfl (by simp))⟩;cases i with
   | zero=>
     simp at ho'
     subst ho'
     refine⟨hd,ha, #[.pointer (some ⟨G.mu (.arg 0),0,none⟩),y],_,fr,bH (hw.lt _ hd) _ _ _,⟨?_,rfl⟩, ?_,hF⟩
     · intro o J6;exact mX o (by simpa using J6)
     · exact cB.cons hx (cB.cons hy0 (cB.nil G))
   | succ i=>
     obtain⟨hd',J6⟩:=gG hH (i+1) o (by simpa using ho')
     refine⟨hd',hst.keeps hw hd' ?_ J6⟩
     intro e;injection e with e;omega
  ·simp at h
 ·rename_i ty c1 os;simp at h;subst h;obtain⟨x,rfl,hx⟩:=hv.only;obtain⟨rfl,hd,hn⟩:=hx.zL;obtain⟨_,ho⟩:=gG hH 0 _ rfl;obtain⟨ha,x,y,fr,hh,mX,hx0,hy0,hF⟩:=xu ho;obtain⟨rfl,_,_⟩:=hx0.zL;refine .inl ⟨Io _ _,(hu (G.mu (.arg 0)) w (by rw[cell_of hh];rfl)).mono ?_⟩;rintro e w' ⟨rfl,rfl⟩;exact DP hw hH (.t _ _ (.cv [] [] rfl (by simp)))
 ·simp at h
theorem x9:∀{cs:List TV} {l:List UInt8} {us:List Value},uw cs=some l->cB G cs us->l.length=cs.length/\∀(j:Nat) x,l[j]?=some x->us[j]?=some (.int .u8 x.toNat)
 | [],l,us,h,hv=>by simp[uw] at h;subst h;simp
 |c  ::cs,l,us,h,hv=>by
  unfold uw at h;split at h
  ·cases ‹c::cs=[]›
  ·rename_i m r he;injection he with h1 h2;subst h1;subst h2;cases hm:Nat.blt m 256 with
   |false=>rw[hm] at h;cases h
   | true=>
     rw[hm] at h
     cases hb:uw cs with
     |none=>rw[hb] at h;cases h
     | some l'=>
       rw[hb] at h
       simp at h
       subst h
       obtain⟨v,vs',rfl,hx,hr⟩:=hv.fQ
       obtain⟨e1,e2⟩:=x9 hb hr
       have hlt:m<256:=by simpa [Nat.blt_eq] using hm
       refine⟨by simp[e1],λj x hj=> ?_⟩
       cases j with
       | zero=>
         simp at hj
         subst hj
         have:=hx.jP
         subst this
         have:(UInt8.ofNat m).toNat=m:=by simp;omega
         rw[this]
         rfl
       |succ j=>simpa using e2 j x (by simpa using hj)
  ·cases h
theorem Ip {b n:Nat}{us:Array Value}{ty:TypeId}{fr:Nat×Nat}(hh:w.heap[b]?=some (.cells us ty fr))(hn:n≠0):
 ∃fr',w.freeze ⟨b,0,none⟩ n=World.aS w b us ty fr':=by
 refine⟨if fr.1==fr.2 then(0,0+n) else(min fr.1 0,max fr.2 (0+n)), ?_⟩
 unfold World.freeze World.aS
 rw[if_neg hn]
 congr 1
 apply Array.ext_getElem?
 intro i
 rw[Array.getElem?_modify,Array.getElem?_setIfInBounds]
 have hb:b<w.heap.size:=(Array.getElem?_eq_some_iff.1 hh).1
 by_cases e:b=i
 ·subst e;rw[if_pos rfl,if_pos rfl,if_pos hb,hh];rfl
 ·rw[if_neg e,if_neg e]
theorem zM (hw:WF G w){k:Nm}(hd:G.dom k)(ak:G.alive k){us:Array Value}{ty:TypeId}{fr fr':Nat×Nat}(hh:w.heap[G.mu k]?=some (.cells us ty fr)):
 Step (λx=>x=k) (λ_=>False) G w G (World.aS w (G.mu k) us ty fr'):=by
 refine⟨.refl G,⟨λb o u h=> ?_,hw.inj,λk d=>by rw[l8];exact hw.lt k d⟩,λ_ _ _=>⟨rfl,rfl⟩,λb hb hn=>⟨gp (hn k rfl hd ak) _ _ _,λ_=>rfl⟩,λ_ d=>.inl d,λk d=>.inl ⟨k,d,rfl,.inl rfl⟩,by rw[l8];exact Nat.le_refl _,rfl,rfl,rfl⟩
 obtain⟨us',ty',fr2,h1,h2⟩:=hw.F b o u h
 by_cases e:G.mu k=b
 ·subst e;rw[hh] at h1;simp at h1;obtain⟨rfl,_,_⟩:=h1;exact⟨us,ty,fr',bH (hw.lt k hd) _ _ _,h2⟩
 ·exact⟨us',ty',fr2,by rw[gp e];exact h1,h2⟩
theorem Iq {E:TypeId}(Io:∀args w,(callFunc g args).run C.P.prog w=.ok (.enter g args) w)
 (hnil:∀(b:Nat) (w:World),w.cell? ⟨b,1,none⟩=some (.slice none 0 0)->
  Calls C.P.prog g #[.pointer (some ⟨b,0,none⟩)] w λe w'=>e=.returned (.string ⟨#[]⟩)/\w'=w.drew)
 (hrow:∀(b a cap cells:Nat) (l:List UInt8) (w:World),w.cell? ⟨b,1,none⟩=some (.slice (some ⟨a,0,none⟩) l.length cap)->w.shape? a=some (E,cells)->l.length<=cells->l≠ []->cap≠0->l.length<4294967296->
  (∀(j:Nat) x,l[j]?=some x->w.cell? ⟨a,j,none⟩=some (.int .u8 x.toNat))->
  Calls C.P.prog g #[.pointer (some ⟨b,0,none⟩)] w λe w'=>e=.returned (.string ⟨l.toArray⟩)/\w'=w.drew.freeze ⟨a,0,none⟩ l.length):gu C g (sU E):=by
 intro ev aC args aU r h G w vs hw hg had hH hv
 unfold sU at h
 split at h
 ·rename_i ty c0 os;simp at h;subst h;obtain⟨x,rfl,hx⟩:=hv.only;obtain⟨rfl,hd,hn⟩:=hx.zL;obtain⟨_,ho⟩:=gG hH 0 _ rfl;obtain⟨ha,x,y,fr,hh,mX,hx0,hy0,hF⟩:=xu ho;have:=hy0.Ky;subst this;refine .inl ⟨Io _ _,(hnil (G.mu (.arg 0)) w (by rw[cell_of hh];rfl)).mono ?_⟩;rintro e w' ⟨rfl,rfl⟩;exact⟨_,G,rfl,fH hw _ _,rfl,λi o ho'=>⟨(gG hH i o ho').1,by have:=(gG hH i o ho').2;cases o<;>exact this⟩,λ_ _ h=>by simp at h,.t _ _ (.str [])⟩
 ·rename_i ty c0 j len os;split at h
  ·rename_i gg fz cs hj;split at h
   ·rename_i hc;obtain⟨hE,hlen,hpos,hbig⟩:=hc;cases hb:uw cs with
    |none=>rw[hb] at h;simp at h
    | some l=>
      rw[hb] at h
      simp at h
      subst h
      obtain⟨x,rfl,hx⟩:=hv.only
      obtain⟨rfl,hd,hn⟩:=hx.zL
      obtain⟨_,ho⟩:=gG hH 0 _ rfl
      obtain⟨ha,x,y,fr,hh,mX,hx0,hy0,hF⟩:=xu ho
      obtain⟨hdj,adP,cap,us,ty2,fr2,har,hh2,⟨ajl,ahc⟩,hsz,hle,hvs,hF2⟩:=gG hH j _ hj
      obtain⟨JF,hl2⟩:=x9 hb hvs
      cases hy0 with|ref _ _ _ n' Sz cap' _ hd' og hle' hoo OI=>
      rw[har] at og
      simp at og
      obtain⟨e1,e2,e3⟩:=og
      subst e2;subst e3
      obtain⟨ad,rfl,abf⟩:=OI (by omega)
      have hcap:0<cap:=by omega
      have ahd:=abf hcap
      subst ahd
      simp only[Nat.zero_mul,Nat.sub_zero] at hh
      have hll:l.length=len:=by omega
      have hne:l≠ []:=by intro e;subst e;simp at hll;omega
      subst hE
      refine .inl ⟨Io _ _,(hrow (G.mu (.arg 0)) (G.mu (.arg j)) cap us.size l w (by rw[cell_of hh,hll];rfl) (by simp[World.shape?,hh2,ahc]) (by omega) hne (by omega) (by omega) ?_).mono ?_⟩
      · intro q x hq
        have:=hl2 q x hq
        rw[List.getElem?_take] at this
        split at this
        · rw[cell_of hh2];simpa using this
        · cases this
      rintro e w' ⟨rfl,rfl⟩
      have adQ:w.drew.heap[G.mu (.arg j)]?=some (.cells us ty2 fr2):=hh2
      obtain⟨fr3,hfr⟩:=Ip adQ (n:=l.length) (by omega)
      rw[hfr]
      have hst:=(fH hw (λ_=>False) (λ_=>False)).trans (zM hw.drew hdj (Gh.fW har adP) (fr':=fr3) adQ)
      have jk:Step (λx=>x=Nm.arg j) (λ_=>False) G w G (World.aS w.drew (G.mu (.arg j)) us ty2 fr3):=hst.mono (λ_ _ h=>by simpa using h) (λ_ h=>by simp at h)
      refine⟨_,G,rfl,jk.mono (λ_ _ _=>trivial) (λ_ h=>h.elim),by simp,λi o ho'=> ?_,λ_ _ h=>by simp at h,.t _ _ (.str l)⟩
      by_cases hij:i=j
      · subst hij
        rw[List.getElem?_set_self (List.getElem?_eq_some_iff.1 hj).1] at ho'
        simp at ho'
        subst ho'
        exact⟨hdj,trivial⟩
      · rw[List.getElem?_set_ne (λe=>hij e.symm)] at ho'
        obtain⟨hd3,ho3⟩:=gG hH i o ho'
        exact⟨hd3,jk.keeps hw hd3 (by intro e;injection e with e;exact hij e) ho3⟩
   ·simp at h
  ·simp at h
 ·simp at h
end
end Go.Abs
end
noncomputable section
namespace Go.Abs
open Go
section
variable {C:cE}{g:FuncId}{G:Gh}{w:World}{vs:List Value}
theorem GC {u:Heap}{l:List Nm}(h:Ba u l=true):(∀k o,(k,o)∈u->k≠jv)/\∀k∈l,k≠jv:=by
 unfold Ba at h;simp only[Bool.and_eq_true,Bool.not_eq_true',List.any_eq_false,decide_eq_true_eq] at h;exact⟨λk o hm=>h.1 (k,o) hm,λk hm=>h.2 k hm⟩
theorem ya (H:Heap):∀(n i:Nat),(wk H i n).length=n
 |0,_=>rfl
 |n+1,i=>by simp[wk,ya H n (i+1)]
theorem GD (H:Heap):∀(n i j:Nat) (o:aO),(wk H i n)[j]?=some o->j<n/\(H.get (.arg (i+j))=some o\/o=.dead)
 |0,_,_,_,h=>by simp[wk] at h
 | n+1,i,j,o,h=>by
   cases j with
   |zero=>
    simp[wk,Z3] at h
    cases hg:H.get (.arg i) with
    |none=>rw[hg] at h;simp at h;exact⟨by omega,.inr h.symm⟩
    |some o'=>rw[hg] at h;simp at h;subst h;exact⟨by omega,.inl (by first|rfl|exact hg)⟩
   |succ j=>
    have:=GD H n (i+1) j o (by simpa [wk] using h)
    refine⟨by omega, ?_⟩
    rw[show i+(j+1)=i+1+j from by omega]
    exact this.2
theorem QN {H:Heap}{n:Nat}{b:Bool}{r:bk}(h:yL H n b=some r)(hd:∀i,i<n->G.dom (.arg i))(hH:HR G w H){G0:Gh}{w0:World}
 (hs:Step (λ_=>True) (λk=>k.dS=true) G0 w0 G w):sL G0 w0 n r (.returned (.bool b)) w:=by
 unfold yL at h
 simp only at h
 split at h
 ·simp at h
 rename_i R hR
 cases hn:jY H R with
 |none=>rw[hn] at h;simp at h
 | some hh=>
   rw[hn] at h
   simp at h
   subst h
   refine⟨_,G,rfl,hs,ya H n 0,λi o ho=> ?_,λk o hm=> ?_,.t _ _ (.bool b)⟩
   · obtain⟨hi,h2⟩:=GD H n 0 i o ho
     rw[Nat.zero_add] at h2
     rcases h2 with h2|rfl
     · exact hH _ _ h2
     · exact⟨hd i hi,trivial⟩
   · obtain⟨h1,h2⟩:=rI hn k o hm
     exact⟨h1,hH _ _ h2⟩
theorem su {f:FuncId}(h:MW C f=true)(args:Array Value)(w:World):(callFunc f args).run C.P.prog w=.ok (.enter f args) w:=by
 unfold MW at h;split at h
 ·rename_i fn hfn;simp only[Bool.and_eq_true,Option.isSome_iff_exists,Bool.not_eq_true'] at h;obtain⟨⟨c,hc⟩,hn⟩:=h;have h1:fn.name≠ "runtime.NumGoroutine" :=by simpa using hn
  simp[callFunc,C.P.P9 _ _ hfn,h1,hc,mark]
 ·simp at h
theorem QO        {stop tb:TypeId}(Io:∀args w,(callFunc g args).run C.P.prog w=.ok (.enter g args) w)
 (hw0 :∀(rv:Value) (f:FuncId) (fs cs:Array Value) (w:World) (R:Ending->World->Prop),
  (∀args w,(callFunc f args).run C.P.prog w=.ok (.enter f args) w)->
  Calls C.P.prog f (fs++cs) (w.alloc (.cells #[.bool false] tb)) R->
  (∀e w',R e w'->w'.cell? ⟨w.heap.size,0,none⟩=some (.bool false)/\w'.frozen? ⟨w.heap.size,0,none⟩=false/\((∃v,e=.returned v)\/∃pv,e=.panicked [{v:=.iface stop pv,recovered:=false}]))->
  Calls C.P.prog g #[rv,.func (.func f) fs cs] w λe w'=>∃e' w2,R e' w2/\
   (((∃v,e'=.returned v)/\e=.returned (.bool true)/\w'=w2.setCell ⟨w.heap.size,0,none⟩ (.bool true))\/
    ((∃pv,e'=.panicked [{v:=.iface stop pv,recovered:=false}])/\e=.returned (.bool false)/\w'=w2.setCell ⟨w.heap.size,0,none⟩ (.bool false)))):
 gu C g (DN C stop):=by
 intro ev aC args aU r h G w vs hw hg had hH hv
 unfold DN at h
 split at h
 ·rename_i rv f fs cs;split at h
  ·rename_i abg;obtain⟨x,y,rfl,hx,hy⟩:=hv.two;cases hy with|fn _ _ _ ls ms JF h1 hl2 h2=>
   simp only at h;have hfr:¬G.dom jv:=had.2 [1];have hs1:Step (λ_=>False) (λk=>k=jv) G w (G.add jv w.heap.size none) (World.ck w (.cells #[.bool false] tb)):=kS hw hfr _ _ _;obtain⟨hd1,ho1⟩:=AZ (cs:=[.t (.bool false)]) (vs:=[.bool false]) hw hfr (cB.cons (.t _ _ (.bool false)) (cB.nil G)) tb;generalize SV:G.add jv w.heap.size none=G1 at hs1 hd1 ho1;have adR:G1.mu jv=w.heap.size:=by rw[← SV];simp[Gh.add]
   have adS:∀k,G1.dom k->G.dom k\/k=jv:=λk d=>hs1.news k d
   have Xj:HR G1 (World.ck w (.cells #[.bool false] tb)) (bX 0 aU):=by
    intro k o hk;obtain⟨d,ho⟩:=hH k o hk;exact⟨hs1.le.dom _ d,hs1.keeps hw d (λh=>h) ho⟩
   have Bc:cB G1 (fs++cs) (ls++ms):=(cB.append ⟨JF,h1⟩ ⟨hl2,h2⟩).mono hs1.le;cases rK:rG ev (bX 0 aU) f (fs++cs) 0 with
   |none=>rw[rK] at h;simp at h
   | some res=>
     rw[rK] at h
     have hres:=Dq aC rK hs1.wf (hg.mono hs1.le) Xj (λp d=>by
       rcases adS _ d with d|d
       · exact had.2 _ d
       · simp[jv] at d) Bc
     have hC:Calls C.P.prog f (ls.toArray++ms.toArray) (w.alloc (.cells #[.bool false] tb)) (oh 0 G1 (World.ck w (.cells #[.bool false] tb)) res):=by
       rcases hres with ⟨_,hc⟩|⟨v,w',hc,_⟩
       · have e:(ls++ms).toArray=ls.toArray++ms.toArray:=by simp
         rw[e] at hc
         exact hc
       · rw[su abg] at hc
         cases hc
     have hcell:∀(W N:Nm->Prop) (G2:Gh) (w2:World),Step W N G1 (World.ck w (.cells #[.bool false] tb)) G2 w2->¬W jv->
         G2.dom jv/\G2.mu jv=w.heap.size/\∃fr,w2.heap[w.heap.size]?=some (.cells #[.bool false] tb fr)/\l5 #[.bool false] fr/\∀o,G2.F w.heap.size o=none:=by
       intro W N G2 w2 hst Tw
       have J6:=hst.keeps hs1.wf hd1 Tw ho1
       have KA:=(hst.same _ hd1 Tw).1
       obtain⟨_,us,ty',fr,hh,⟨mX,rfl⟩,OI,hF⟩:=J6
       obtain⟨us⟩:=us
       obtain⟨x0,rfl,hx0⟩:=OI.only
       cases hx0 with|t _ _ hx0=>
       cases hx0
       rw[KA,adR] at hh hF
       exact⟨hst.le.dom _ hd1,KA.trans adR,fr,hh,mX,hF⟩
     have hend:∀(W N:Nm->Prop) (G2:Gh) (w2:World) (H2:Heap) (b:Bool) (r:bk),Step W N G1 (World.ck w (.cells #[.bool false] tb)) G2 w2->¬W jv->(∀k,N k->k.dS=true)->
         HR G2 w2 H2->H2.get jv=none->yL H2 aU.length b=some r->sL G w aU.length r (.returned (.bool b)) (w2.setCell ⟨w.heap.size,0,none⟩ (.bool b)):=by
       intro W N G2 w2 H2 b r hst Tw hN hH2 hno hr
       obtain⟨hd2,KA,fr,hh,mX,hF⟩:=hcell W N G2 w2 hst Tw
       rw[l6 hh]
       have Di:w2.heap[G2.mu jv]?=some (.cells #[.bool false] tb fr):=by rw[KA];exact hh
       have ak2:G2.alive jv:=Gh.jf (hst.keeps hs1.wf hd1 Tw ho1).1
       have abh:=gq (vs:=[.bool b]) hst.wf hd2 ak2 Di (λo ⟨u,hu⟩=>by rw[KA,hF] at hu;simp at hu)
       rw[KA] at abh
       have hall:Step (λ_=>True) (λk=>k.dS=true) G w G2 (World.aS w2 w.heap.size [.bool b].toArray tb fr):=
         ((hs1.trans hst).trans abh).mono (λ_ _ _=>trivial) (λk hk=>by
           rcases hk with (rfl|hk)|hk
           · rfl
           · exact hN k hk
           · exact hk.elim)
       refine QN hr (λi hi=>hall.le.dom _ (had.1 i hi)) ?_ hall
       intro k o hk
       obtain⟨d,ho⟩:=hH2 k o hk
       refine⟨d,abh.keeps hst.wf d ?_ ho⟩
       intro e
       subst e
       rw[hno] at hk
       cases hk
     have Z7:(bX 0 aU).get jv=none:=by
       cases hq:(bX 0 aU).get jv with
       |none=>rfl
       | some o=>
         obtain⟨j,hj,_⟩:=vV hq
         simp[jv] at hj
     cases res with
     | val v u =>
       simp only at h
       split at h
       · rename_i hfree
         obtain⟨Cm,_⟩:=GC hfree
         have Tw:¬jv∈u.map (·.1):=by
           intro hm
           obtain⟨⟨k,o⟩,hm,e⟩:=List.mem_map.1 hm
           exact Cm k o hm e
         refine .inl ⟨Io _ _,(hw0 x f ls.toArray ms.toArray w _ (su abg) hC ?_).mono ?_⟩
         · rintro e w2 ⟨x2,G2,rfl,hst,hu,hx2⟩
           obtain⟨_,KA,fr,hh,mX,hF⟩:=hcell _ _ _ _ hst Tw
           exact⟨by rw[cell_of hh];rfl,nW hh mX (by simp),.inl ⟨_,rfl⟩⟩
         · rintro e w' ⟨e',w2,⟨x2,G2,rfl,hst,hu,hx2⟩,hor⟩
           rcases hor with ⟨_,rfl,rfl⟩|⟨⟨pv,hpv⟩,_,_⟩
           · refine hend _ _ G2 w2 _ true r hst Tw (λk ⟨p,hp⟩=>by rw[hp];rfl) ?_ ?_ h
             · exact HR.dX hst hs1.wf Xj hu (λk _ hk=>hk)
             · cases hq:((bX 0 aU).dX u).get jv with
               |none=>rfl
               | some o=>
                 rcases Heap.sH _ u _ o hq with h3|⟨h3,_⟩
                 · exact absurd rfl (Cm _ _ h3)
                 · rw[Z7] at h3;cases h3
           · cases hpv
       · simp at h
     | panic v u l =>
       have key:∀(hstop:∃t z,(v=.iface t z\/∃z',v=.t (.iface t z'))/\t=stop) (hfree:Ba u l=true) (h:yL (((bX 0 aU).tU l).dX u) aU.length false=some r),
           nk C.P g [x,.func (.func f) ls.toArray ms.toArray].toArray w (sL G w aU.length r):=by
         rintro ⟨t,z,hvz,rfl⟩ hfree h
         obtain⟨Cm,Cn⟩:=GC hfree
         have Tw:¬jv∈u.map (·.1)++l:=by
           intro hm
           rcases List.mem_append.1 hm with hm|hm
           · obtain⟨⟨k,o⟩,hm,e⟩:=List.mem_map.1 hm
             exact Cm k o hm e
           · exact Cn _ hm rfl
         refine .inl ⟨Io _ _,(hw0 x f ls.toArray ms.toArray w _ (su abg) hC ?_).mono ?_⟩
         · rintro e w2 ⟨x2,G2,rfl,hst,hu,hx2⟩
           obtain⟨_,KA,fr,hh,mX,hF⟩:=hcell _ _ _ _ hst Tw
           refine⟨by rw[cell_of hh];rfl,nW hh mX (by simp),.inr ?_⟩
           rcases hvz with rfl|⟨z',rfl⟩
           · cases hx2;exact⟨_,rfl⟩
           · cases hx2 with|t _ _ hx2=>cases hx2;exact⟨_,rfl⟩
         · rintro e w' ⟨e',w2,⟨x2,G2,rfl,hst,hu,hx2⟩,hor⟩
           rcases hor with ⟨⟨v2,XN⟩,_,_⟩|⟨_,rfl,rfl⟩
           · cases XN
           · refine hend _ _ G2 w2 _ false r hst Tw (λk ⟨p,hp⟩=>by rw[hp];rfl) ?_ ?_ h
             · intro k o hk
               rcases Heap.sH _ u k o hk with h1|⟨h1,hn⟩
               · exact hu k o h1
               · rw[Heap.vN] at h1
                 split at h1
                 · cases h1
                 · rename_i hl
                   obtain⟨d,ho⟩:=Xj k o h1
                   refine⟨hst.le.dom _ d,hst.keeps hs1.wf d (λhm=> ?_) ho⟩
                   rcases List.mem_append.1 hm with hm|hm
                   · exact hn hm
                   · exact hl hm
             · cases hq:(((bX 0 aU).tU l).dX u).get jv with
               |none=>rfl
               | some o=>
                 rcases Heap.sH _ u _ o hq with h3|⟨h3,_⟩
                 · exact absurd rfl (Cm _ _ h3)
                 · rw[Heap.vN] at h3
                   split at h3
                   · cases h3
                   · rw[Z7] at h3;cases h3
       split at h
       · rename_i hq;cases hq
       · rename_i t z u' l' hq
         cases hq
         split at h
         · rename_i hc
           exact key ⟨_,_,.inl rfl,hc.1⟩ hc.2 h
         · simp at h
       · rename_i t z u' l' hq
         cases hq
         split at h
         · rename_i hc
           exact key ⟨_,.cc,.inr ⟨_,rfl⟩,hc.1⟩ hc.2 h
         · simp at h
       · simp at h
  ·simp at h
 ·simp at h
end
end Go.Abs
end
