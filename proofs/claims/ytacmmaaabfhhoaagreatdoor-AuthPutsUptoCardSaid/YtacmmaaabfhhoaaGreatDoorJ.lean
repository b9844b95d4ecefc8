/- Summaries of functions whose code is not gone through: what they answer. -/
import Derived.Test.YtacmmaaabfhhoaaGreatDoorA
import Derived.Lib.Index
import Derived.Test.YtacmmaaabfhhoaaGreatDoorD
import Derived.Shelf.Abstract
import Derived.WalkKit
set_option linter.unusedVariables false
set_option linter.unusedSimpArgs false
noncomputable section
namespace Go.Abs
open Go
abbrev jy:=aX->List TV->List aO->Option bz
def yq (T:TypeId):jy:=λ_ args aP=>match args,aP with
 | [.ptr (.arg 0) 0],(.cells ty [.t .fq,c1])::os=>if ty=T then some (.ret (.t (.dr [])) (.cells ty [.ptr (.arg 0) 0,c1]::os) []) else none
 | [.ptr (.arg 0) 0],(.cells ty [.ptr (.arg 0) 0,c1])::os=>some (.ret (.t (.dr [])) (.cells ty [.ptr (.arg 0) 0,c1]::os) [])
 |_,_=>none
def sW:List TV->Option (List UInt8)
 | []=>some []
 |.t (.int .u8 (.ofNat m))::r=>cond (Nat.blt m 256) ((sW r).map (UInt8.ofNat m:: ·)) none
 |_=>none
def rJ (E:TypeId):jy:=λ_ args aP=>match args,aP with
 | [.ptr (.arg 0) 0],(.cells _ [_,.bJ])::_=>some (.ret (.t (.str [])) aP [])
 | [.ptr (.arg 0) 0],(.cells _ [_,.ref (.arg j) 0 len])::_=>match aP[j]? with
  |some (.arr g 1 _ cs)=>if g.1=E/\cs.length=len/\0<len/\len<4294967296 then(sW cs).map λs=>.ret (.t (.str s)) (aP.set j .dead) [] else none
  |_=>none
 |_,_=>none
def uJ:jy:=λ_ args aP=>match args with
 | [.t (.str s),.t (.str p)]=>if s.length<4294967281 then some (.ret (.t (.int .i64 (Lib.index s p))) aP []) else none
 |_=>none
def mL:jy:=λ_ args aP=>match args with
 | [.t (.str s),.t (.int .u8 c)]=>if s.length<4294967281 then some (.ret (.t (.int .i64 (Lib.indexByte s (UInt8.ofNat c.toNat)))) aP []) else none
 |_=>none
def XV (H:Heap)(i:Nat):aO:=(H.get (.arg i)).getD .dead
def uK (H:Heap):Nat->Nat->List aO
 |_,0=>[]
 |i,n+1=>XV H i::uK H (i+1) n
def xj (H:Heap)(n:Nat)(b:Bool):Option bz:=
 let os:=uK H 0 n
 match reach H eE [] (os.flatMap aO.names) with
 |none=>none
 |some R=>(ke H R).map λh=>.ret (.t (.bool b)) os h
def jE:Nm:=.loc [1]
def zH (u:Heap)(l:List Nm):Bool:= !(u.any λp=>decide (p.1=jE))&& !(l.any λk=>decide (k=jE))
def Kl (C:cE)(f:FuncId):Bool:=match C.P.fn f with
 |some fn=>fn.body.isSome&& !(fn.name== "runtime.NumGoroutine")
 |none=>false
def Cp (C:cE)(stop:TypeId):jy:=λev args aP=>match args with
 | [_,.fn (.func f) fs cs]=>
  if Kl C f=true then
   let H:=bK 0 aP
   match pZ ev H f (fs++cs) 0 with
   |some (.val _ u)=>if zH u []=true then xj (H.dH u) aP.length true else none
   |some (.panic (.iface t _) u l)=>if t=stop/\zH u l=true then xj ((H.sC l).dH u) aP.length false else none
   |some (.panic (.t (.iface t _)) u l)=>if t=stop/\zH u l=true then xj ((H.sC l).dH u) aP.length false else none
   |_=>none
  else none
 |_=>none
def QL:List (List UInt8):=[[66,111,111,108],[76,111,110,103],[83,116,114,105,110,103],[83,101,116],[65,99,116,105,111,110]]
def uL:List (List UInt8):=[[116,114,117,101],[102,97,108,115,101],[105,102],[116,104,101,110],[101,108,115,101],[105,110],[104,97,115],[105,115],[108,105,107,101],[112,101,114,109,105,116],[102,111,114,98,105,100],[119,104,101,110],[117,110,108,101,115,115],[112,114,105,110,99,105,112,97,108],[97,99,116,105,111,110],[114,101,115,111,117,114,99,101],[99,111,110,116,101,120,116],[101,110,116,105,116,121],[97,112,112,108,105,101,115,84,111]]
def QM:List (List UInt8):=[[38,38],[124,124],[61,61],[33,61],[60],[60,61],[62],[62,61],[105,110],[43],[45],[42]]
def QN:List (List UInt8):=[[99,111,110,116,97,105,110,115],[99,111,110,116,97,105,110,115,65,108,108],[99,111,110,116,97,105,110,115,65,110,121]]
def XW:List UInt8:=[66,111,111,108,32,76,111,110,103,32,83,116,114,105,110,103,32,83,101,116,32,65,99,116,105,111,110]
def QO:List UInt8:=[116,114,117,101,32,102,97,108,115,101,32,105,102,32,116,104,101,110,32,101,108,115,101,32,105,110,32,104,97,115,32,105,115,32,108,105,107,101,32,112,101,114,109,105,116,32,102,111,114,98,105,100,32,119,104,101,110,32,117,110,108,101,115,115,32,112,114,105,110,99,105,112,97,108,32,97,99,116,105,111,110,32,114,101,115,111,117,114,99,101,32,99,111,110,116,101,120,116,32,101,110,116,105,116,121,32,97,112,112,108,105,101,115,84,111]
def XX:List UInt8:=[38,38,32,124,124,32,61,61,32,33,61,32,60,32,60,61,32,62,32,62,61,32,105,110,32,43,32,45,32,42]
def XY:List UInt8:=[99,111,110,116,97,105,110,115,32,99,111,110,116,97,105,110,115,65,108,108,32,99,111,110,116,97,105,110,115,65,110,121]
def uM:List (List UInt8×TV):=[(XW,.t (.sl (QL.map .str))),(QO,.t (.sl (uL.map .str))),(XX,.t (.sl (QM.map .str))),(XY,.t (.sl (QN.map .str)))]
def Io:List UInt8->List UInt8->Bool
 | [],[]=>true
 |a::r,b::t=>cond (Nat.beq a.toNat b.toNat) (Io r t) false
 |_,_=>false
def Ip (s:List UInt8):List (List UInt8×TV)->Option TV
 | []=>none
 |(k,v)::r=>cond (Io s k) (some v) (Ip s r)
def zI (tab:List (List UInt8×TV)):jy:=λ_ args aP=>match args,aP with
 | [.t (.str s)],[]=>match Ip s tab with
  |some v=>some (.ret v [] [])
  |none=>none
 |_,_=>none
end Go.Abs
end
noncomputable section
namespace Go.Abs
open Go
def jF (C:cE)(g:FuncId)(s:jy):Prop:=∀ev,aF C ev->∀args aP r,s ev args aP=some r->∀(G:Gh) (w:World) (vs:List Value),WF G w->iA C G->uD G aP.length->
 HR G w (bK 0 aP)->cr G args vs->mG C.P g vs.toArray w (p9 G w aP.length r)
theorem rK {C:cE}{X:Ext}(h:∀g s,X g=some s->jF C g s):Ao C X:=h
theorem Cq:∀(os:List aO) (i j:Nat) (o:aO),os[j]?=some o->(bK i os).get (.arg (i+j))=some o:=by
 intro os;induction os with
 |nil=>intro i j o h;simp at h
 | cons x r ih=>
  intro i j o h
  cases j with
  |zero=>simp at h;subst h;simp[bK,Heap.get]
  | succ j=>
   simp at h
   have:=ih (i+1) j o h
   have e:i+(j+1)=i+1+j:=by omega
   rw[e]
   simp only[bK,Heap.get]
   have hne:¬(Nm.arg i=Nm.arg (i+1+j)):=by intro he;injection he with he;omega
   first
    |rw[if_neg hne];exact this
    |simpa [hne] using this
section
variable {C:cE}{g:FuncId}{G:Gh}{w:World}{vs:List Value}
theorem gJ {aP:List aO}(hH:HR G w (bK 0 aP)):∀i o,aP[i]?=some o->G.dom (.arg i)/\OR G w (.arg i) o:=by
 intro i o ho;have:=Cq aP 0 i o ho;rw[Nat.zero_add] at this;exact hH _ _ this
theorem Cr {aP:List aO}{x:TV}{v:Value}(hw:WF G w)(hH:HR G w (bK 0 aP))(hx:VR G x v):p9 G w aP.length (.ret x aP []) (.returned v) w:=
 ⟨v,G,rfl,Step.refl hw _ _,rfl,gJ hH,λ_ _ h=>by simp at h,hx⟩
theorem cr.only {x:TV}(h:cr G [x] vs):∃v,vs=[v]/\VR G x v:=by
 obtain⟨v,r,rfl,hv,hr⟩:=h.gQ;have:r=[]:=List.eq_nil_of_length_eq_zero (by simpa using hr.1);subst this;exact⟨v,rfl,hv⟩
theorem cr.two {x y:TV}(h:cr G [x,y] vs):∃v u,vs=[v,u]/\VR G x v/\VR G y u:=by
 obtain⟨v,r,rfl,hv,hr⟩:=h.gQ;obtain⟨u,rfl,hu⟩:=hr.only;exact⟨v,u,rfl,hv,hu⟩
theorem VR.FX {s:List UInt8}{v:Value}(h:VR G (.t (.str s)) v):v=.string ⟨s.toArray⟩:=by
 cases h with|t _ _ h=>cases h;rfl
theorem VR.vI {k:IntKind}{n:Int}{v:Value}(h:VR G (.t (.int k n)) v):v=.int k n:=by
 cases h with|t _ _ h=>cases h;rfl
theorem VR.Km {v:Value}(h:VR G (.t .fq) v):v=.pointer none:=by
 cases h with|t _ _ h=>cases h;rfl
theorem VR.QS {v:Value}(h:VR G .bJ v):v=.slice none 0 0:=by
 cases h;rfl
theorem VR.yu {k:Nm}{o:Nat}{v:Value}(h:VR G (.ptr k o) v):v=.pointer (some ⟨G.mu k,o,none⟩)/\G.dom k/\G.arr k=none:=by
 cases h with|ptr _ _ hd hn=>exact⟨rfl,hd,hn⟩
theorem Iq {gm:Nat}{m:Int}(hgm:C.iC gm=some [.int .i64 m])(DF:∀args w,(callFunc g args).run C.P.prog w=.ok (.enter g args) w)
 (hc:∀(s sub:ByteArray) (m:Int) (w:World),s.size<4294967281->w.cell? ⟨gm,0,none⟩=some (.int .i64 m)->
  Calls C.P.prog g #[.string s,.string sub] w λe w'=>e=.returned (.int .i64 (Lib.index s.data.toList sub.data.toList))/\w'=w):jF C g uJ:=by
 intro ev az args aP r h G w vs hw hg had hH hv
 unfold uJ at h
 split at h
 ·rename_i s p;split at h
  ·rename_i hlt;simp at h;subst h;obtain⟨x,y,rfl,hx,hy⟩:=hv.two;rw[hx.FX,hy.FX];obtain⟨vals,h1,h2⟩:=hg gm _ hgm;have e1:=h1 0 _ rfl;have e2:=h2 0 _ rfl;obtain⟨us,ty,fr,hh,hu⟩:=hw.F _ _ _ e1;have hcell:w.cell? ⟨gm,0,none⟩=some (.int .i64 m):=by
    rw[cell_of hh,show(0:Nat)=0+0 from rfl,hu];generalize vals 0=v0 at e2;cases e2;rfl
   refine .inl ⟨DF _ _,(hc ⟨s.toArray⟩ ⟨p.toArray⟩ m w hlt hcell).mono ?_⟩;rintro e w' ⟨rfl,rfl⟩;exact Cr hw hH (.t _ _ (.int _ _))
  ·simp at h
 ·simp at h
theorem A2 (DF:∀args w,(callFunc g args).run C.P.prog w=.ok (.enter g args) w)
 (hc:∀(s:ByteArray) (c:Int) (w:World),Calls C.P.prog g #[.string s,.int .u8 c] w λe w'=>e=.returned (.int .i64 (Lib.indexByte s.data.toList (UInt8.ofNat c.toNat)))/\w'=w):jF C g mL:=by
 intro ev az args aP r h G w vs hw hg had hH hv
 unfold mL at h
 split at h
 ·rename_i s c;split at h
  ·simp at h;subst h;obtain⟨x,y,rfl,hx,hy⟩:=hv.two;rw[hx.FX,hy.vI];refine .inl ⟨DF _ _,(hc ⟨s.toArray⟩ c w).mono ?_⟩;rintro e w' ⟨rfl,rfl⟩;exact Cr hw hH (.t _ _ (.int _ _))
  ·simp at h
 ·simp at h
theorem Mj:∀{a b:List UInt8},Io a b=true->a=b
 | [],[],_=>rfl
 | [],_::_,h=>by simp[Io] at h
 |_::_,[],h=>by simp[Io] at h
 | a::r,b::t,h=>by
   simp only[Io] at h
   cases hn:Nat.beq a.toNat b.toNat with
   |false=>rw[hn] at h;cases h
   |true=>
    rw[hn] at h
    have e:a=b:=UInt8.toNat_inj.1 (Nat.eq_of_beq_eq_true hn)
    rw[e,Mj (show Io r t=true from h)]
theorem Cs {s:List UInt8}{v:TV}:∀{tab:List (List UInt8×TV)},Ip s tab=some v->(s,v)∈tab
 | [],h=>by simp[Ip] at h
 | (k,u)::r,h=>by
   simp only[Ip] at h
   cases hb:Io s k with
   |false=>rw[hb] at h;exact List.mem_cons_of_mem _ (Cs h)
   |true=>
    rw[hb] at h
    have e:=Mj hb
    subst e
    obtain rfl:u=v:=by simpa using h
    exact List.mem_cons_self
theorem NX {tab:List (List UInt8×TV)}{ev0:aX}(afv:aF C ev0)(h0:∀p∈tab,ev0 g [.t (.str p.1)] []=some (.ret p.2 [] [])):jF C g (zI tab):=by
 intro ev az args aP r h G w vs hw hg had hH hv;unfold zI at h;split at h
 ·rename_i s;split at h
  ·rename_i v hf;simp at h;subst h;exact afv g _ _ _ (h0 _ (Cs hf)) G w vs hw hg had hH hv
  ·simp at h
 ·simp at h
theorem vJ {k:Nm}{ty:TypeId}{a b:TV}(ho:OR G w k (.cells ty [a,b])):
 G.arr k=none/\∃x y fr,w.heap[G.mu k]?=some (.cells #[x,y] ty fr)/\mo #[x,y] fr/\VR G a x/\VR G b y/\∀o,G.F (G.mu k) o=none:=by
 obtain⟨ha,us,ty',fr,hh,⟨mV,rfl⟩,hv,hF⟩:=ho
 obtain⟨us⟩:=us
 obtain⟨x,y,rfl,hx,hy⟩:=hv.two
 exact⟨ha,x,y,fr,hh,mV,hx,hy,hF⟩
theorem nL {us:Array Value}{ty:TypeId}{fr:Nat×Nat}{b o:Nat}(hh:w.heap[b]?=some (.cells us ty fr))(ht:mo us fr)(ho:o<us.size):w.frozen? ⟨b,o,none⟩=false:=by
 rw[zu hh];have:=ht o ho;simp only[Bool.and_eq_false_iff,decide_eq_false_iff_not];by_cases h1:fr.1<=o
 ·right;exactλh2=>this ⟨h1,h2⟩
 ·left;exact h1
theorem Kn {T:TypeId}(DF:∀args w,(callFunc g args).run C.P.prog w=.ok (.enter g args) w)
 (hf:∀(b:Nat) (w:World),w.cell? ⟨b,0,none⟩=some (.pointer none)->w.shape? b=some (T,2)->w.frozen? ⟨b,0,none⟩=false->
  Calls C.P.prog g #[.pointer (some ⟨b,0,none⟩)] w λe w'=>e=.returned (.tuple #[])/\w'=w.setCell ⟨b,0,none⟩ (.pointer (some ⟨b,0,none⟩)))
 (hu:∀(b:Nat) (w:World),w.cell? ⟨b,0,none⟩=some (.pointer (some ⟨b,0,none⟩))->
  Calls C.P.prog g #[.pointer (some ⟨b,0,none⟩)] w λe w'=>e=.returned (.tuple #[])/\w'=w):jF C g (yq T):=by
 intro ev az args aP r h G w vs hw hg had hH hv
 unfold yq at h
 split at h
 ·rename_i ty c1 os;split at h
  ·rename_i hT;subst hT;simp at h;subst h;obtain⟨x,rfl,hx⟩:=hv.only;obtain⟨rfl,hd,hn⟩:=hx.yu;obtain⟨_,ho⟩:=gJ hH 0 _ rfl;obtain⟨ha,x,y,fr,hh,mV,hx0,hy0,hF⟩:=vJ ho;have:=hx0.Km;subst this;refine .inl ⟨DF _ _,(hf (G.mu (.arg 0)) w (by rw[cell_of hh];rfl) (by simp[World.shape?,hh]) (nL hh mV (by simp))).mono ?_⟩;rintro e w' ⟨rfl,rfl⟩;rw[mq hh];have hst:=iT (vs:=[.pointer (some ⟨G.mu (.arg 0),0,none⟩),y]) hw hd (Gh.jt ha) hh (λo ⟨u,hu⟩=>by rw[hF] at hu;simp at hu);refine⟨_,G,rfl,hst.mono (λ_ _ _=>trivial) (λ_ h=>h.elim),rfl,λi o ho'=> ?_,λ_ _ h=>by simp at h,.t _ _ (.dr [] [] rfl (by simp))⟩;cases i with
   | zero=>
     simp at ho'
     subst ho'
     refine⟨hd,ha, #[.pointer (some ⟨G.mu (.arg 0),0,none⟩),y],_,fr,b9 (hw.lt _ hd) _ _ _,⟨?_,rfl⟩, ?_,hF⟩
     · intro o Fu;exact mV o (by simpa using Fu)
     · exact cr.cons hx (cr.cons hy0 (cr.nil G))
   | succ i=>
     obtain⟨hd',Fu⟩:=gJ hH (i+1) o (by simpa using ho')
     refine⟨hd',hst.keeps hw hd' ?_ Fu⟩
     intro e;injection e with e;omega
  ·simp at h
 ·rename_i ty c1 os;simp at h;subst h;obtain⟨x,rfl,hx⟩:=hv.only;obtain⟨rfl,hd,hn⟩:=hx.yu;obtain⟨_,ho⟩:=gJ hH 0 _ rfl;obtain⟨ha,x,y,fr,hh,mV,hx0,hy0,hF⟩:=vJ ho;obtain⟨rfl,_,_⟩:=hx0.yu;refine .inl ⟨DF _ _,(hu (G.mu (.arg 0)) w (by rw[cell_of hh];rfl)).mono ?_⟩;rintro e w' ⟨rfl,rfl⟩;exact Cr hw hH (.t _ _ (.dr [] [] rfl (by simp)))
 ·simp at h
theorem wJ:∀{cs:List TV} {l:List UInt8} {us:List Value},sW cs=some l->cr G cs us->l.length=cs.length/\∀(j:Nat) x,l[j]?=some x->us[j]?=some (.int .u8 x.toNat)
 | [],l,us,h,hv=>by simp[sW] at h;subst h;simp
 |c  ::cs,l,us,h,hv=>by
  unfold sW at h;split at h
  ·cases ‹c::cs=[]›
  ·rename_i m r he;injection he with h1 h2;subst h1;subst h2;cases hm:Nat.blt m 256 with
   |false=>rw[hm] at h;cases h
   | true=>
     rw[hm] at h
     cases hb:sW cs with
     |none=>rw[hb] at h;cases h
     | some l'=>
       rw[hb] at h
       simp at h
       subst h
       obtain⟨v,vs',rfl,hx,hr⟩:=hv.gQ
       obtain⟨e1,e2⟩:=wJ hb hr
       have hlt:m<256:=by simpa [Nat.blt_eq] using hm
       refine⟨by simp[e1],λj x hj=> ?_⟩
       cases j with
       | zero=>
         simp at hj
         subst hj
         have:=hx.vI
         subst this
         have:(UInt8.ofNat m).toNat=m:=by simp;omega
         rw[this]
         rfl
       |succ j=>simpa using e2 j x (by simpa using hj)
  ·cases h
theorem FY {b n:Nat}{us:Array Value}{ty:TypeId}{fr:Nat×Nat}(hh:w.heap[b]?=some (.cells us ty fr))(hn:n≠0):
 ∃fr',w.freeze ⟨b,0,none⟩ n=World.bk w b us ty fr':=by
 refine⟨if fr.1==fr.2 then(0,0+n) else(min fr.1 0,max fr.2 (0+n)), ?_⟩
 unfold World.freeze World.bk
 rw[if_neg hn]
 congr 1
 apply Array.ext_getElem?
 intro i
 rw[Array.getElem?_modify,Array.getElem?_setIfInBounds]
 have hb:b<w.heap.size:=(Array.getElem?_eq_some_iff.1 hh).1
 by_cases e:b=i
 ·subst e;rw[if_pos rfl,if_pos rfl,if_pos hb,hh];rfl
 ·rw[if_neg e,if_neg e]
theorem yw (hw:WF G w){k:Nm}(hd:G.dom k)(ak:G.alive k){us:Array Value}{ty:TypeId}{fr fr':Nat×Nat}(hh:w.heap[G.mu k]?=some (.cells us ty fr)):
 Step (λx=>x=k) (λ_=>False) G w G (World.bk w (G.mu k) us ty fr'):=by
 refine⟨.refl G,⟨λb o u h=> ?_,hw.inj,λk d=>by rw[mA];exact hw.lt k d⟩,λ_ _ _=>⟨rfl,rfl⟩,λb hb hn=>⟨iG (hn k rfl hd ak) _ _ _,λ_=>rfl⟩,λ_ d=>.inl d,λk d=>.inl ⟨k,d,rfl,.inl rfl⟩,by rw[mA];exact Nat.le_refl _,rfl,rfl,rfl⟩
 obtain⟨us',ty',fr2,h1,h2⟩:=hw.F b o u h
 by_cases e:G.mu k=b
 ·subst e;rw[hh] at h1;simp at h1;obtain⟨rfl,_,_⟩:=h1;exact⟨us,ty,fr',b9 (hw.lt k hd) _ _ _,h2⟩
 ·exact⟨us',ty',fr2,by rw[iG e];exact h1,h2⟩
theorem FZ {E:TypeId}(DF:∀args w,(callFunc g args).run C.P.prog w=.ok (.enter g args) w)
 (hnil:∀(b:Nat) (w:World),w.cell? ⟨b,1,none⟩=some (.slice none 0 0)->
  Calls C.P.prog g #[.pointer (some ⟨b,0,none⟩)] w λe w'=>e=.returned (.string ⟨#[]⟩)/\w'=w.drew)
 (hrow:∀(b a cap cells:Nat) (l:List UInt8) (w:World),w.cell? ⟨b,1,none⟩=some (.slice (some ⟨a,0,none⟩) l.length cap)->w.shape? a=some (E,cells)->l.length<=cells->l≠ []->cap≠0->l.length<4294967296->
  (∀(j:Nat) x,l[j]?=some x->w.cell? ⟨a,j,none⟩=some (.int .u8 x.toNat))->
  Calls C.P.prog g #[.pointer (some ⟨b,0,none⟩)] w λe w'=>e=.returned (.string ⟨l.toArray⟩)/\w'=w.drew.freeze ⟨a,0,none⟩ l.length):jF C g (rJ E):=by
 intro ev az args aP r h G w vs hw hg had hH hv
 unfold rJ at h
 split at h
 ·rename_i ty c0 os;simp at h;subst h;obtain⟨x,rfl,hx⟩:=hv.only;obtain⟨rfl,hd,hn⟩:=hx.yu;obtain⟨_,ho⟩:=gJ hH 0 _ rfl;obtain⟨ha,x,y,fr,hh,mV,hx0,hy0,hF⟩:=vJ ho;have:=hy0.QS;subst this;refine .inl ⟨DF _ _,(hnil (G.mu (.arg 0)) w (by rw[cell_of hh];rfl)).mono ?_⟩;rintro e w' ⟨rfl,rfl⟩;exact⟨_,G,rfl,je hw _ _,rfl,λi o ho'=>⟨(gJ hH i o ho').1,by have:=(gJ hH i o ho').2;cases o<;>exact this⟩,λ_ _ h=>by simp at h,.t _ _ (.str [])⟩
 ·rename_i ty c0 j len os;split at h
  ·rename_i gg fz cs hj;split at h
   ·rename_i hc;obtain⟨hE,hlen,hpos,hbig⟩:=hc;cases hb:sW cs with
    |none=>rw[hb] at h;simp at h
    | some l=>
      rw[hb] at h
      simp at h
      subst h
      obtain⟨x,rfl,hx⟩:=hv.only
      obtain⟨rfl,hd,hn⟩:=hx.yu
      obtain⟨_,ho⟩:=gJ hH 0 _ rfl
      obtain⟨ha,x,y,fr,hh,mV,hx0,hy0,hF⟩:=vJ ho
      obtain⟨hdj,abB,cap,us,ty2,fr2,har,hh2,⟨ajE,afw⟩,hsz,hle,hvs,hF2⟩:=gJ hH j _ hj
      obtain⟨Eb,hl2⟩:=wJ hb hvs
      cases hy0 with|ref _ _ _ n' PX cap' _ hd' qC hle' hoo L9=>
      rw[har] at qC
      simp at qC
      obtain⟨e1,e2,e3⟩:=qC
      subst e2;subst e3
      obtain⟨ad,rfl,Y5⟩:=L9 (by omega)
      have hcap:0<cap:=by omega
      have afx:=Y5 hcap
      subst afx
      simp only[Nat.zero_mul,Nat.sub_zero] at hh
      have hll:l.length=len:=by omega
      have hne:l≠ []:=by intro e;subst e;simp at hll;omega
      subst hE
      refine .inl ⟨DF _ _,(hrow (G.mu (.arg 0)) (G.mu (.arg j)) cap us.size l w (by rw[cell_of hh,hll];rfl) (by simp[World.shape?,hh2,afw]) (by omega) hne (by omega) (by omega) ?_).mono ?_⟩
      · intro q x hq
        have:=hl2 q x hq
        rw[List.getElem?_take] at this
        split at this
        · rw[cell_of hh2];simpa using this
        · cases this
      rintro e w' ⟨rfl,rfl⟩
      have abC:w.drew.heap[G.mu (.arg j)]?=some (.cells us ty2 fr2):=hh2
      obtain⟨fr3,hfr⟩:=FY abC (n:=l.length) (by omega)
      rw[hfr]
      have hst:=(je hw (λ_=>False) (λ_=>False)).trans (yw hw.drew hdj (Gh.iF har abB) (fr':=fr3) abC)
      have lK:Step (λx=>x=Nm.arg j) (λ_=>False) G w G (World.bk w.drew (G.mu (.arg j)) us ty2 fr3):=hst.mono (λ_ _ h=>by simpa using h) (λ_ h=>by simp at h)
      refine⟨_,G,rfl,lK.mono (λ_ _ _=>trivial) (λ_ h=>h.elim),by simp,λi o ho'=> ?_,λ_ _ h=>by simp at h,.t _ _ (.str l)⟩
      by_cases hij:i=j
      · subst hij
        rw[List.getElem?_set_self (List.getElem?_eq_some_iff.1 hj).1] at ho'
        simp at ho'
        subst ho'
        exact⟨hdj,trivial⟩
      · rw[List.getElem?_set_ne (λe=>hij e.symm)] at ho'
        obtain⟨hd3,ho3⟩:=gJ hH i o ho'
        exact⟨hd3,lK.keeps hw hd3 (by intro e;injection e with e;exact hij e) ho3⟩
   ·simp at h
  ·simp at h
 ·simp at h
end
end Go.Abs
end
noncomputable section
namespace Go.Abs
open Go
section
variable {C:cE}{g:FuncId}{G:Gh}{w:World}{vs:List Value}
theorem Eu {u:Heap}{l:List Nm}(h:zH u l=true):(∀k o,(k,o)∈u->k≠jE)/\∀k∈l,k≠jE:=by
 unfold zH at h;simp only[Bool.and_eq_true,Bool.not_eq_true',List.any_eq_false,decide_eq_true_eq] at h;exact⟨λk o hm=>h.1 (k,o) hm,λk hm=>h.2 k hm⟩
theorem wK (H:Heap):∀(n i:Nat),(uK H i n).length=n
 |0,_=>rfl
 |n+1,i=>by simp[uK,wK H n (i+1)]
theorem Ev (H:Heap):∀(n i j:Nat) (o:aO),(uK H i n)[j]?=some o->j<n/\(H.get (.arg (i+j))=some o\/o=.dead)
 |0,_,_,_,h=>by simp[uK] at h
 | n+1,i,j,o,h=>by
   cases j with
   |zero=>
    simp[uK,XV] at h
    cases hg:H.get (.arg i) with
    |none=>rw[hg] at h;simp at h;exact⟨by omega,.inr h.symm⟩
    |some o'=>rw[hg] at h;simp at h;subst h;exact⟨by omega,.inl (by first|rfl|exact hg)⟩
   |succ j=>
    have:=Ev H n (i+1) j o (by simpa [uK] using h)
    refine⟨by omega, ?_⟩
    rw[show i+(j+1)=i+1+j from by omega]
    exact this.2
theorem NY {H:Heap}{n:Nat}{b:Bool}{r:bz}(h:xj H n b=some r)(hd:∀i,i<n->G.dom (.arg i))(hH:HR G w H){G0:Gh}{w0:World}
 (hs:Step (λ_=>True) (λk=>k.eR=true) G0 w0 G w):p9 G0 w0 n r (.returned (.bool b)) w:=by
 unfold xj at h
 simp only at h
 split at h
 ·simp at h
 rename_i R hR
 cases hn:ke H R with
 |none=>rw[hn] at h;simp at h
 | some hh=>
   rw[hn] at h
   simp at h
   subst h
   refine⟨_,G,rfl,hs,wK H n 0,λi o ho=> ?_,λk o hm=> ?_,.t _ _ (.bool b)⟩
   · obtain⟨hi,h2⟩:=Ev H n 0 i o ho
     rw[Nat.zero_add] at h2
     rcases h2 with h2|rfl
     · exact hH _ _ h2
     · exact⟨hd i hi,trivial⟩
   · obtain⟨h1,h2⟩:=qE hn k o hm
     exact⟨h1,hH _ _ h2⟩
theorem qY {f:FuncId}(h:Kl C f=true)(args:Array Value)(w:World):(callFunc f args).run C.P.prog w=.ok (.enter f args) w:=by
 unfold Kl at h;split at h
 ·rename_i fn hfn;simp only[Bool.and_eq_true,Option.isSome_iff_exists,Bool.not_eq_true'] at h;obtain⟨⟨c,hc⟩,hn⟩:=h;have h1:fn.name≠ "runtime.NumGoroutine" :=by simpa using hn
  simp[callFunc,C.P.Nh _ _ hfn,h1,hc,mark]
 ·simp at h
theorem NZ        {stop tb:TypeId}(DF:∀args w,(callFunc g args).run C.P.prog w=.ok (.enter g args) w)
 (hw0 :∀(rv:Value) (f:FuncId) (fs cs:Array Value) (w:World) (R:Ending->World->Prop),
  (∀args w,(callFunc f args).run C.P.prog w=.ok (.enter f args) w)->
  Calls C.P.prog f (fs++cs) (w.alloc (.cells #[.bool false] tb)) R->
  (∀e w',R e w'->w'.cell? ⟨w.heap.size,0,none⟩=some (.bool false)/\w'.frozen? ⟨w.heap.size,0,none⟩=false/\((∃v,e=.returned v)\/∃pv,e=.panicked [{v:=.iface stop pv,recovered:=false}]))->
  Calls C.P.prog g #[rv,.func (.func f) fs cs] w λe w'=>∃e' w2,R e' w2/\
   (((∃v,e'=.returned v)/\e=.returned (.bool true)/\w'=w2.setCell ⟨w.heap.size,0,none⟩ (.bool true))\/
    ((∃pv,e'=.panicked [{v:=.iface stop pv,recovered:=false}])/\e=.returned (.bool false)/\w'=w2.setCell ⟨w.heap.size,0,none⟩ (.bool false)))):
 jF C g (Cp C stop):=by
 intro ev az args aP r h G w vs hw hg had hH hv
 unfold Cp at h
 split at h
 ·rename_i rv f fs cs;split at h
  ·rename_i Y6;obtain⟨x,y,rfl,hx,hy⟩:=hv.two;cases hy with|fn _ _ _ ls ms Eb h1 hl2 h2=>
   simp only at h;have hfr:¬G.dom jE:=had.2 [1];have hs1:Step (λ_=>False) (λk=>k=jE) G w (G.add jE w.heap.size none) (World.cL w (.cells #[.bool false] tb)):=mD hw hfr _ _ _;obtain⟨Y7,YM⟩:=zy (cs:=[.t (.bool false)]) (vs:=[.bool false]) hw hfr (cr.cons (.t _ _ (.bool false)) (cr.nil G)) tb;generalize Qj:G.add jE w.heap.size none=G1 at hs1 Y7 YM;have abD:G1.mu jE=w.heap.size:=by rw[← Qj];simp[Gh.add]
   have abE:∀k,G1.dom k->G.dom k\/k=jE:=λk d=>hs1.news k d
   have U2:HR G1 (World.cL w (.cells #[.bool false] tb)) (bK 0 aP):=by
    intro k o hk;obtain⟨d,ho⟩:=hH k o hk;exact⟨hs1.le.dom _ d,hs1.keeps hw d (λh=>h) ho⟩
   have F0:cr G1 (fs++cs) (ls++ms):=(cr.append ⟨Eb,h1⟩ ⟨hl2,h2⟩).mono hs1.le;cases tO:pZ ev (bK 0 aP) f (fs++cs) 0 with
   |none=>rw[tO] at h;simp at h
   | some res=>
     rw[tO] at h
     have hres:=B0 az tO hs1.wf (hg.mono hs1.le) U2 (λp d=>by
       rcases abE _ d with d|d
       · exact had.2 _ d
       · simp[jE] at d) F0
     have hC:Calls C.P.prog f (ls.toArray++ms.toArray) (w.alloc (.cells #[.bool false] tb)) (kY 0 G1 (World.cL w (.cells #[.bool false] tb)) res):=by
       rcases hres with ⟨_,hc⟩|⟨v,w',hc,_⟩
       · have e:(ls++ms).toArray=ls.toArray++ms.toArray:=by simp
         rw[e] at hc
         exact hc
       · rw[qY Y6] at hc
         cases hc
     have hcell:∀(W N:Nm->Prop) (G2:Gh) (w2:World),Step W N G1 (World.cL w (.cells #[.bool false] tb)) G2 w2->¬W jE->
         G2.dom jE/\G2.mu jE=w.heap.size/\∃fr,w2.heap[w.heap.size]?=some (.cells #[.bool false] tb fr)/\mo #[.bool false] fr/\∀o,G2.F w.heap.size o=none:=by
       intro W N G2 w2 hst QT
       have Fu:=hst.keeps hs1.wf Y7 QT YM
       have Ir:=(hst.same _ Y7 QT).1
       obtain⟨_,us,ty',fr,hh,⟨mV,rfl⟩,L9,hF⟩:=Fu
       obtain⟨us⟩:=us
       obtain⟨x0,rfl,hx0⟩:=L9.only
       cases hx0 with|t _ _ hx0=>
       cases hx0
       rw[Ir,abD] at hh hF
       exact⟨hst.le.dom _ Y7,Ir.trans abD,fr,hh,mV,hF⟩
     have hend:∀(W N:Nm->Prop) (G2:Gh) (w2:World) (H2:Heap) (b:Bool) (r:bz),Step W N G1 (World.cL w (.cells #[.bool false] tb)) G2 w2->¬W jE->(∀k,N k->k.eR=true)->
         HR G2 w2 H2->H2.get jE=none->xj H2 aP.length b=some r->p9 G w aP.length r (.returned (.bool b)) (w2.setCell ⟨w.heap.size,0,none⟩ (.bool b)):=by
       intro W N G2 w2 H2 b r hst QT hN XZ hno hr
       obtain⟨Ek,Ir,fr,hh,mV,hF⟩:=hcell W N G2 w2 hst QT
       rw[mq hh]
       have BU:w2.heap[G2.mu jE]?=some (.cells #[.bool false] tb fr):=by rw[Ir];exact hh
       have ak2:G2.alive jE:=Gh.jt (hst.keeps hs1.wf Y7 QT YM).1
       have QU:=iT (vs:=[.bool b]) hst.wf Ek ak2 BU (λo ⟨u,hu⟩=>by rw[Ir,hF] at hu;simp at hu)
       rw[Ir] at QU
       have hall:Step (λ_=>True) (λk=>k.eR=true) G w G2 (World.bk w2 w.heap.size [.bool b].toArray tb fr):=
         ((hs1.trans hst).trans QU).mono (λ_ _ _=>trivial) (λk hk=>by
           rcases hk with (rfl|hk)|hk
           · rfl
           · exact hN k hk
           · exact hk.elim)
       refine NY hr (λi hi=>hall.le.dom _ (had.1 i hi)) ?_ hall
       intro k o hk
       obtain⟨d,ho⟩:=XZ k o hk
       refine⟨d,QU.keeps hst.wf d ?_ ho⟩
       intro e
       subst e
       rw[hno] at hk
       cases hk
     have X0:(bK 0 aP).get jE=none:=by
       cases hq:(bK 0 aP).get jE with
       |none=>rfl
       | some o=>
         obtain⟨j,hj,_⟩:=uC hq
         simp[jE] at hj
     cases res with
     | val v u =>
       simp only at h
       split at h
       · rename_i hfree
         obtain⟨AV,_⟩:=Eu hfree
         have QT:¬jE∈u.map (·.1):=by
           intro hm
           obtain⟨⟨k,o⟩,hm,e⟩:=List.mem_map.1 hm
           exact AV k o hm e
         refine .inl ⟨DF _ _,(hw0 x f ls.toArray ms.toArray w _ (qY Y6) hC ?_).mono ?_⟩
         · rintro e w2 ⟨x2,G2,rfl,hst,hu,hx2⟩
           obtain⟨_,Ir,fr,hh,mV,hF⟩:=hcell _ _ _ _ hst QT
           exact⟨by rw[cell_of hh];rfl,nL hh mV (by simp),.inl ⟨_,rfl⟩⟩
         · rintro e w' ⟨e',w2,⟨x2,G2,rfl,hst,hu,hx2⟩,hor⟩
           rcases hor with ⟨_,rfl,rfl⟩|⟨⟨pv,hpv⟩,_,_⟩
           · refine hend _ _ G2 w2 _ true r hst QT (λk ⟨p,hp⟩=>by rw[hp];rfl) ?_ ?_ h
             · exact HR.dH hst hs1.wf U2 hu (λk _ hk=>hk)
             · cases hq:((bK 0 aP).dH u).get jE with
               |none=>rfl
               | some o=>
                 rcases Heap.rA _ u _ o hq with h3|⟨h3,_⟩
                 · exact absurd rfl (AV _ _ h3)
                 · rw[X0] at h3;cases h3
           · cases hpv
       · simp at h
     | panic v u l =>
       have key:∀(hstop:∃t z,(v=.iface t z\/∃z',v=.t (.iface t z'))/\t=stop) (hfree:zH u l=true) (h:xj (((bK 0 aP).sC l).dH u) aP.length false=some r),
           mG C.P g [x,.func (.func f) ls.toArray ms.toArray].toArray w (p9 G w aP.length r):=by
         rintro ⟨t,z,hvz,rfl⟩ hfree h
         obtain⟨AV,AY⟩:=Eu hfree
         have QT:¬jE∈u.map (·.1)++l:=by
           intro hm
           rcases List.mem_append.1 hm with hm|hm
           · obtain⟨⟨k,o⟩,hm,e⟩:=List.mem_map.1 hm
             exact AV k o hm e
           · exact AY _ hm rfl
         refine .inl ⟨DF _ _,(hw0 x f ls.toArray ms.toArray w _ (qY Y6) hC ?_).mono ?_⟩
         · rintro e w2 ⟨x2,G2,rfl,hst,hu,hx2⟩
           obtain⟨_,Ir,fr,hh,mV,hF⟩:=hcell _ _ _ _ hst QT
           refine⟨by rw[cell_of hh];rfl,nL hh mV (by simp),.inr ?_⟩
           rcases hvz with rfl|⟨z',rfl⟩
           · cases hx2;exact⟨_,rfl⟩
           · cases hx2 with|t _ _ hx2=>cases hx2;exact⟨_,rfl⟩
         · rintro e w' ⟨e',w2,⟨x2,G2,rfl,hst,hu,hx2⟩,hor⟩
           rcases hor with ⟨⟨v2,hv2⟩,_,_⟩|⟨_,rfl,rfl⟩
           · cases hv2
           · refine hend _ _ G2 w2 _ false r hst QT (λk ⟨p,hp⟩=>by rw[hp];rfl) ?_ ?_ h
             · intro k o hk
               rcases Heap.rA _ u k o hk with h1|⟨h1,hn⟩
               · exact hu k o h1
               · rw[Heap.ur] at h1
                 split at h1
                 · cases h1
                 · rename_i hl
                   obtain⟨d,ho⟩:=U2 k o h1
                   refine⟨hst.le.dom _ d,hst.keeps hs1.wf d (λhm=> ?_) ho⟩
                   rcases List.mem_append.1 hm with hm|hm
                   · exact hn hm
                   · exact hl hm
             · cases hq:(((bK 0 aP).sC l).dH u).get jE with
               |none=>rfl
               | some o=>
                 rcases Heap.rA _ u _ o hq with h3|⟨h3,_⟩
                 · exact absurd rfl (AV _ _ h3)
                 · rw[Heap.ur] at h3
                   split at h3
                   · cases h3
                   · rw[X0] at h3;cases h3
       split at h
       · rename_i hq;cases hq
       · rename_i t z u' l' hq
         cases hq
         split at h
         · rename_i hc
           exact key ⟨_,_,.inl rfl,hc.1⟩ hc.2 h
         · simp at h
       · rename_i t z u' l' hq
         cases hq
         split at h
         · rename_i hc
           exact key ⟨_,.bJ,.inr ⟨_,rfl⟩,hc.1⟩ hc.2 h
         · simp at h
       · simp at h
  ·simp at h
 ·simp at h
end
end Go.Abs
end
