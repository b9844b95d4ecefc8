/- Summaries of functions whose code is not gone through: what they answer. -/
import Derived.Test.YtnfnihgmankidaaGreatDoorA
import Derived.Lib.Index
import Derived.Test.YtnfnihgmankidaaGreatDoorD
import Derived.Shelf.Abstract
import Derived.WalkKit
set_option linter.unusedVariables false
set_option linter.unusedSimpArgs false
noncomputable section
namespace Go.Abs
open Go
abbrev iC:=aT->List TV->List aK->Option bB
def y2 (T:TypeId):iC:=λ_ args aQ=>match args,aQ with
 | [.ptr (.arg 0) 0],(.cells ty [.t .bQ,c1])::os=>if ty=T then some (.ret (.t (.cT [])) (.cells ty [.ptr (.arg 0) 0,c1]::os) []) else none
 | [.ptr (.arg 0) 0],(.cells ty [.ptr (.arg 0) 0,c1])::os=>some (.ret (.t (.cT [])) (.cells ty [.ptr (.arg 0) 0,c1]::os) [])
 |_,_=>none
def s7:List TV->Option (List UInt8)
 | []=>some []
 |.t (.int .u8 (.ofNat m))::r=>cond (Nat.blt m 256) ((s7 r).map (UInt8.ofNat m:: ·)) none
 |_=>none
def rJ (E:TypeId):iC:=λ_ args aQ=>match args,aQ with
 | [.ptr (.arg 0) 0],(.cells _ [_,.bX])::_=>some (.ret (.t (.str [])) aQ [])
 | [.ptr (.arg 0) 0],(.cells _ [_,.ref (.arg j) 0 len])::_=>match aQ[j]? with
  |some (.arr g 1 _ cs)=>if g.1=E/\cs.length=len/\0<len/\len<4294967296 then(s7 cs).map λs=>.ret (.t (.str s)) (aQ.set j .dead) [] else none
  |_=>none
 |_,_=>none
def vp:iC:=λ_ args aQ=>match args with
 | [.t (.str s),.t (.str p)]=>if s.length<4294967281 then some (.ret (.t (.int .i64 (Lib.index s p))) aQ []) else none
 |_=>none
def lR:iC:=λ_ args aQ=>match args with
 | [.t (.str s),.t (.int .u8 c)]=>if s.length<4294967281 then some (.ret (.t (.int .i64 (Lib.indexByte s (UInt8.ofNat c.toNat)))) aQ []) else none
 |_=>none
def ZB (H:Heap)(i:Nat):aK:=(H.get (.arg i)).getD .dead
def vq (H:Heap):Nat->Nat->List aK
 |_,0=>[]
 |i,n+1=>ZB H i::vq H (i+1) n
def x8 (H:Heap)(n:Nat)(b:Bool):Option bB:=
 let os:=vq H 0 n
 match reach H eN [] (os.flatMap aK.names) with
 |none=>none
 |some R=>(j6 H R).map λh=>.ret (.t (.bool b)) os h
def jg:Nm:=.loc [1]
def Ay (u:Heap)(l:List Nm):Bool:= !(u.any λp=>decide (p.1=jg))&& !(l.any λk=>decide (k=jg))
def ME (C:cE)(f:FuncId):Bool:=match C.P.fn f with
 |some fn=>fn.body.isSome&& !(fn.name== "runtime.NumGoroutine")
 |none=>false
def Dy (C:cE)(stop:TypeId):iC:=λev args aQ=>match args with
 | [_,.fn (.func f) fs cs]=>
  if ME C f=true then
   let H:=cm 0 aQ
   match qv ev H f (fs++cs) 0 with
   |some (.val _ u)=>if Ay u []=true then x8 (H.dR u) aQ.length true else none
   |some (.panic (.iface t _) u l)=>if t=stop/\Ay u l=true then x8 ((H.sL l).dR u) aQ.length false else none
   |some (.panic (.t (.iface t _)) u l)=>if t=stop/\Ay u l=true then x8 ((H.sL l).dR u) aQ.length false else none
   |_=>none
  else none
 |_=>none
def Tk:List (List UInt8):=[[66,111,111,108],[76,111,110,103],[83,116,114,105,110,103],[83,101,116],[65,99,116,105,111,110]]
def vr:List (List UInt8):=[[116,114,117,101],[102,97,108,115,101],[105,102],[116,104,101,110],[101,108,115,101],[105,110],[104,97,115],[105,115],[108,105,107,101],[112,101,114,109,105,116],[102,111,114,98,105,100],[119,104,101,110],[117,110,108,101,115,115],[112,114,105,110,99,105,112,97,108],[97,99,116,105,111,110],[114,101,115,111,117,114,99,101],[99,111,110,116,101,120,116],[101,110,116,105,116,121],[97,112,112,108,105,101,115,84,111]]
def Tl:List (List UInt8):=[[38,38],[124,124],[61,61],[33,61],[60],[60,61],[62],[62,61],[105,110],[43],[45],[42]]
def Tm:List (List UInt8):=[[99,111,110,116,97,105,110,115],[99,111,110,116,97,105,110,115,65,108,108],[99,111,110,116,97,105,110,115,65,110,121]]
def ZC:List UInt8:=[66,111,111,108,32,76,111,110,103,32,83,116,114,105,110,103,32,83,101,116,32,65,99,116,105,111,110]
def Tn:List UInt8:=[116,114,117,101,32,102,97,108,115,101,32,105,102,32,116,104,101,110,32,101,108,115,101,32,105,110,32,104,97,115,32,105,115,32,108,105,107,101,32,112,101,114,109,105,116,32,102,111,114,98,105,100,32,119,104,101,110,32,117,110,108,101,115,115,32,112,114,105,110,99,105,112,97,108,32,97,99,116,105,111,110,32,114,101,115,111,117,114,99,101,32,99,111,110,116,101,120,116,32,101,110,116,105,116,121,32,97,112,112,108,105,101,115,84,111]
def ZD:List UInt8:=[38,38,32,124,124,32,61,61,32,33,61,32,60,32,60,61,32,62,32,62,61,32,105,110,32,43,32,45,32,42]
def ZE:List UInt8:=[99,111,110,116,97,105,110,115,32,99,111,110,116,97,105,110,115,65,108,108,32,99,111,110,116,97,105,110,115,65,110,121]
def vt:List (List UInt8×TV):=[(ZC,.t (.sl (Tk.map .str))),(Tn,.t (.sl (vr.map .str))),(ZD,.t (.sl (Tl.map .str))),(ZE,.t (.sl (Tm.map .str)))]
def J6:List UInt8->List UInt8->Bool
 | [],[]=>true
 |a::r,b::t=>cond (Nat.beq a.toNat b.toNat) (J6 r t) false
 |_,_=>false
def J7 (s:List UInt8):List (List UInt8×TV)->Option TV
 | []=>none
 |(k,v)::r=>cond (J6 s k) (some v) (J7 s r)
def Az (tab:List (List UInt8×TV)):iC:=λ_ args aQ=>match args,aQ with
 | [.t (.str s)],[]=>match J7 s tab with
  |some v=>some (.ret v [] [])
  |none=>none
 |_,_=>none
end Go.Abs
end
noncomputable section
namespace Go.Abs
open Go
def fZ (C:cE)(g:FuncId)(s:iC):Prop:=∀ev,aF C ev->∀args aQ r,s ev args aQ=some r->∀(G:Gh) (w:World) (vs:List Value),WF G w->jJ C G->Ar G aQ.length->
 HR G w (cm 0 aQ)->cv G args vs->mI C.P g vs.toArray w (wT G w aQ.length r)
theorem vu {C:cE}{X:Ext}(h:∀g s,X g=some s->fZ C g s):Dh C X:=h
theorem MF:∀(os:List aK) (i j:Nat) (o:aK),os[j]?=some o->(cm i os).get (.arg (i+j))=some o:=by
 intro os;induction os with
 |nil=>intro i j o h;simp at h
 | cons x r ih=>
  intro i j o h
  cases j with
  |zero=>simp at h;subst h;simp[cm,Heap.get]
  | succ j=>
   simp at h
   have:=ih (i+1) j o h
   have e:i+(j+1)=i+1+j:=by omega
   rw[e]
   simp only[cm,Heap.get]
   have hne:¬(Nm.arg i=Nm.arg (i+1+j)):=by intro he;injection he with he;omega
   first
    |rw[if_neg hne];exact this
    |simpa [hne] using this
section
variable {C:cE}{g:FuncId}{G:Gh}{w:World}{vs:List Value}
theorem gP {aQ:List aK}(hH:HR G w (cm 0 aQ)):∀i o,aQ[i]?=some o->G.dom (.arg i)/\OR G w (.arg i) o:=by
 intro i o ho;have:=MF aQ 0 i o ho;rw[Nat.zero_add] at this;exact hH _ _ this
theorem Dz {aQ:List aK}{x:TV}{v:Value}(hw:WF G w)(hH:HR G w (cm 0 aQ))(hx:VR G x v):wT G w aQ.length (.ret x aQ []) (.returned v) w:=
 ⟨v,G,rfl,Step.refl hw _ _,rfl,gP hH,λ_ _ h=>by simp at h,hx⟩
theorem cv.only {x:TV}(h:cv G [x] vs):∃v,vs=[v]/\VR G x v:=by
 obtain⟨v,r,rfl,hv,hr⟩:=h.gq;have:r=[]:=List.eq_nil_of_length_eq_zero (by simpa using hr.1);subst this;exact⟨v,rfl,hv⟩
theorem cv.two {x y:TV}(h:cv G [x,y] vs):∃v u,vs=[v,u]/\VR G x v/\VR G y u:=by
 obtain⟨v,r,rfl,hv,hr⟩:=h.gq;obtain⟨u,rfl,hu⟩:=hr.only;exact⟨v,u,rfl,hv,hu⟩
theorem VR.H8 {s:List UInt8}{v:Value}(h:VR G (.t (.str s)) v):v=.string ⟨s.toArray⟩:=by
 cases h with|t _ _ h=>cases h;rfl
theorem VR.lS {k:IntKind}{n:Int}{v:Value}(h:VR G (.t (.int k n)) v):v=.int k n:=by
 cases h with|t _ _ h=>cases h;rfl
theorem VR.MG {v:Value}(h:VR G (.t .bQ) v):v=.pointer none:=by
 cases h with|t _ _ h=>cases h;rfl
theorem VR.J8 {v:Value}(h:VR G .bX v):v=.slice none 0 0:=by
 cases h;rfl
theorem VR.y5 {k:Nm}{o:Nat}{v:Value}(h:VR G (.ptr k o) v):v=.pointer (some ⟨G.mu k,o,none⟩)/\G.dom k/\G.arr k=none:=by
 cases h with|ptr _ _ hd hn=>exact⟨rfl,hd,hn⟩
theorem J9 {gm:Nat}{m:Int}(hgm:C.iL gm=some [.int .i64 m])(MH:∀args w,(callFunc g args).run C.P.prog w=.ok (.enter g args) w)
 (hc:∀(s sub:ByteArray) (m:Int) (w:World),s.size<4294967281->w.cell? ⟨gm,0,none⟩=some (.int .i64 m)->
  Calls C.P.prog g #[.string s,.string sub] w λe w'=>e=.returned (.int .i64 (Lib.index s.data.toList sub.data.toList))/\w'=w):fZ C g vp:=by
 intro ev aC args aQ r h G w vs hw hg had hH hv
 unfold vp at h
 split at h
 ·rename_i s p;split at h
  ·rename_i hlt;simp at h;subst h;obtain⟨x,y,rfl,hx,hy⟩:=hv.two;rw[hx.H8,hy.H8];obtain⟨vals,h1,h2⟩:=hg gm _ hgm;have e1:=h1 0 _ rfl;have e2:=h2 0 _ rfl;obtain⟨us,ty,fr,hh,hu⟩:=hw.F _ _ _ e1;have hcell:w.cell? ⟨gm,0,none⟩=some (.int .i64 m):=by
    rw[cell_of hh,show(0:Nat)=0+0 from rfl,hu];generalize vals 0=v0 at e2;cases e2;rfl
   refine .inl ⟨MH _ _,(hc ⟨s.toArray⟩ ⟨p.toArray⟩ m w hlt hcell).mono ?_⟩;rintro e w' ⟨rfl,rfl⟩;exact Dz hw hH (.t _ _ (.int _ _))
  ·simp at h
 ·simp at h
theorem BZ (MH:∀args w,(callFunc g args).run C.P.prog w=.ok (.enter g args) w)
 (hc:∀(s:ByteArray) (c:Int) (w:World),Calls C.P.prog g #[.string s,.int .u8 c] w λe w'=>e=.returned (.int .i64 (Lib.indexByte s.data.toList (UInt8.ofNat c.toNat)))/\w'=w):fZ C g lR:=by
 intro ev aC args aQ r h G w vs hw hg had hH hv
 unfold lR at h
 split at h
 ·rename_i s c;split at h
  ·simp at h;subst h;obtain⟨x,y,rfl,hx,hy⟩:=hv.two;rw[hx.H8,hy.lS];refine .inl ⟨MH _ _,(hc ⟨s.toArray⟩ c w).mono ?_⟩;rintro e w' ⟨rfl,rfl⟩;exact Dz hw hH (.t _ _ (.int _ _))
  ·simp at h
 ·simp at h
theorem OL:∀{a b:List UInt8},J6 a b=true->a=b
 | [],[],_=>rfl
 | [],_::_,h=>by simp[J6] at h
 |_::_,[],h=>by simp[J6] at h
 | a::r,b::t,h=>by
   simp only[J6] at h
   cases hn:Nat.beq a.toNat b.toNat with
   |false=>rw[hn] at h;cases h
   |true=>
    rw[hn] at h
    have e:a=b:=UInt8.toNat_inj.1 (Nat.eq_of_beq_eq_true hn)
    rw[e,OL (show J6 r t=true from h)]
theorem DA {s:List UInt8}{v:TV}:∀{tab:List (List UInt8×TV)},J7 s tab=some v->(s,v)∈tab
 | [],h=>by simp[J7] at h
 | (k,u)::r,h=>by
   simp only[J7] at h
   cases hb:J6 s k with
   |false=>rw[hb] at h;exact List.mem_cons_of_mem _ (DA h)
   |true=>
    rw[hb] at h
    have e:=OL hb
    subst e
    obtain rfl:u=v:=by simpa using h
    exact List.mem_cons_self
theorem QM {tab:List (List UInt8×TV)}{ev0:aT}(ahM:aF C ev0)(h0:∀p∈tab,ev0 g [.t (.str p.1)] []=some (.ret p.2 [] [])):fZ C g (Az tab):=by
 intro ev aC args aQ r h G w vs hw hg had hH hv;unfold Az at h;split at h
 ·rename_i s;split at h
  ·rename_i v hf;simp at h;subst h;exact ahM g _ _ _ (h0 _ (DA hf)) G w vs hw hg had hH hv
  ·simp at h
 ·simp at h
theorem wA {k:Nm}{ty:TypeId}{a b:TV}(ho:OR G w k (.cells ty [a,b])):
 G.arr k=none/\∃x y fr,w.heap[G.mu k]?=some (.cells #[x,y] ty fr)/\pN #[x,y] fr/\VR G a x/\VR G b y/\∀o,G.F (G.mu k) o=none:=by
 obtain⟨ha,us,ty',fr,hh,⟨o6,rfl⟩,hv,hF⟩:=ho
 obtain⟨us⟩:=us
 obtain⟨x,y,rfl,hx,hy⟩:=hv.two
 exact⟨ha,x,y,fr,hh,o6,hx,hy,hF⟩
theorem ni {us:Array Value}{ty:TypeId}{fr:Nat×Nat}{b o:Nat}(hh:w.heap[b]?=some (.cells us ty fr))(ht:pN us fr)(ho:o<us.size):w.frozen? ⟨b,o,none⟩=false:=by
 rw[F0 hh];have:=ht o ho;simp only[Bool.and_eq_false_iff,decide_eq_false_iff_not];by_cases h1:fr.1<=o
 ·right;exactλh2=>this ⟨h1,h2⟩
 ·left;exact h1
theorem MI {T:TypeId}(MH:∀args w,(callFunc g args).run C.P.prog w=.ok (.enter g args) w)
 (hf:∀(b:Nat) (w:World),w.cell? ⟨b,0,none⟩=some (.pointer none)->w.shape? b=some (T,2)->w.frozen? ⟨b,0,none⟩=false->
  Calls C.P.prog g #[.pointer (some ⟨b,0,none⟩)] w λe w'=>e=.returned (.tuple #[])/\w'=w.setCell ⟨b,0,none⟩ (.pointer (some ⟨b,0,none⟩)))
 (hu:∀(b:Nat) (w:World),w.cell? ⟨b,0,none⟩=some (.pointer (some ⟨b,0,none⟩))->
  Calls C.P.prog g #[.pointer (some ⟨b,0,none⟩)] w λe w'=>e=.returned (.tuple #[])/\w'=w):fZ C g (y2 T):=by
 intro ev aC args aQ r h G w vs hw hg had hH hv
 unfold y2 at h
 split at h
 ·rename_i ty c1 os;split at h
  ·rename_i hT;subst hT;simp at h;subst h;obtain⟨x,rfl,hx⟩:=hv.only;obtain⟨rfl,hd,hn⟩:=hx.y5;obtain⟨_,ho⟩:=gP hH 0 _ rfl;obtain⟨ha,x,y,fr,hh,o6,hx0,hy0,hF⟩:=wA ho;have:=hx0.MG;subst this;refine .inl ⟨MH _ _,(hf (G.mu (.arg 0)) w (by rw[cell_of hh];rfl) (by simp[World.shape?,hh]) (ni hh o6 (by simp))).mono ?_⟩;rintro e w' ⟨rfl,rfl⟩;rw[lC hh];have hst:=iV (vs:=[.pointer (some ⟨G.mu (.arg 0),0,none⟩),y]) hw hd (Gh.iQ ha) hh (λo ⟨u,hu⟩=>by rw[hF] at hu;simp at hu);refine⟨_,G,rfl,hst.mono (λ_ _ _=>trivial) (λ_ h=>h.elim),rfl,λi o ho'=> ?_,λ_ _ h=>by simp at h,.t _ _ (.cT [] [] rfl (by simp))⟩;cases i with
   | zero=>
     simp at ho'
     subst ho'
     refine⟨hd,ha, #[.pointer (some ⟨G.mu (.arg 0),0,none⟩),y],_,fr,cM (hw.lt _ hd) _ _ _,⟨?_,rfl⟩, ?_,hF⟩
     · intro o Md;exact o6 o (by simpa using Md)
     · exact cv.cons hx (cv.cons hy0 (cv.nil G))
   | succ i=>
     obtain⟨hd',Md⟩:=gP hH (i+1) o (by simpa using ho')
     refine⟨hd',hst.keeps hw hd' ?_ Md⟩
     intro e;injection e with e;omega
  ·simp at h
 ·rename_i ty c1 os;simp at h;subst h;obtain⟨x,rfl,hx⟩:=hv.only;obtain⟨rfl,hd,hn⟩:=hx.y5;obtain⟨_,ho⟩:=gP hH 0 _ rfl;obtain⟨ha,x,y,fr,hh,o6,hx0,hy0,hF⟩:=wA ho;obtain⟨rfl,_,_⟩:=hx0.y5;refine .inl ⟨MH _ _,(hu (G.mu (.arg 0)) w (by rw[cell_of hh];rfl)).mono ?_⟩;rintro e w' ⟨rfl,rfl⟩;exact Dz hw hH (.t _ _ (.cT [] [] rfl (by simp)))
 ·simp at h
theorem xo:∀{cs:List TV} {l:List UInt8} {us:List Value},s7 cs=some l->cv G cs us->l.length=cs.length/\∀(j:Nat) x,l[j]?=some x->us[j]?=some (.int .u8 x.toNat)
 | [],l,us,h,hv=>by simp[s7] at h;subst h;simp
 |c  ::cs,l,us,h,hv=>by
  unfold s7 at h;split at h
  ·cases ‹c::cs=[]›
  ·rename_i m r he;injection he with h1 h2;subst h1;subst h2;cases hm:Nat.blt m 256 with
   |false=>rw[hm] at h;cases h
   | true=>
     rw[hm] at h
     cases hb:s7 cs with
     |none=>rw[hb] at h;cases h
     | some l'=>
       rw[hb] at h
       simp at h
       subst h
       obtain⟨v,vs',rfl,hx,hr⟩:=hv.gq
       obtain⟨e1,e2⟩:=xo hb hr
       have hlt:m<256:=by simpa [Nat.blt_eq] using hm
       refine⟨by simp[e1],λj x hj=> ?_⟩
       cases j with
       | zero=>
         simp at hj
         subst hj
         have:=hx.lS
         subst this
         have:(UInt8.ofNat m).toNat=m:=by simp;omega
         rw[this]
         rfl
       |succ j=>simpa using e2 j x (by simpa using hj)
  ·cases h
theorem H9 {b n:Nat}{us:Array Value}{ty:TypeId}{fr:Nat×Nat}(hh:w.heap[b]?=some (.cells us ty fr))(hn:n≠0):
 ∃fr',w.freeze ⟨b,0,none⟩ n=World.bl w b us ty fr':=by
 refine⟨if fr.1==fr.2 then(0,0+n) else(min fr.1 0,max fr.2 (0+n)), ?_⟩
 unfold World.freeze World.bl
 rw[if_neg hn]
 congr 1
 apply Array.ext_getElem?
 intro i
 rw[Array.getElem?_modify,Array.getElem?_setIfInBounds]
 have hb:b<w.heap.size:=(Array.getElem?_eq_some_iff.1 hh).1
 by_cases e:b=i
 ·subst e;rw[if_pos rfl,if_pos rfl,if_pos hb,hh];rfl
 ·rw[if_neg e,if_neg e]
theorem y7 (hw:WF G w){k:Nm}(hd:G.dom k)(ak:G.alive k){us:Array Value}{ty:TypeId}{fr fr':Nat×Nat}(hh:w.heap[G.mu k]?=some (.cells us ty fr)):
 Step (λx=>x=k) (λ_=>False) G w G (World.bl w (G.mu k) us ty fr'):=by
 refine⟨.refl G,⟨λb o u h=> ?_,hw.inj,λk d=>by rw[lF];exact hw.lt k d⟩,λ_ _ _=>⟨rfl,rfl⟩,λb hb hn=>⟨gO (hn k rfl hd ak) _ _ _,λ_=>rfl⟩,λ_ d=>.inl d,λk d=>.inl ⟨k,d,rfl,.inl rfl⟩,by rw[lF];exact Nat.le_refl _,rfl,rfl,rfl⟩
 obtain⟨us',ty',fr2,h1,h2⟩:=hw.F b o u h
 by_cases e:G.mu k=b
 ·subst e;rw[hh] at h1;simp at h1;obtain⟨rfl,_,_⟩:=h1;exact⟨us,ty,fr',cM (hw.lt k hd) _ _ _,h2⟩
 ·exact⟨us',ty',fr2,by rw[gO e];exact h1,h2⟩
theorem Ia {E:TypeId}(MH:∀args w,(callFunc g args).run C.P.prog w=.ok (.enter g args) w)
 (hnil:∀(b:Nat) (w:World),w.cell? ⟨b,1,none⟩=some (.slice none 0 0)->
  Calls C.P.prog g #[.pointer (some ⟨b,0,none⟩)] w λe w'=>e=.returned (.string ⟨#[]⟩)/\w'=w.drew)
 (hrow:∀(b a cap cells:Nat) (l:List UInt8) (w:World),w.cell? ⟨b,1,none⟩=some (.slice (some ⟨a,0,none⟩) l.length cap)->w.shape? a=some (E,cells)->l.length<=cells->l≠ []->cap≠0->l.length<4294967296->
  (∀(j:Nat) x,l[j]?=some x->w.cell? ⟨a,j,none⟩=some (.int .u8 x.toNat))->
  Calls C.P.prog g #[.pointer (some ⟨b,0,none⟩)] w λe w'=>e=.returned (.string ⟨l.toArray⟩)/\w'=w.drew.freeze ⟨a,0,none⟩ l.length):fZ C g (rJ E):=by
 intro ev aC args aQ r h G w vs hw hg had hH hv
 unfold rJ at h
 split at h
 ·rename_i ty c0 os;simp at h;subst h;obtain⟨x,rfl,hx⟩:=hv.only;obtain⟨rfl,hd,hn⟩:=hx.y5;obtain⟨_,ho⟩:=gP hH 0 _ rfl;obtain⟨ha,x,y,fr,hh,o6,hx0,hy0,hF⟩:=wA ho;have:=hy0.J8;subst this;refine .inl ⟨MH _ _,(hnil (G.mu (.arg 0)) w (by rw[cell_of hh];rfl)).mono ?_⟩;rintro e w' ⟨rfl,rfl⟩;exact⟨_,G,rfl,iH hw _ _,rfl,λi o ho'=>⟨(gP hH i o ho').1,by have:=(gP hH i o ho').2;cases o<;>exact this⟩,λ_ _ h=>by simp at h,.t _ _ (.str [])⟩
 ·rename_i ty c0 j len os;split at h
  ·rename_i gg fz cs hj;split at h
   ·rename_i hc;obtain⟨hE,hlen,hpos,hbig⟩:=hc;cases hb:s7 cs with
    |none=>rw[hb] at h;simp at h
    | some l=>
      rw[hb] at h
      simp at h
      subst h
      obtain⟨x,rfl,hx⟩:=hv.only
      obtain⟨rfl,hd,hn⟩:=hx.y5
      obtain⟨_,ho⟩:=gP hH 0 _ rfl
      obtain⟨ha,x,y,fr,hh,o6,hx0,hy0,hF⟩:=wA ho
      obtain⟨hdj,adk,cap,us,ty2,fr2,har,hh2,⟨aj9,ahN⟩,hsz,hle,hvs,hF2⟩:=gP hH j _ hj
      obtain⟨Jm,hl2⟩:=xo hb hvs
      cases hy0 with|ref _ _ _ n' Sn cap' _ hd' uU hle' hoo Oz=>
      rw[har] at uU
      simp at uU
      obtain⟨e1,e2,e3⟩:=uU
      subst e2;subst e3
      obtain⟨ad,rfl,ahO⟩:=Oz (by omega)
      have hcap:0<cap:=by omega
      have ahP:=ahO hcap
      subst ahP
      simp only[Nat.zero_mul,Nat.sub_zero] at hh
      have hll:l.length=len:=by omega
      have hne:l≠ []:=by intro e;subst e;simp at hll;omega
      subst hE
      refine .inl ⟨MH _ _,(hrow (G.mu (.arg 0)) (G.mu (.arg j)) cap us.size l w (by rw[cell_of hh,hll];rfl) (by simp[World.shape?,hh2,ahN]) (by omega) hne (by omega) (by omega) ?_).mono ?_⟩
      · intro q x hq
        have:=hl2 q x hq
        rw[List.getElem?_take] at this
        split at this
        · rw[cell_of hh2];simpa using this
        · cases this
      rintro e w' ⟨rfl,rfl⟩
      have adl:w.drew.heap[G.mu (.arg j)]?=some (.cells us ty2 fr2):=hh2
      obtain⟨fr3,hfr⟩:=H9 adl (n:=l.length) (by omega)
      rw[hfr]
      have hst:=(iH hw (λ_=>False) (λ_=>False)).trans (y7 hw.drew hdj (Gh.iD har adk) (fr':=fr3) adl)
      have iX:Step (λx=>x=Nm.arg j) (λ_=>False) G w G (World.bl w.drew (G.mu (.arg j)) us ty2 fr3):=hst.mono (λ_ _ h=>by simpa using h) (λ_ h=>by simp at h)
      refine⟨_,G,rfl,iX.mono (λ_ _ _=>trivial) (λ_ h=>h.elim),by simp,λi o ho'=> ?_,λ_ _ h=>by simp at h,.t _ _ (.str l)⟩
      by_cases hij:i=j
      · subst hij
        rw[List.getElem?_set_self (List.getElem?_eq_some_iff.1 hj).1] at ho'
        simp at ho'
        subst ho'
        exact⟨hdj,trivial⟩
      · rw[List.getElem?_set_ne (λe=>hij e.symm)] at ho'
        obtain⟨hd3,ho3⟩:=gP hH i o ho'
        exact⟨hd3,iX.keeps hw hd3 (by intro e;injection e with e;exact hij e) ho3⟩
   ·simp at h
  ·simp at h
 ·simp at h
end
end Go.Abs
end
noncomputable section
namespace Go.Abs
open Go
section
variable {C:cE}{g:FuncId}{G:Gh}{w:World}{vs:List Value}
theorem Gv {u:Heap}{l:List Nm}(h:Ay u l=true):(∀k o,(k,o)∈u->k≠jg)/\∀k∈l,k≠jg:=by
 unfold Ay at h;simp only[Bool.and_eq_true,Bool.not_eq_true',List.any_eq_false,decide_eq_true_eq] at h;exact⟨λk o hm=>h.1 (k,o) hm,λk hm=>h.2 k hm⟩
theorem xq (H:Heap):∀(n i:Nat),(vq H i n).length=n
 |0,_=>rfl
 |n+1,i=>by simp[vq,xq H n (i+1)]
theorem Gw (H:Heap):∀(n i j:Nat) (o:aK),(vq H i n)[j]?=some o->j<n/\(H.get (.arg (i+j))=some o\/o=.dead)
 |0,_,_,_,h=>by simp[vq] at h
 | n+1,i,j,o,h=>by
   cases j with
   |zero=>
    simp[vq,ZB] at h
    cases hg:H.get (.arg i) with
    |none=>rw[hg] at h;simp at h;exact⟨by omega,.inr h.symm⟩
    |some o'=>rw[hg] at h;simp at h;subst h;exact⟨by omega,.inl (by first|rfl|exact hg)⟩
   |succ j=>
    have:=Gw H n (i+1) j o (by simpa [vq] using h)
    refine⟨by omega, ?_⟩
    rw[show i+(j+1)=i+1+j from by omega]
    exact this.2
theorem QN {H:Heap}{n:Nat}{b:Bool}{r:bB}(h:x8 H n b=some r)(hd:∀i,i<n->G.dom (.arg i))(hH:HR G w H){G0:Gh}{w0:World}
 (hs:Step (λ_=>True) (λk=>k.eY=true) G0 w0 G w):wT G0 w0 n r (.returned (.bool b)) w:=by
 unfold x8 at h
 simp only at h
 split at h
 ·simp at h
 rename_i R hR
 cases hn:j6 H R with
 |none=>rw[hn] at h;simp at h
 | some hh=>
   rw[hn] at h
   simp at h
   subst h
   refine⟨_,G,rfl,hs,xq H n 0,λi o ho=> ?_,λk o hm=> ?_,.t _ _ (.bool b)⟩
   · obtain⟨hi,h2⟩:=Gw H n 0 i o ho
     rw[Nat.zero_add] at h2
     rcases h2 with h2|rfl
     · exact hH _ _ h2
     · exact⟨hd i hi,trivial⟩
   · obtain⟨h1,h2⟩:=qx hn k o hm
     exact⟨h1,hH _ _ h2⟩
theorem qV {f:FuncId}(h:ME C f=true)(args:Array Value)(w:World):(callFunc f args).run C.P.prog w=.ok (.enter f args) w:=by
 unfold ME at h;split at h
 ·rename_i fn hfn;simp only[Bool.and_eq_true,Option.isSome_iff_exists,Bool.not_eq_true'] at h;obtain⟨⟨c,hc⟩,hn⟩:=h;have h1:fn.name≠ "runtime.NumGoroutine" :=by simpa using hn
  simp[callFunc,C.P.Qa _ _ hfn,h1,hc,mark]
 ·simp at h
theorem QO        {stop tb:TypeId}(MH:∀args w,(callFunc g args).run C.P.prog w=.ok (.enter g args) w)
 (hw0 :∀(rv:Value) (f:FuncId) (fs cs:Array Value) (w:World) (R:Ending->World->Prop),
  (∀args w,(callFunc f args).run C.P.prog w=.ok (.enter f args) w)->
  Calls C.P.prog f (fs++cs) (w.alloc (.cells #[.bool false] tb)) R->
  (∀e w',R e w'->w'.cell? ⟨w.heap.size,0,none⟩=some (.bool false)/\w'.frozen? ⟨w.heap.size,0,none⟩=false/\((∃v,e=.returned v)\/∃pv,e=.panicked [{v:=.iface stop pv,recovered:=false}]))->
  Calls C.P.prog g #[rv,.func (.func f) fs cs] w λe w'=>∃e' w2,R e' w2/\
   (((∃v,e'=.returned v)/\e=.returned (.bool true)/\w'=w2.setCell ⟨w.heap.size,0,none⟩ (.bool true))\/
    ((∃pv,e'=.panicked [{v:=.iface stop pv,recovered:=false}])/\e=.returned (.bool false)/\w'=w2.setCell ⟨w.heap.size,0,none⟩ (.bool false)))):
 fZ C g (Dy C stop):=by
 intro ev aC args aQ r h G w vs hw hg had hH hv
 unfold Dy at h
 split at h
 ·rename_i rv f fs cs;split at h
  ·rename_i aaT;obtain⟨x,y,rfl,hx,hy⟩:=hv.two;cases hy with|fn _ _ _ ls ms Jm h1 hl2 h2=>
   simp only at h;have hfr:¬G.dom jg:=had.2 [1];have hs1:Step (λ_=>False) (λk=>k=jg) G w (G.add jg w.heap.size none) (World.cN w (.cells #[.bool false] tb)):=ko hw hfr _ _ _;obtain⟨hd1,ho1⟩:=Ao (cs:=[.t (.bool false)]) (vs:=[.bool false]) hw hfr (cv.cons (.t _ _ (.bool false)) (cv.nil G)) tb;generalize hG1:G.add jg w.heap.size none=G1 at hs1 hd1 ho1;have adn:G1.mu jg=w.heap.size:=by rw[← hG1];simp[Gh.add]
   have ado:∀k,G1.dom k->G.dom k\/k=jg:=λk d=>hs1.news k d
   have W9:HR G1 (World.cN w (.cells #[.bool false] tb)) (cm 0 aQ):=by
    intro k o hk;obtain⟨d,ho⟩:=hH k o hk;exact⟨hs1.le.dom _ d,hs1.keeps hw d (λh=>h) ho⟩
   have Tp:cv G1 (fs++cs) (ls++ms):=(cv.append ⟨Jm,h1⟩ ⟨hl2,h2⟩).mono hs1.le;cases xu:qv ev (cm 0 aQ) f (fs++cs) 0 with
   |none=>rw[xu] at h;simp at h
   | some res=>
     rw[xu] at h
     have hres:=C9 aC xu hs1.wf (hg.mono hs1.le) W9 (λp d=>by
       rcases ado _ d with d|d
       · exact had.2 _ d
       · simp[jg] at d) Tp
     have hC:Calls C.P.prog f (ls.toArray++ms.toArray) (w.alloc (.cells #[.bool false] tb)) (ny 0 G1 (World.cN w (.cells #[.bool false] tb)) res):=by
       rcases hres with ⟨_,hc⟩|⟨v,w',hc,_⟩
       · have e:(ls++ms).toArray=ls.toArray++ms.toArray:=by simp
         rw[e] at hc
         exact hc
       · rw[qV aaT] at hc
         cases hc
     have hcell:∀(W N:Nm->Prop) (G2:Gh) (w2:World),Step W N G1 (World.cN w (.cells #[.bool false] tb)) G2 w2->¬W jg->
         G2.dom jg/\G2.mu jg=w.heap.size/\∃fr,w2.heap[w.heap.size]?=some (.cells #[.bool false] tb fr)/\pN #[.bool false] fr/\∀o,G2.F w.heap.size o=none:=by
       intro W N G2 w2 hst Tq
       have Md:=hst.keeps hs1.wf hd1 Tq ho1
       have Ka:=(hst.same _ hd1 Tq).1
       obtain⟨_,us,ty',fr,hh,⟨o6,rfl⟩,Oz,hF⟩:=Md
       obtain⟨us⟩:=us
       obtain⟨x0,rfl,hx0⟩:=Oz.only
       cases hx0 with|t _ _ hx0=>
       cases hx0
       rw[Ka,adn] at hh hF
       exact⟨hst.le.dom _ hd1,Ka.trans adn,fr,hh,o6,hF⟩
     have hend:∀(W N:Nm->Prop) (G2:Gh) (w2:World) (H2:Heap) (b:Bool) (r:bB),Step W N G1 (World.cN w (.cells #[.bool false] tb)) G2 w2->¬W jg->(∀k,N k->k.eY=true)->
         HR G2 w2 H2->H2.get jg=none->x8 H2 aQ.length b=some r->wT G w aQ.length r (.returned (.bool b)) (w2.setCell ⟨w.heap.size,0,none⟩ (.bool b)):=by
       intro W N G2 w2 H2 b r hst Tq hN hH2 hno hr
       obtain⟨hd2,Ka,fr,hh,o6,hF⟩:=hcell W N G2 w2 hst Tq
       rw[lC hh]
       have CZ:w2.heap[G2.mu jg]?=some (.cells #[.bool false] tb fr):=by rw[Ka];exact hh
       have ak2:G2.alive jg:=Gh.iQ (hst.keeps hs1.wf hd1 Tq ho1).1
       have aaU:=iV (vs:=[.bool b]) hst.wf hd2 ak2 CZ (λo ⟨u,hu⟩=>by rw[Ka,hF] at hu;simp at hu)
       rw[Ka] at aaU
       have hall:Step (λ_=>True) (λk=>k.eY=true) G w G2 (World.bl w2 w.heap.size [.bool b].toArray tb fr):=
         ((hs1.trans hst).trans aaU).mono (λ_ _ _=>trivial) (λk hk=>by
           rcases hk with (rfl|hk)|hk
           · rfl
           · exact hN k hk
           · exact hk.elim)
       refine QN hr (λi hi=>hall.le.dom _ (had.1 i hi)) ?_ hall
       intro k o hk
       obtain⟨d,ho⟩:=hH2 k o hk
       refine⟨d,aaU.keeps hst.wf d ?_ ho⟩
       intro e
       subst e
       rw[hno] at hk
       cases hk
     have ZF:(cm 0 aQ).get jg=none:=by
       cases hq:(cm 0 aQ).get jg with
       |none=>rfl
       | some o=>
         obtain⟨j,hj,_⟩:=Bp hq
         simp[jg] at hj
     cases res with
     | val v u =>
       simp only at h
       split at h
       · rename_i hfree
         obtain⟨C3,_⟩:=Gv hfree
         have Tq:¬jg∈u.map (·.1):=by
           intro hm
           obtain⟨⟨k,o⟩,hm,e⟩:=List.mem_map.1 hm
           exact C3 k o hm e
         refine .inl ⟨MH _ _,(hw0 x f ls.toArray ms.toArray w _ (qV aaT) hC ?_).mono ?_⟩
         · rintro e w2 ⟨x2,G2,rfl,hst,hu,hx2⟩
           obtain⟨_,Ka,fr,hh,o6,hF⟩:=hcell _ _ _ _ hst Tq
           exact⟨by rw[cell_of hh];rfl,ni hh o6 (by simp),.inl ⟨_,rfl⟩⟩
         · rintro e w' ⟨e',w2,⟨x2,G2,rfl,hst,hu,hx2⟩,hor⟩
           rcases hor with ⟨_,rfl,rfl⟩|⟨⟨pv,hpv⟩,_,_⟩
           · refine hend _ _ G2 w2 _ true r hst Tq (λk ⟨p,hp⟩=>by rw[hp];rfl) ?_ ?_ h
             · exact HR.dR hst hs1.wf W9 hu (λk _ hk=>hk)
             · cases hq:((cm 0 aQ).dR u).get jg with
               |none=>rfl
               | some o=>
                 rcases Heap.q6 _ u _ o hq with h3|⟨h3,_⟩
                 · exact absurd rfl (C3 _ _ h3)
                 · rw[ZF] at h3;cases h3
           · cases hpv
       · simp at h
     | panic v u l =>
       have key:∀(hstop:∃t z,(v=.iface t z\/∃z',v=.t (.iface t z'))/\t=stop) (hfree:Ay u l=true) (h:x8 (((cm 0 aQ).sL l).dR u) aQ.length false=some r),
           mI C.P g [x,.func (.func f) ls.toArray ms.toArray].toArray w (wT G w aQ.length r):=by
         rintro ⟨t,z,hvz,rfl⟩ hfree h
         obtain⟨C3,C4⟩:=Gv hfree
         have Tq:¬jg∈u.map (·.1)++l:=by
           intro hm
           rcases List.mem_append.1 hm with hm|hm
           · obtain⟨⟨k,o⟩,hm,e⟩:=List.mem_map.1 hm
             exact C3 k o hm e
           · exact C4 _ hm rfl
         refine .inl ⟨MH _ _,(hw0 x f ls.toArray ms.toArray w _ (qV aaT) hC ?_).mono ?_⟩
         · rintro e w2 ⟨x2,G2,rfl,hst,hu,hx2⟩
           obtain⟨_,Ka,fr,hh,o6,hF⟩:=hcell _ _ _ _ hst Tq
           refine⟨by rw[cell_of hh];rfl,ni hh o6 (by simp),.inr ?_⟩
           rcases hvz with rfl|⟨z',rfl⟩
           · cases hx2;exact⟨_,rfl⟩
           · cases hx2 with|t _ _ hx2=>cases hx2;exact⟨_,rfl⟩
         · rintro e w' ⟨e',w2,⟨x2,G2,rfl,hst,hu,hx2⟩,hor⟩
           rcases hor with ⟨⟨v2,hv2⟩,_,_⟩|⟨_,rfl,rfl⟩
           · cases hv2
           · refine hend _ _ G2 w2 _ false r hst Tq (λk ⟨p,hp⟩=>by rw[hp];rfl) ?_ ?_ h
             · intro k o hk
               rcases Heap.q6 _ u k o hk with h1|⟨h1,hn⟩
               · exact hu k o h1
               · rw[Heap.uQ] at h1
                 split at h1
                 · cases h1
                 · rename_i hl
                   obtain⟨d,ho⟩:=W9 k o h1
                   refine⟨hst.le.dom _ d,hst.keeps hs1.wf d (λhm=> ?_) ho⟩
                   rcases List.mem_append.1 hm with hm|hm
                   · exact hn hm
                   · exact hl hm
             · cases hq:(((cm 0 aQ).sL l).dR u).get jg with
               |none=>rfl
               | some o=>
                 rcases Heap.q6 _ u _ o hq with h3|⟨h3,_⟩
                 · exact absurd rfl (C3 _ _ h3)
                 · rw[Heap.uQ] at h3
                   split at h3
                   · cases h3
                   · rw[ZF] at h3;cases h3
       split at h
       · rename_i hq;cases hq
       · rename_i t z u' l' hq
         cases hq
         split at h
         · rename_i hc
           exact key ⟨_,_,.inl rfl,hc.1⟩ hc.2 h
         · simp at h
       · rename_i t z u' l' hq
         cases hq
         split at h
         · rename_i hc
           exact key ⟨_,.bX,.inr ⟨_,rfl⟩,hc.1⟩ hc.2 h
         · simp at h
       · simp at h
  ·simp at h
 ·simp at h
end
end Go.Abs
end
