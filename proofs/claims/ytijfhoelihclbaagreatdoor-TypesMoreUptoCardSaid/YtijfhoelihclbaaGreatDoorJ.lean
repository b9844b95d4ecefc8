/- Summaries of functions whose code is not gone through: what they answer. -/
import Derived.Test.YtijfhoelihclbaaGreatDoorA
import Derived.Lib.Index
import Derived.Test.YtijfhoelihclbaaGreatDoorD
import Derived.Shelf.Abstract
import Derived.WalkKit
noncomputable section
namespace Go.Abs
open Go
abbrev rF:=aW→List TV→List aV→Option bG
def yY (T:TypeId):rF:=fun _ args aX=>match args,aX with
 | [.ptr (.arg 0) 0],(.cells ty [.t .cG,c1])::os=>if ty=T then some (.ret (.t (.bX [])) (.cells ty [.ptr (.arg 0) 0,c1]::os) []) else none
 | [.ptr (.arg 0) 0],(.cells ty [.ptr (.arg 0) 0,c1])::os=>some (.ret (.t (.bX [])) (.cells ty [.ptr (.arg 0) 0,c1]::os) [])
 |_,_=>none
def tK:List TV→Option (List UInt8)
 | []=>some []
 |.t (.int .u8 (.ofNat m))::r=>cond (Nat.blt m 256) ((tK r).map (UInt8.ofNat m:: ·)) none
 |_=>none
def sF (E:TypeId):rF:=fun _ args aX=>match args,aX with
 | [.ptr (.arg 0) 0],(.cells _ [_,.aL])::_=>some (.ret (.t (.str [])) aX [])
 | [.ptr (.arg 0) 0],(.cells _ [_,.ref (.arg j) 0 len])::_=>match aX[j]? with
  |some (.arr g 1 _ cs)=>if g.1=E∧cs.length=len∧0<len∧len<4294967296 then(tK cs).map fun s=>.ret (.t (.str s)) (aX.set j .dead) [] else none
  |_=>none
 |_,_=>none
def vz:rF:=fun _ args aX=>match args with
 | [.t (.str s),.t (.str p)]=>if s.length<4294967281 then some (.ret (.t (.int .i64 (Lib.index s p))) aX []) else none
 |_=>none
def mF:rF:=fun _ args aX=>match args with
 | [.t (.str s),.t (.int .u8 c)]=>if s.length<4294967281 then some (.ret (.t (.int .i64 (Lib.indexByte s (UInt8.ofNat c.toNat)))) aX []) else none
 |_=>none
def ZX (H:Heap)(i:Nat):aV:=(H.get (.arg i)).getD .dead
def vA (H:Heap):Nat→Nat→List aV
 |_,0=>[]
 |i,n+1=>ZX H i::vA H (i+1) n
def xM (H:Heap)(n:Nat)(b:Bool):Option bG:=
 let os:=vA H 0 n
 match reach H fL [] (os.flatMap aV.names) with
 |none=>none
 |some R=>(j7 H R).map fun h=>.ret (.t (.bool b)) os h
def jW:Nm:=.loc [1]
def A4 (u:Heap)(l:List Nm):Bool:= !(u.any fun p=>decide (p.1=jW))&& !(l.any fun k=>decide (k=jW))
def Mu (C:dI)(f:FuncId):Bool:=match C.P.fn f with
 |some fn=>fn.body.isSome&& !(fn.name== "runtime.NumGoroutine")
 |none=>false
def DA (C:dI)(stop:TypeId):rF:=fun ev args aX=>match args with
 | [_,.fn (.func f) fs cs]=>
  if Mu C f=true then
   let H:=cU 0 aX
   match qc ev H f (fs++cs) 0 with
   |some (.val _ u)=>if A4 u []=true then xM (H.ei u) aX.length true else none
   |some (.panic (.iface t _) u l)=>if t=stop∧A4 u l=true then xM ((H.uH l).ei u) aX.length false else none
   |some (.panic (.t (.iface t _)) u l)=>if t=stop∧A4 u l=true then xM ((H.uH l).ei u) aX.length false else none
   |_=>none
  else none
 |_=>none
def A5:List (List UInt8):=[[66,111,111,108],[76,111,110,103],[83,116,114,105,110,103],[83,101,116],[65,99,116,105,111,110]]
def vB:List (List UInt8):=[[116,114,117,101],[102,97,108,115,101],[105,102],[116,104,101,110],[101,108,115,101],[105,110],[104,97,115],[105,115],[108,105,107,101],[112,101,114,109,105,116],[102,111,114,98,105,100],[119,104,101,110],[117,110,108,101,115,115],[112,114,105,110,99,105,112,97,108],[97,99,116,105,111,110],[114,101,115,111,117,114,99,101],[99,111,110,116,101,120,116],[101,110,116,105,116,121],[97,112,112,108,105,101,115,84,111]]
def SZ:List (List UInt8):=[[38,38],[124,124],[61,61],[33,61],[60],[60,61],[62],[62,61],[105,110],[43],[45],[42]]
def S0:List (List UInt8):=[[99,111,110,116,97,105,110,115],[99,111,110,116,97,105,110,115,65,108,108],[99,111,110,116,97,105,110,115,65,110,121]]
def ZY:List UInt8:=[66,111,111,108,32,76,111,110,103,32,83,116,114,105,110,103,32,83,101,116,32,65,99,116,105,111,110]
def S1:List UInt8:=[116,114,117,101,32,102,97,108,115,101,32,105,102,32,116,104,101,110,32,101,108,115,101,32,105,110,32,104,97,115,32,105,115,32,108,105,107,101,32,112,101,114,109,105,116,32,102,111,114,98,105,100,32,119,104,101,110,32,117,110,108,101,115,115,32,112,114,105,110,99,105,112,97,108,32,97,99,116,105,111,110,32,114,101,115,111,117,114,99,101,32,99,111,110,116,101,120,116,32,101,110,116,105,116,121,32,97,112,112,108,105,101,115,84,111]
def ZZ:List UInt8:=[38,38,32,124,124,32,61,61,32,33,61,32,60,32,60,61,32,62,32,62,61,32,105,110,32,43,32,45,32,42]
def Z0:List UInt8:=[99,111,110,116,97,105,110,115,32,99,111,110,116,97,105,110,115,65,108,108,32,99,111,110,116,97,105,110,115,65,110,121]
def ou:List (List UInt8×TV):=[(ZY,.t (.sl (A5.map .str))),(S1,.t (.sl (vB.map .str))),(ZZ,.t (.sl (SZ.map .str))),(Z0,.t (.sl (S0.map .str)))]
def JR:List UInt8→List UInt8→Bool
 | [],[]=>true
 |a::r,b::t=>cond (Nat.beq a.toNat b.toNat) (JR r t) false
 |_,_=>false
def JS (s:List UInt8):List (List UInt8×TV)→Option TV
 | []=>none
 |(k,v)::r=>cond (JR s k) (some v) (JS s r)
def nG (tab:List (List UInt8×TV)):rF:=fun _ args aX=>match args,aX with
 | [.t (.str s)],[]=>match JS s tab with
  |some v=>some (.ret v [] [])
  |none=>none
 |_,_=>none
end Go.Abs
end

noncomputable section
namespace Go.Abs
open Go
def mG (C:dI)(g:FuncId)(s:rF):Prop:=∀ev,aF C ev→∀args aX r,s ev args aX=some r→∀(G:Gh) (w:World) (vs:List Value),WF G w→jV C G→AY G aX.length→
 HR G w (cU 0 aX)→cZ G args vs→mB C.P g vs.toArray w (wR G w aX.length r)
theorem yZ {C:dI}{X:Ext}(h:∀g s,X g=some s→mG C g s):FL C X:=h
theorem Mv:∀(os:List aV) (i j:Nat) (o:aV),os[j]?=some o→(cU i os).get (.arg (i+j))=some o:=by
 intro os
 induction os with
 |nil=>intro i j o h;simp at h
 | cons x r ih=>
  intro i j o h
  cases j with
  |zero=>simp at h;subst h;simp[cU,Heap.get]
  | succ j=>
   simp at h
   have:=ih (i+1) j o h
   have e:i+(j+1)=i+1+j:=by omega
   rw[e]
   simp only[cU,Heap.get]
   have hne:¬(Nm.arg i=Nm.arg (i+1+j)):=by intro he;injection he with he;omega
   first
    |rw[if_neg hne];exact this
    |simpa [hne] using this
section
variable {C:dI}{g:FuncId}{G:Gh}{w:World}{vs:List Value}
theorem iz {aX:List aV}(hH:HR G w (cU 0 aX)):∀i o,aX[i]?=some o→G.dom (.arg i)∧OR G w (.arg i) o:=by
 intro i o ho
 have:=Mv aX 0 i o ho
 rw[Nat.zero_add] at this
 exact hH _ _ this
theorem DB {aX:List aV}{x:TV}{v:Value}(hw:WF G w)(hH:HR G w (cU 0 aX))(hx:VR G x v):wR G w aX.length (.ret x aX []) (.returned v) w:=
 ⟨v,G,rfl,Step.refl hw _ _,rfl,iz hH,fun _ _ h=>by simp at h,hx⟩
theorem cZ.only {x:TV}(h:cZ G [x] vs):∃v,vs=[v]∧VR G x v:=by
 obtain⟨v,r,rfl,hv,hr⟩:=h.jt
 have:r=[]:=List.eq_nil_of_length_eq_zero (by simpa using hr.1)
 subst this
 exact⟨v,rfl,hv⟩
theorem cZ.two {x y:TV}(h:cZ G [x,y] vs):∃v u,vs=[v,u]∧VR G x v∧VR G y u:=by
 obtain⟨v,r,rfl,hv,hr⟩:=h.jt
 obtain⟨u,rfl,hu⟩:=hr.only
 exact⟨v,u,rfl,hv,hu⟩
theorem VR.Hq {s:List UInt8}{v:Value}(h:VR G (.t (.str s)) v):v=.string ⟨s.toArray⟩:=by
 cases h with|t _ _ h=>cases h;rfl
theorem VR.Oc {k:IntKind}{n:Int}{v:Value}(h:VR G (.t (.int k n)) v):v=.int k n:=by
 cases h with|t _ _ h=>cases h;rfl
theorem VR.Mw {v:Value}(h:VR G (.t .cG) v):v=.pointer none:=by
 cases h with|t _ _ h=>cases h;rfl
theorem VR.S2 {v:Value}(h:VR G .aL v):v=.slice none 0 0:=by
 cases h;rfl
theorem VR.y2 {k:Nm}{o:Nat}{v:Value}(h:VR G (.ptr k o) v):v=.pointer (some ⟨G.mu k,o,none⟩)∧G.dom k∧G.arr k=none:=by
 cases h with|ptr _ _ hd hn=>exact⟨rfl,hd,hn⟩
theorem JU {gm:Nat}{m:Int}(hgm:C.jA gm=some [.int .i64 m])(Mx:∀args w,(callFunc g args).run C.P.prog w=.ok (.enter g args) w)
    (hc:∀(s sub:ByteArray) (m:Int) (w:World),s.size<4294967281→w.cell? ⟨gm,0,none⟩=some (.int .i64 m)→
      Calls C.P.prog g #[.string s,.string sub] w fun e w'=>e=.returned (.int .i64 (Lib.index s.data.toList sub.data.toList))∧w'=w):mG C g vz:=by
  intro ev ai args aX r h G w vs hw hg had hH hv
  unfold vz at h
  split at h
  · rename_i s p
    split at h
    · rename_i hlt
      simp at h
      subst h
      obtain⟨x,y,rfl,hx,hy⟩:=hv.two
      rw[hx.Hq,hy.Hq]
      obtain⟨vals,h1,h2⟩:=hg gm _ hgm
      have e1:=h1 0 _ rfl
      have e2:=h2 0 _ rfl
      obtain⟨us,ty,fr,hh,hu⟩:=hw.F _ _ _ e1
      have hcell:w.cell? ⟨gm,0,none⟩=some (.int .i64 m):=by
        rw[cell_of hh,show(0:Nat)=0+0 from rfl,hu]
        generalize vals 0=v0 at e2
        cases e2
        rfl
      refine .inl ⟨Mx _ _,(hc ⟨s.toArray⟩ ⟨p.toArray⟩ m w hlt hcell).mono ?_⟩
      rintro e w' ⟨rfl,rfl⟩
      exact DB hw hH (.t _ _ (.int _ _))
    · simp at h
  · simp at h
theorem B9 (Mx:∀args w,(callFunc g args).run C.P.prog w=.ok (.enter g args) w)
    (hc:∀(s:ByteArray) (c:Int) (w:World),Calls C.P.prog g #[.string s,.int .u8 c] w fun e w'=>e=.returned (.int .i64 (Lib.indexByte s.data.toList (UInt8.ofNat c.toNat)))∧w'=w):mG C g mF:=by
  intro ev ai args aX r h G w vs hw hg had hH hv
  unfold mF at h
  split at h
  · rename_i s c
    split at h
    · simp at h
      subst h
      obtain⟨x,y,rfl,hx,hy⟩:=hv.two
      rw[hx.Hq,hy.Oc]
      refine .inl ⟨Mx _ _,(hc ⟨s.toArray⟩ c w).mono ?_⟩
      rintro e w' ⟨rfl,rfl⟩
      exact DB hw hH (.t _ _ (.int _ _))
    · simp at h
  · simp at h
theorem Od:∀{a b:List UInt8},JR a b=true→a=b
 | [],[],_=>rfl
 | [],_::_,h=>by simp[JR] at h
 |_::_,[],h=>by simp[JR] at h
 | a::r,b::t,h=>by
   simp only[JR] at h
   cases hn:Nat.beq a.toNat b.toNat with
   |false=>rw[hn] at h;cases h
   |true=>
    rw[hn] at h
    have e:a=b:=UInt8.toNat_inj.1 (Nat.eq_of_beq_eq_true hn)
    rw[e,Od (show JR r t=true from h)]
theorem DC {s:List UInt8}{v:TV}:∀{tab:List (List UInt8×TV)},JS s tab=some v→(s,v)∈tab
 | [],h=>by simp[JS] at h
 | (k,u)::r,h=>by
   simp only[JS] at h
   cases hb:JR s k with
   |false=>rw[hb] at h;exact List.mem_cons_of_mem _ (DC h)
   |true=>
    rw[hb] at h
    have e:=Od hb
    subst e
    obtain rfl:u=v:=by simpa using h
    exact List.mem_cons_self
theorem A6 {tab:List (List UInt8×TV)}{ev0:aW}(ajD:aF C ev0)(h0:∀p∈tab,ev0 g [.t (.str p.1)] []=some (.ret p.2 [] [])):mG C g (nG tab):=by
  intro ev ai args aX r h G w vs hw hg had hH hv
  unfold nG at h
  split at h
  · rename_i s
    split at h
    · rename_i v hf
      simp at h
      subst h
      exact ajD g _ _ _ (h0 _ (DC hf)) G w vs hw hg had hH hv
    · simp at h
  · simp at h
theorem wD {k:Nm}{ty:TypeId}{a b:TV}(ho:OR G w k (.cells ty [a,b])):
  G.arr k=none∧∃x y fr,w.heap[G.mu k]?=some (.cells #[x,y] ty fr)∧rS #[x,y] fr∧VR G a x∧VR G b y∧∀o,G.F (G.mu k) o=none:=by
 obtain⟨ha,us,ty',fr,hh,⟨si,rfl⟩,hv,hF⟩:=ho
 obtain⟨us⟩:=us
 obtain⟨x,y,rfl,hx,hy⟩:=hv.two
 exact⟨ha,x,y,fr,hh,si,hx,hy,hF⟩
theorem k3 {us:Array Value}{ty:TypeId}{fr:Nat×Nat}{b o:Nat}(hh:w.heap[b]?=some (.cells us ty fr))(ht:rS us fr)(ho:o<us.size):w.frozen? ⟨b,o,none⟩=false:=by
 rw[Fs hh]
 have:=ht o ho
 simp only[Bool.and_eq_false_iff,decide_eq_false_iff_not]
 by_cases h1:fr.1≤o
 · right;exact fun h2=>this ⟨h1,h2⟩
 · left;exact h1
theorem My {T:TypeId}(Mx:∀args w,(callFunc g args).run C.P.prog w=.ok (.enter g args) w)
    (hf:∀(b:Nat) (w:World),w.cell? ⟨b,0,none⟩=some (.pointer none)→w.shape? b=some (T,2)→w.frozen? ⟨b,0,none⟩=false→
      Calls C.P.prog g #[.pointer (some ⟨b,0,none⟩)] w fun e w'=>e=.returned (.tuple #[])∧w'=w.setCell ⟨b,0,none⟩ (.pointer (some ⟨b,0,none⟩)))
    (hu:∀(b:Nat) (w:World),w.cell? ⟨b,0,none⟩=some (.pointer (some ⟨b,0,none⟩))→
      Calls C.P.prog g #[.pointer (some ⟨b,0,none⟩)] w fun e w'=>e=.returned (.tuple #[])∧w'=w):mG C g (yY T):=by
  intro ev ai args aX r h G w vs hw hg had hH hv
  unfold yY at h
  split at h
  · rename_i ty c1 os
    split at h
    · rename_i hT
      subst hT
      simp at h
      subst h
      obtain⟨x,rfl,hx⟩:=hv.only
      obtain⟨rfl,hd,hn⟩:=hx.y2
      obtain⟨_,ho⟩:=iz hH 0 _ rfl
      obtain⟨ha,x,y,fr,hh,si,hx0,hy0,hF⟩:=wD ho
      have:=hx0.Mw
      subst this
      refine .inl ⟨Mx _ _,(hf (G.mu (.arg 0)) w (by rw[cell_of hh];rfl) (by simp[World.shape?,hh]) (k3 hh si (by simp))).mono ?_⟩
      rintro e w' ⟨rfl,rfl⟩
      rw[mq hh]
      have hst:=ny (vs:=[.pointer (some ⟨G.mu (.arg 0),0,none⟩),y]) hw hd hh (fun o ⟨u,hu⟩=>by rw[hF] at hu;simp at hu)
      refine⟨_,G,rfl,hst.mono (fun _ _ _=>trivial) (fun _ h=>h.elim),rfl,fun i o ho'=> ?_,fun _ _ h=>by simp at h,.t _ _ (.bX [] [] rfl (by simp))⟩
      cases i with
      | zero=>
        simp at ho'
        subst ho'
        refine⟨hd,ha, #[.pointer (some ⟨G.mu (.arg 0),0,none⟩),y],_,fr,gJ (hw.lt _ hd) _ _ _,⟨?_,rfl⟩, ?_,hF⟩
        · intro o BB;exact si o (by simpa using BB)
        · exact cZ.cons hx (cZ.cons hy0 (cZ.nil G))
      | succ i=>
        obtain⟨hd',BB⟩:=iz hH (i+1) o (by simpa using ho')
        refine⟨hd',hst.keeps hw hd' ?_ BB⟩
        intro e;injection e with e;omega
    · simp at h
  · rename_i ty c1 os
    simp at h
    subst h
    obtain⟨x,rfl,hx⟩:=hv.only
    obtain⟨rfl,hd,hn⟩:=hx.y2
    obtain⟨_,ho⟩:=iz hH 0 _ rfl
    obtain⟨ha,x,y,fr,hh,si,hx0,hy0,hF⟩:=wD ho
    obtain⟨rfl,_,_⟩:=hx0.y2
    refine .inl ⟨Mx _ _,(hu (G.mu (.arg 0)) w (by rw[cell_of hh];rfl)).mono ?_⟩
    rintro e w' ⟨rfl,rfl⟩
    exact DB hw hH (.t _ _ (.bX [] [] rfl (by simp)))
  · simp at h
theorem w8:∀{cs:List TV} {l:List UInt8} {us:List Value},tK cs=some l→cZ G cs us→l.length=cs.length∧∀(j:Nat) x,l[j]?=some x→us[j]?=some (.int .u8 x.toNat)
  | [],l,us,h,hv=>by simp[tK] at h;subst h;simp
  |c  ::cs,l,us,h,hv=>by
      unfold tK at h
      split at h
      · cases ‹c::cs=[]›
      · rename_i m r he
        injection he with h1 h2
        subst h1;subst h2
        cases hm:Nat.blt m 256 with
        |false=>rw[hm] at h;cases h
        | true=>
          rw[hm] at h
          cases hb:tK cs with
          |none=>rw[hb] at h;cases h
          | some l'=>
            rw[hb] at h
            simp at h
            subst h
            obtain⟨v,vs',rfl,hx,hr⟩:=hv.jt
            obtain⟨e1,e2⟩:=w8 hb hr
            have hlt:m<256:=by simpa [Nat.blt_eq] using hm
            refine⟨by simp[e1],fun j x hj=> ?_⟩
            cases j with
            | zero=>
              simp at hj
              subst hj
              have:=hx.Oc
              subst this
              have:(UInt8.ofNat m).toNat=m:=by simp;omega
              rw[this]
              rfl
            |succ j=>simpa using e2 j x (by simpa using hj)
      · cases h
theorem Hr {b n:Nat}{us:Array Value}{ty:TypeId}{fr:Nat×Nat}(hh:w.heap[b]?=some (.cells us ty fr))(hn:n≠0):
    ∃fr',w.freeze ⟨b,0,none⟩ n=World.cR w b us ty fr':=by
  refine⟨if fr.1==fr.2 then(0,0+n) else(min fr.1 0,max fr.2 (0+n)), ?_⟩
  unfold World.freeze World.cR
  rw[if_neg hn]
  congr 1
  apply Array.ext_getElem?
  intro i
  rw[Array.getElem?_modify,Array.getElem?_setIfInBounds]
  have hb:b<w.heap.size:=(Array.getElem?_eq_some_iff.1 hh).1
  by_cases e:b=i
  · subst e
    rw[if_pos rfl,if_pos rfl,if_pos hb,hh]
    rfl
  · rw[if_neg e,if_neg e]
theorem y5 (hw:WF G w){k:Nm}(hd:G.dom k){us:Array Value}{ty:TypeId}{fr fr':Nat×Nat}(hh:w.heap[G.mu k]?=some (.cells us ty fr)):
    Step (fun x=>x=k) (fun _=>False) G w G (World.cR w (G.mu k) us ty fr'):=by
  refine⟨.refl G,⟨fun b o u h=> ?_,hw.inj,fun k d=>by rw[mz];exact hw.lt k d⟩,fun _ _ _=>⟨rfl,rfl⟩,fun b hb hn=>⟨lg (hn k rfl hd) _ _ _,fun _=>rfl⟩,fun _ d=>.inl d,fun _ d=>.inl ⟨d,rfl⟩,by rw[mz];exact Nat.le_refl _,rfl,rfl,rfl⟩
  obtain⟨us',ty',fr2,h1,h2⟩:=hw.F b o u h
  by_cases e:G.mu k=b
  · subst e
    rw[hh] at h1
    simp at h1
    obtain⟨rfl,_,_⟩:=h1
    exact⟨us,ty,fr',gJ (hw.lt k hd) _ _ _,h2⟩
  · exact⟨us',ty',fr2,by rw[lg e];exact h1,h2⟩
theorem Hs {E:TypeId}(Mx:∀args w,(callFunc g args).run C.P.prog w=.ok (.enter g args) w)
    (C4:∀(b:Nat) (w:World),w.cell? ⟨b,1,none⟩=some (.slice none 0 0)→
      Calls C.P.prog g #[.pointer (some ⟨b,0,none⟩)] w fun e w'=>e=.returned (.string ⟨#[]⟩)∧w'=w.drew)
    (hrow:∀(b a cap cells:Nat) (l:List UInt8) (w:World),w.cell? ⟨b,1,none⟩=some (.slice (some ⟨a,0,none⟩) l.length cap)→w.shape? a=some (E,cells)→l.length≤cells→l≠ []→cap≠0→l.length<4294967296→
      (∀(j:Nat) x,l[j]?=some x→w.cell? ⟨a,j,none⟩=some (.int .u8 x.toNat))→
      Calls C.P.prog g #[.pointer (some ⟨b,0,none⟩)] w fun e w'=>e=.returned (.string ⟨l.toArray⟩)∧w'=w.drew.freeze ⟨a,0,none⟩ l.length):mG C g (sF E):=by
  intro ev ai args aX r h G w vs hw hg had hH hv
  unfold sF at h
  split at h
  · rename_i ty c0 os
    simp at h
    subst h
    obtain⟨x,rfl,hx⟩:=hv.only
    obtain⟨rfl,hd,hn⟩:=hx.y2
    obtain⟨_,ho⟩:=iz hH 0 _ rfl
    obtain⟨ha,x,y,fr,hh,si,hx0,hy0,hF⟩:=wD ho
    have:=hy0.S2
    subst this
    refine .inl ⟨Mx _ _,(C4 (G.mu (.arg 0)) w (by rw[cell_of hh];rfl)).mono ?_⟩
    rintro e w' ⟨rfl,rfl⟩
    exact⟨_,G,rfl,nA hw _ _,rfl,fun i o ho'=>⟨(iz hH i o ho').1,by have:=(iz hH i o ho').2;cases o<;>exact this⟩,fun _ _ h=>by simp at h,.t _ _ (.str [])⟩
  · rename_i ty c0 j len os
    split at h
    · rename_i gg fz cs hj
      split at h
      · rename_i hc
        obtain⟨hE,hlen,hpos,ajE⟩:=hc
        cases hb:tK cs with
        |none=>rw[hb] at h;simp at h
        | some l=>
          rw[hb] at h
          simp at h
          subst h
          obtain⟨x,rfl,hx⟩:=hv.only
          obtain⟨rfl,hd,hn⟩:=hx.y2
          obtain⟨_,ho⟩:=iz hH 0 _ rfl
          obtain⟨ha,x,y,fr,hh,si,hx0,hy0,hF⟩:=wD ho
          obtain⟨hdj,alJ,cap,us,ty2,fr2,har,hh2,⟨al6,ajF⟩,hsz,hle,hvs,hF2⟩:=iz hH j _ hj
          obtain⟨I9,hl2⟩:=w8 hb hvs
          cases hy0 with|ref _ _ _ n' R6 cap' _ hd' ha' hle' hoo RG=>
          rw[har] at ha'
          simp at ha'
          obtain⟨e1,e2,e3⟩:=ha'
          subst e2;subst e3
          obtain⟨ad,rfl,ajG⟩:=RG (by omega)
          have hcap:0<cap:=by omega
          have ajH:=ajG hcap
          subst ajH
          simp only[Nat.zero_mul,Nat.sub_zero] at hh
          have hll:l.length=len:=by omega
          have hne:l≠ []:=by intro e;subst e;simp at hll;omega
          subst hE
          refine .inl ⟨Mx _ _,(hrow (G.mu (.arg 0)) (G.mu (.arg j)) cap us.size l w (by rw[cell_of hh,hll];rfl) (by simp[World.shape?,hh2,ajF]) (by omega) hne (by omega) (by omega) ?_).mono ?_⟩
          · intro q x hq
            have:=hl2 q x hq
            rw[List.getElem?_take] at this
            split at this
            · rw[cell_of hh2];simpa using this
            · cases this
          rintro e w' ⟨rfl,rfl⟩
          have aeT:w.drew.heap[G.mu (.arg j)]?=some (.cells us ty2 fr2):=hh2
          obtain⟨fr3,hfr⟩:=Hr aeT (n:=l.length) (by omega)
          rw[hfr]
          have hst:=(nA hw (fun _=>False) (fun _=>False)).trans (y5 hw.drew hdj (fr':=fr3) aeT)
          have o8:Step (fun x=>x=Nm.arg j) (fun _=>False) G w G (World.cR w.drew (G.mu (.arg j)) us ty2 fr3):=hst.mono (fun _ _ h=>by simpa using h) (fun _ h=>by simp at h)
          refine⟨_,G,rfl,o8.mono (fun _ _ _=>trivial) (fun _ h=>h.elim),by simp,fun i o ho'=> ?_,fun _ _ h=>by simp at h,.t _ _ (.str l)⟩
          by_cases hij:i=j
          · subst hij
            rw[List.getElem?_set_self (List.getElem?_eq_some_iff.1 hj).1] at ho'
            simp at ho'
            subst ho'
            exact⟨hdj,trivial⟩
          · rw[List.getElem?_set_ne (fun e=>hij e.symm)] at ho'
            obtain⟨hd3,ho3⟩:=iz hH i o ho'
            exact⟨hd3,o8.keeps hw hd3 (by intro e;injection e with e;exact hij e) ho3⟩
      · simp at h
    · simp at h
  · simp at h
end
end Go.Abs
end

noncomputable section
namespace Go.Abs
open Go
section
variable {C:dI}{g:FuncId}{G:Gh}{w:World}{vs:List Value}
theorem F4 {u:Heap}{l:List Nm}(h:A4 u l=true):(∀k o,(k,o)∈u→k≠jW)∧∀k∈l,k≠jW:=by
 unfold A4 at h
 simp only[Bool.and_eq_true,Bool.not_eq_true',List.any_eq_false,decide_eq_true_eq] at h
 exact⟨fun k o hm=>h.1 (k,o) hm,fun k hm=>h.2 k hm⟩
theorem w9 (H:Heap):∀(n i:Nat),(vA H i n).length=n
 |0,_=>rfl
 |n+1,i=>by simp[vA,w9 H n (i+1)]
theorem F5 (H:Heap):∀(n i j:Nat) (o:aV),(vA H i n)[j]?=some o→j<n∧(H.get (.arg (i+j))=some o∨o=.dead)
 |0,_,_,_,h=>by simp[vA] at h
 | n+1,i,j,o,h=>by
   cases j with
   |zero=>
    simp[vA,ZX] at h
    cases hg:H.get (.arg i) with
    |none=>rw[hg] at h;simp at h;exact⟨by omega,.inr h.symm⟩
    |some o'=>rw[hg] at h;simp at h;subst h;exact⟨by omega,.inl (by first|rfl|exact hg)⟩
   |succ j=>
    have:=F5 H n (i+1) j o (by simpa [vA] using h)
    refine⟨by omega, ?_⟩
    rw[show i+(j+1)=i+1+j from by omega]
    exact this.2
theorem QA {H:Heap}{n:Nat}{b:Bool}{r:bG}(h:xM H n b=some r)(hd:∀i,i<n→G.dom (.arg i))(hH:HR G w H){G0:Gh}{w0:World}
    (hs:Step (fun _=>True) (fun k=>k.gZ=true) G0 w0 G w):wR G0 w0 n r (.returned (.bool b)) w:=by
  unfold xM at h
  simp only at h
  split at h
  · simp at h
  rename_i R hR
  cases hn:j7 H R with
  |none=>rw[hn] at h;simp at h
  | some hh=>
    rw[hn] at h
    simp at h
    subst h
    refine⟨_,G,rfl,hs,w9 H n 0,fun i o ho=> ?_,fun k o hm=> ?_,.t _ _ (.bool b)⟩
    · obtain⟨hi,h2⟩:=F5 H n 0 i o ho
      rw[Nat.zero_add] at h2
      rcases h2 with h2|rfl
      · exact hH _ _ h2
      · exact⟨hd i hi,trivial⟩
    · obtain⟨h1,h2⟩:=rB hn k o hm
      exact⟨h1,hH _ _ h2⟩
theorem rY {f:FuncId}(h:Mu C f=true)(args:Array Value)(w:World):(callFunc f args).run C.P.prog w=.ok (.enter f args) w:=by
  unfold Mu at h
  split at h
  · rename_i fn hfn
    simp only[Bool.and_eq_true,Option.isSome_iff_exists,Bool.not_eq_true'] at h
    obtain⟨⟨c,hc⟩,hn⟩:=h
    have h1:fn.name≠ "runtime.NumGoroutine" :=by simpa using hn
    simp[callFunc,C.P.RP _ _ hfn,h1,hc,mark]
  · simp at h
theorem QB        {stop tb:TypeId}(Mx:∀args w,(callFunc g args).run C.P.prog w=.ok (.enter g args) w)
    (hw0 :∀(rv:Value) (f:FuncId) (fs cs:Array Value) (w:World) (R:Ending→World→Prop),
      (∀args w,(callFunc f args).run C.P.prog w=.ok (.enter f args) w)→
      Calls C.P.prog f (fs++cs) (w.alloc (.cells #[.bool false] tb)) R→
      (∀e w',R e w'→w'.cell? ⟨w.heap.size,0,none⟩=some (.bool false)∧w'.frozen? ⟨w.heap.size,0,none⟩=false∧((∃v,e=.returned v)∨∃pv,e=.panicked [{v:=.iface stop pv,recovered:=false}]))→
      Calls C.P.prog g #[rv,.func (.func f) fs cs] w fun e w'=>∃e' w2,R e' w2∧
        (((∃v,e'=.returned v)∧e=.returned (.bool true)∧w'=w2.setCell ⟨w.heap.size,0,none⟩ (.bool true))∨
         ((∃pv,e'=.panicked [{v:=.iface stop pv,recovered:=false}])∧e=.returned (.bool false)∧w'=w2.setCell ⟨w.heap.size,0,none⟩ (.bool false)))):
    mG C g (DA C stop):=by
  intro ev ai args aX r h G w vs hw hg had hH hv
  unfold DA at h
  split at h
  · rename_i rv f fs cs
    split at h
    · rename_i abw
      obtain⟨x,y,rfl,hx,hy⟩:=hv.two
      cases hy with|fn _ _ _ ls ms I9 h1 hl2 h2=>
      simp only at h
      have hfr:¬G.dom jW:=had.2 [1]
      have hs1:Step (fun _=>False) (fun k=>k=jW) G w (G.add jW w.heap.size none) (World.eD w (.cells #[.bool false] tb)):=mA hw hfr _ _ _
      obtain⟨hd1,Sm⟩:=AQ (cs:=[.t (.bool false)]) (vs:=[.bool false]) hw hfr (cZ.cons (.t _ _ (.bool false)) (cZ.nil G)) tb
      generalize hG1:G.add jW w.heap.size none=G1 at hs1 hd1 Sm
      have aeU:G1.mu jW=w.heap.size:=by rw[← hG1];simp[Gh.add]
      have aeV:∀k,G1.dom k→G.dom k∨k=jW:=fun k d=>hs1.news k d
      have RJ:HR G1 (World.eD w (.cells #[.bool false] tb)) (cU 0 aX):=by
        intro k o hk
        obtain⟨d,ho⟩:=hH k o hk
        exact⟨hs1.le.dom _ d,hs1.keeps hw d (fun h=>h) ho⟩
      have ajI:cZ G1 (fs++cs) (ls++ms):=(cZ.append ⟨I9,h1⟩ ⟨hl2,h2⟩).mono hs1.le
      cases BN:qc ev (cU 0 aX) f (fs++cs) 0 with
      |none=>rw[BN] at h;simp at h
      | some res=>
        rw[BN] at h
        have hres:=C8 ai BN hs1.wf (hg.mono hs1.le) RJ (fun p d=>by
          rcases aeV _ d with d|d
          · exact had.2 _ d
          · simp[jW] at d) ajI
        have hC:Calls C.P.prog f (ls.toArray++ms.toArray) (w.alloc (.cells #[.bool false] tb)) (lK 0 G1 (World.eD w (.cells #[.bool false] tb)) res):=by
          rcases hres with ⟨_,hc⟩|⟨v,w',hc,_⟩
          · have e:(ls++ms).toArray=ls.toArray++ms.toArray:=by simp
            rw[e] at hc
            exact hc
          · rw[rY abw] at hc
            cases hc
        have hcell:∀(W N:Nm→Prop) (G2:Gh) (w2:World),Step W N G1 (World.eD w (.cells #[.bool false] tb)) G2 w2→¬W jW→
            G2.dom jW∧G2.mu jW=w.heap.size∧∃fr,w2.heap[w.heap.size]?=some (.cells #[.bool false] tb fr)∧rS #[.bool false] fr∧∀o,G2.F w.heap.size o=none:=by
          intro W N G2 w2 hst Xt
          have BB:=hst.keeps hs1.wf hd1 Xt Sm
          have JV:=(hst.same _ hd1 Xt).1
          obtain⟨_,us,ty',fr,hh,⟨si,rfl⟩,RG,hF⟩:=BB
          obtain⟨us⟩:=us
          obtain⟨x0,rfl,hx0⟩:=RG.only
          cases hx0 with|t _ _ hx0=>
          cases hx0
          rw[JV,aeU] at hh hF
          exact⟨hst.le.dom _ hd1,JV.trans aeU,fr,hh,si,hF⟩
        have hend:∀(W N:Nm→Prop) (G2:Gh) (w2:World) (H2:Heap) (b:Bool) (r:bG),Step W N G1 (World.eD w (.cells #[.bool false] tb)) G2 w2→¬W jW→(∀k,N k→k.gZ=true)→
            HR G2 w2 H2→H2.get jW=none→xM H2 aX.length b=some r→wR G w aX.length r (.returned (.bool b)) (w2.setCell ⟨w.heap.size,0,none⟩ (.bool b)):=by
          intro W N G2 w2 H2 b r hst Xt hN hH2 hno hr
          obtain⟨hd2,JV,fr,hh,si,hF⟩:=hcell W N G2 w2 hst Xt
          rw[mq hh]
          have I7:w2.heap[G2.mu jW]?=some (.cells #[.bool false] tb fr):=by rw[JV];exact hh
          have abx:=ny (vs:=[.bool b]) hst.wf hd2 I7 (fun o ⟨u,hu⟩=>by rw[JV,hF] at hu;simp at hu)
          rw[JV] at abx
          have hall:Step (fun _=>True) (fun k=>k.gZ=true) G w G2 (World.cR w2 w.heap.size [.bool b].toArray tb fr):=
            ((hs1.trans hst).trans abx).mono (fun _ _ _=>trivial) (fun k hk=>by
              rcases hk with (rfl|hk)|hk
              · rfl
              · exact hN k hk
              · exact hk.elim)
          refine QA hr (fun i hi=>hall.le.dom _ (had.1 i hi)) ?_ hall
          intro k o hk
          obtain⟨d,ho⟩:=hH2 k o hk
          refine⟨d,abx.keeps hst.wf d ?_ ho⟩
          intro e
          subst e
          rw[hno] at hk
          cases hk
        have Z1:(cU 0 aX).get jW=none:=by
          cases hq:(cU 0 aX).get jW with
          |none=>rfl
          | some o=>
            obtain⟨j,hj,_⟩:=BG hq
            simp[jW] at hj
        cases res with
        | val v u =>
          simp only at h
          split at h
          · rename_i hfree
            obtain⟨E3,_⟩:=F4 hfree
            have Xt:¬jW∈u.map (·.1):=by
              intro hm
              obtain⟨⟨k,o⟩,hm,e⟩:=List.mem_map.1 hm
              exact E3 k o hm e
            refine .inl ⟨Mx _ _,(hw0 x f ls.toArray ms.toArray w _ (rY abw) hC ?_).mono ?_⟩
            · rintro e w2 ⟨x2,G2,rfl,hst,hu,hx2⟩
              obtain⟨_,JV,fr,hh,si,hF⟩:=hcell _ _ _ _ hst Xt
              exact⟨by rw[cell_of hh];rfl,k3 hh si (by simp),.inl ⟨_,rfl⟩⟩
            · rintro e w' ⟨e',w2,⟨x2,G2,rfl,hst,hu,hx2⟩,hor⟩
              rcases hor with ⟨_,rfl,rfl⟩|⟨⟨pv,hpv⟩,_,_⟩
              · refine hend _ _ G2 w2 _ true r hst Xt (fun k ⟨p,hp⟩=>by rw[hp];rfl) ?_ ?_ h
                · exact HR.ei hst hs1.wf RJ hu (fun k _ hk=>hk)
                · cases hq:((cU 0 aX).ei u).get jW with
                  |none=>rfl
                  | some o=>
                    rcases Heap.sg _ u _ o hq with h3|⟨h3,_⟩
                    · exact absurd rfl (E3 _ _ h3)
                    · rw[Z1] at h3;cases h3
              · cases hpv
          · simp at h
        | panic v u l =>
          have key:∀(hstop:∃t z,(v=.iface t z∨∃z',v=.t (.iface t z'))∧t=stop) (hfree:A4 u l=true) (h:xM (((cU 0 aX).uH l).ei u) aX.length false=some r),
              mB C.P g [x,.func (.func f) ls.toArray ms.toArray].toArray w (wR G w aX.length r):=by
            rintro ⟨t,z,hvz,rfl⟩ hfree h
            obtain⟨E3,Jp⟩:=F4 hfree
            have Xt:¬jW∈u.map (·.1)++l:=by
              intro hm
              rcases List.mem_append.1 hm with hm|hm
              · obtain⟨⟨k,o⟩,hm,e⟩:=List.mem_map.1 hm
                exact E3 k o hm e
              · exact Jp _ hm rfl
            refine .inl ⟨Mx _ _,(hw0 x f ls.toArray ms.toArray w _ (rY abw) hC ?_).mono ?_⟩
            · rintro e w2 ⟨x2,G2,rfl,hst,hu,hx2⟩
              obtain⟨_,JV,fr,hh,si,hF⟩:=hcell _ _ _ _ hst Xt
              refine⟨by rw[cell_of hh];rfl,k3 hh si (by simp),.inr ?_⟩
              rcases hvz with rfl|⟨z',rfl⟩
              · cases hx2;exact⟨_,rfl⟩
              · cases hx2 with|t _ _ hx2=>cases hx2;exact⟨_,rfl⟩
            · rintro e w' ⟨e',w2,⟨x2,G2,rfl,hst,hu,hx2⟩,hor⟩
              rcases hor with ⟨⟨v2,hv2⟩,_,_⟩|⟨_,rfl,rfl⟩
              · cases hv2
              · refine hend _ _ G2 w2 _ false r hst Xt (fun k ⟨p,hp⟩=>by rw[hp];rfl) ?_ ?_ h
                · intro k o hk
                  rcases Heap.sg _ u k o hk with h1|⟨h1,hn⟩
                  · exact hu k o h1
                  · rw[Heap.uY] at h1
                    split at h1
                    · cases h1
                    · rename_i hl
                      obtain⟨d,ho⟩:=RJ k o h1
                      refine⟨hst.le.dom _ d,hst.keeps hs1.wf d (fun hm=> ?_) ho⟩
                      rcases List.mem_append.1 hm with hm|hm
                      · exact hn hm
                      · exact hl hm
                · cases hq:(((cU 0 aX).uH l).ei u).get jW with
                  |none=>rfl
                  | some o=>
                    rcases Heap.sg _ u _ o hq with h3|⟨h3,_⟩
                    · exact absurd rfl (E3 _ _ h3)
                    · rw[Heap.uY] at h3
                      split at h3
                      · cases h3
                      · rw[Z1] at h3;cases h3
          split at h
          · rename_i hq;cases hq
          · rename_i t z u' l' hq
            cases hq
            split at h
            · rename_i hc
              exact key ⟨_,_,.inl rfl,hc.1⟩ hc.2 h
            · simp at h
          · rename_i t z u' l' hq
            cases hq
            split at h
            · rename_i hc
              exact key ⟨_,.aL,.inr ⟨_,rfl⟩,hc.1⟩ hc.2 h
            · simp at h
          · simp at h
    · simp at h
  · simp at h
end
end Go.Abs
end
