/- Summaries of functions whose code is not gone through: what they answer. -/
import Derived.Test.YtijfhoelihclbaaGreatDoorA
import Derived.Lib.Index
import Derived.Test.YtijfhoelihclbaaGreatDoorD
import Derived.Shelf.Abstract
import Derived.WalkKit
noncomputable section
namespace Go.Abs
open Go
abbrev qh:=aS→List TV→List aQ→Option bG
def x8 (T:TypeId):qh:=fun _ args aR=>match args,aR with
 | [.ptr (.arg 0) 0],(.cells ty [.t .cg,c1])::os=>if ty=T then some (.ret (.t (.bN [])) (.cells ty [.ptr (.arg 0) 0,c1]::os) []) else none
 | [.ptr (.arg 0) 0],(.cells ty [.ptr (.arg 0) 0,c1])::os=>some (.ret (.t (.bN [])) (.cells ty [.ptr (.arg 0) 0,c1]::os) [])
 |_,_=>none
def sF:List TV→Option (List UInt8)
 | []=>some []
 |.t (.int .u8 (.ofNat m))::r=>cond (Nat.blt m 256) ((sF r).map (UInt8.ofNat m:: ·)) none
 |_=>none
def ru (E:TypeId):qh:=fun _ args aR=>match args,aR with
 | [.ptr (.arg 0) 0],(.cells _ [_,.bl])::_=>some (.ret (.t (.str [])) aR [])
 | [.ptr (.arg 0) 0],(.cells _ [_,.ref (.arg j) 0 len])::_=>match aR[j]? with
  |some (.arr g 1 _ cs)=>if g.1=E∧cs.length=len∧0<len∧len<4294967296 then(sF cs).map fun s=>.ret (.t (.str s)) (aR.set j .dead) [] else none
  |_=>none
 |_,_=>none
def uo:qh:=fun _ args aR=>match args with
 | [.t (.str s),.t (.str p)]=>if s.length<4294967281 then some (.ret (.t (.int .i64 (Lib.index s p))) aR []) else none
 |_=>none
def lC:qh:=fun _ args aR=>match args with
 | [.t (.str s),.t (.int .u8 c)]=>if s.length<4294967281 then some (.ret (.t (.int .i64 (Lib.indexByte s (UInt8.ofNat c.toNat)))) aR []) else none
 |_=>none
def YO (H:Heap)(i:Nat):aQ:=(H.get (.arg i)).getD .dead
def uq (H:Heap):Nat→Nat→List aQ
 |_,0=>[]
 |i,n+1=>YO H i::uq H (i+1) n
def wB (H:Heap)(n:Nat)(b:Bool):Option bG:=
 let os:=uq H 0 n
 match reach H fD [] (os.flatMap aQ.names) with
 |none=>none
 |some R=>(j3 H R).map fun h=>.ret (.t (.bool b)) os h
def jr:Nm:=.loc [1]
def Aa (u:Heap)(l:List Nm):Bool:= !(u.any fun p=>decide (p.1=jr))&& !(l.any fun k=>decide (k=jr))
def Lu (C:dh)(f:FuncId):Bool:=match C.P.fn f with
 |some fn=>fn.body.isSome&& !(fn.name== "runtime.NumGoroutine")
 |none=>false
def CY (C:dh)(stop:TypeId):qh:=fun ev args aR=>match args with
 | [_,.fn (.func f) fs cs]=>
  if Lu C f=true then
   let H:=cH 0 aR
   match oD ev H f (fs++cs) 0 with
   |some (.val _ u)=>if Aa u []=true then wB (H.dJ u) aR.length true else none
   |some (.panic (.iface t _) u l)=>if t=stop∧Aa u l=true then wB ((H.tB l).dJ u) aR.length false else none
   |some (.panic (.t (.iface t _)) u l)=>if t=stop∧Aa u l=true then wB ((H.tB l).dJ u) aR.length false else none
   |_=>none
  else none
 |_=>none
def Ab:List (List UInt8):=[[66,111,111,108],[76,111,110,103],[83,116,114,105,110,103],[83,101,116],[65,99,116,105,111,110]]
def ur:List (List UInt8):=[[116,114,117,101],[102,97,108,115,101],[105,102],[116,104,101,110],[101,108,115,101],[105,110],[104,97,115],[105,115],[108,105,107,101],[112,101,114,109,105,116],[102,111,114,98,105,100],[119,104,101,110],[117,110,108,101,115,115],[112,114,105,110,99,105,112,97,108],[97,99,116,105,111,110],[114,101,115,111,117,114,99,101],[99,111,110,116,101,120,116],[101,110,116,105,116,121],[97,112,112,108,105,101,115,84,111]]
def Sc:List (List UInt8):=[[38,38],[124,124],[61,61],[33,61],[60],[60,61],[62],[62,61],[105,110],[43],[45],[42]]
def Sd:List (List UInt8):=[[99,111,110,116,97,105,110,115],[99,111,110,116,97,105,110,115,65,108,108],[99,111,110,116,97,105,110,115,65,110,121]]
def YP:List UInt8:=[66,111,111,108,32,76,111,110,103,32,83,116,114,105,110,103,32,83,101,116,32,65,99,116,105,111,110]
def Se:List UInt8:=[116,114,117,101,32,102,97,108,115,101,32,105,102,32,116,104,101,110,32,101,108,115,101,32,105,110,32,104,97,115,32,105,115,32,108,105,107,101,32,112,101,114,109,105,116,32,102,111,114,98,105,100,32,119,104,101,110,32,117,110,108,101,115,115,32,112,114,105,110,99,105,112,97,108,32,97,99,116,105,111,110,32,114,101,115,111,117,114,99,101,32,99,111,110,116,101,120,116,32,101,110,116,105,116,121,32,97,112,112,108,105,101,115,84,111]
def YQ:List UInt8:=[38,38,32,124,124,32,61,61,32,33,61,32,60,32,60,61,32,62,32,62,61,32,105,110,32,43,32,45,32,42]
def YR:List UInt8:=[99,111,110,116,97,105,110,115,32,99,111,110,116,97,105,110,115,65,108,108,32,99,111,110,116,97,105,110,115,65,110,121]
def ng:List (List UInt8×TV):=[(YP,.t (.sl (Ab.map .str))),(Se,.t (.sl (ur.map .str))),(YQ,.t (.sl (Sc.map .str))),(YR,.t (.sl (Sd.map .str)))]
def I8:List UInt8→List UInt8→Bool
 | [],[]=>true
 |a::r,b::t=>cond (Nat.beq a.toNat b.toNat) (I8 r t) false
 |_,_=>false
def I9 (s:List UInt8):List (List UInt8×TV)→Option TV
 | []=>none
 |(k,v)::r=>cond (I8 s k) (some v) (I9 s r)
def mE (tab:List (List UInt8×TV)):qh:=fun _ args aR=>match args,aR with
 | [.t (.str s)],[]=>match I9 s tab with
  |some v=>some (.ret v [] [])
  |none=>none
 |_,_=>none
end Go.Abs
end

noncomputable section
namespace Go.Abs
open Go
def lD (C:dh)(g:FuncId)(s:qh):Prop:=∀ev,aF C ev→∀args aR r,s ev args aR=some r→∀(G:Gh) (w:World) (vs:List Value),WF G w→jq C G→zV G aR.length→
 HR G w (cH 0 aR)→cK G args vs→lu C.P g vs.toArray w (vw G w aR.length r)
theorem x9 {C:dh}{X:Ext}(h:∀g s,X g=some s→lD C g s):E7 C X:=h
theorem Lv:∀(os:List aQ) (i j:Nat) (o:aQ),os[j]?=some o→(cH i os).get (.arg (i+j))=some o:=by
 intro os
 induction os with
 |nil=>intro i j o h;simp at h
 | cons x r ih=>
  intro i j o h
  cases j with
  |zero=>simp at h;subst h;simp[cH,Heap.get]
  | succ j=>
   simp at h
   have:=ih (i+1) j o h
   have e:i+(j+1)=i+1+j:=by omega
   rw[e]
   simp only[cH,Heap.get]
   have hne:¬(Nm.arg i=Nm.arg (i+1+j)):=by intro he;injection he with he;omega
   first
    |rw[if_neg hne];exact this
    |simpa [hne] using this
section
variable {C:dh}{g:FuncId}{G:Gh}{w:World}{vs:List Value}
theorem gD {aR:List aQ}(hH:HR G w (cH 0 aR)):∀i o,aR[i]?=some o→G.dom (.arg i)∧OR G w (.arg i) o:=by
 intro i o ho
 have:=Lv aR 0 i o ho
 rw[Nat.zero_add] at this
 exact hH _ _ this
theorem CZ {aR:List aQ}{x:TV}{v:Value}(hw:WF G w)(hH:HR G w (cH 0 aR))(hx:VR G x v):vw G w aR.length (.ret x aR []) (.returned v) w:=
 ⟨v,G,rfl,Step.refl hw _ _,rfl,gD hH,fun _ _ h=>by simp at h,hx⟩
theorem cK.only {x:TV}(h:cK G [x] vs):∃v,vs=[v]∧VR G x v:=by
 obtain⟨v,r,rfl,hv,hr⟩:=h.iN
 have:r=[]:=List.eq_nil_of_length_eq_zero (by simpa using hr.1)
 subst this
 exact⟨v,rfl,hv⟩
theorem cK.two {x y:TV}(h:cK G [x,y] vs):∃v u,vs=[v,u]∧VR G x v∧VR G y u:=by
 obtain⟨v,r,rfl,hv,hr⟩:=h.iN
 obtain⟨u,rfl,hu⟩:=hr.only
 exact⟨v,u,rfl,hv,hu⟩
theorem VR.GA {s:List UInt8}{v:Value}(h:VR G (.t (.str s)) v):v=.string ⟨s.toArray⟩:=by
 cases h with|t _ _ h=>cases h;rfl
theorem VR.Nt {k:IntKind}{n:Int}{v:Value}(h:VR G (.t (.int k n)) v):v=.int k n:=by
 cases h with|t _ _ h=>cases h;rfl
theorem VR.Lw {v:Value}(h:VR G (.t .cg) v):v=.pointer none:=by
 cases h with|t _ _ h=>cases h;rfl
theorem VR.Sf {v:Value}(h:VR G .bl v):v=.slice none 0 0:=by
 cases h;rfl
theorem VR.ya {k:Nm}{o:Nat}{v:Value}(h:VR G (.ptr k o) v):v=.pointer (some ⟨G.mu k,o,none⟩)∧G.dom k∧G.arr k=none:=by
 cases h with|ptr _ _ hd hn=>exact⟨rfl,hd,hn⟩
theorem Ja {gm:Nat}{m:Int}(hgm:C.iT gm=some [.int .i64 m])(Lx:∀args w,(callFunc g args).run C.P.prog w=.ok (.enter g args) w)
    (hc:∀(s sub:ByteArray) (m:Int) (w:World),s.size<4294967281→w.cell? ⟨gm,0,none⟩=some (.int .i64 m)→
      Calls C.P.prog g #[.string s,.string sub] w fun e w'=>e=.returned (.int .i64 (Lib.index s.data.toList sub.data.toList))∧w'=w):lD C g uo:=by
  intro ev ai args aR r h G w vs hw hg had hH hv
  unfold uo at h
  split at h
  · rename_i s p
    split at h
    · rename_i hlt
      simp at h
      subst h
      obtain⟨x,y,rfl,hx,hy⟩:=hv.two
      rw[hx.GA,hy.GA]
      obtain⟨vals,h1,h2⟩:=hg gm _ hgm
      have e1:=h1 0 _ rfl
      have e2:=h2 0 _ rfl
      obtain⟨us,ty,fr,hh,hu⟩:=hw.F _ _ _ e1
      have hcell:w.cell? ⟨gm,0,none⟩=some (.int .i64 m):=by
        rw[cell_of hh,show(0:Nat)=0+0 from rfl,hu]
        generalize vals 0=v0 at e2
        cases e2
        rfl
      refine .inl ⟨Lx _ _,(hc ⟨s.toArray⟩ ⟨p.toArray⟩ m w hlt hcell).mono ?_⟩
      rintro e w' ⟨rfl,rfl⟩
      exact CZ hw hH (.t _ _ (.int _ _))
    · simp at h
  · simp at h
theorem Bo (Lx:∀args w,(callFunc g args).run C.P.prog w=.ok (.enter g args) w)
    (hc:∀(s:ByteArray) (c:Int) (w:World),Calls C.P.prog g #[.string s,.int .u8 c] w fun e w'=>e=.returned (.int .i64 (Lib.indexByte s.data.toList (UInt8.ofNat c.toNat)))∧w'=w):lD C g lC:=by
  intro ev ai args aR r h G w vs hw hg had hH hv
  unfold lC at h
  split at h
  · rename_i s c
    split at h
    · simp at h
      subst h
      obtain⟨x,y,rfl,hx,hy⟩:=hv.two
      rw[hx.GA,hy.Nt]
      refine .inl ⟨Lx _ _,(hc ⟨s.toArray⟩ c w).mono ?_⟩
      rintro e w' ⟨rfl,rfl⟩
      exact CZ hw hH (.t _ _ (.int _ _))
    · simp at h
  · simp at h
theorem Nu:∀{a b:List UInt8},I8 a b=true→a=b
 | [],[],_=>rfl
 | [],_::_,h=>by simp[I8] at h
 |_::_,[],h=>by simp[I8] at h
 | a::r,b::t,h=>by
   simp only[I8] at h
   cases hn:Nat.beq a.toNat b.toNat with
   |false=>rw[hn] at h;cases h
   |true=>
    rw[hn] at h
    have e:a=b:=UInt8.toNat_inj.1 (Nat.eq_of_beq_eq_true hn)
    rw[e,Nu (show I8 r t=true from h)]
theorem C0 {s:List UInt8}{v:TV}:∀{tab:List (List UInt8×TV)},I9 s tab=some v→(s,v)∈tab
 | [],h=>by simp[I9] at h
 | (k,u)::r,h=>by
   simp only[I9] at h
   cases hb:I8 s k with
   |false=>rw[hb] at h;exact List.mem_cons_of_mem _ (C0 h)
   |true=>
    rw[hb] at h
    have e:=Nu hb
    subst e
    obtain rfl:u=v:=by simpa using h
    exact List.mem_cons_self
theorem Ac {tab:List (List UInt8×TV)}{ev0:aS}(aiL:aF C ev0)(h0:∀p∈tab,ev0 g [.t (.str p.1)] []=some (.ret p.2 [] [])):lD C g (mE tab):=by
  intro ev ai args aR r h G w vs hw hg had hH hv
  unfold mE at h
  split at h
  · rename_i s
    split at h
    · rename_i v hf
      simp at h
      subst h
      exact aiL g _ _ _ (h0 _ (C0 hf)) G w vs hw hg had hH hv
    · simp at h
  · simp at h
theorem uX {k:Nm}{ty:TypeId}{a b:TV}(ho:OR G w k (.cells ty [a,b])):
  G.arr k=none∧∃x y fr,w.heap[G.mu k]?=some (.cells #[x,y] ty fr)∧qz #[x,y] fr∧VR G a x∧VR G b y∧∀o,G.F (G.mu k) o=none:=by
 obtain⟨ha,us,ty',fr,hh,⟨qQ,rfl⟩,hv,hF⟩:=ho
 obtain⟨us⟩:=us
 obtain⟨x,y,rfl,hx,hy⟩:=hv.two
 exact⟨ha,x,y,fr,hh,qQ,hx,hy,hF⟩
theorem j8 {us:Array Value}{ty:TypeId}{fr:Nat×Nat}{b o:Nat}(hh:w.heap[b]?=some (.cells us ty fr))(ht:qz us fr)(ho:o<us.size):w.frozen? ⟨b,o,none⟩=false:=by
 rw[EP hh]
 have:=ht o ho
 simp only[Bool.and_eq_false_iff,decide_eq_false_iff_not]
 by_cases h1:fr.1≤o
 · right;exact fun h2=>this ⟨h1,h2⟩
 · left;exact h1
theorem Lz {T:TypeId}(Lx:∀args w,(callFunc g args).run C.P.prog w=.ok (.enter g args) w)
    (hf:∀(b:Nat) (w:World),w.cell? ⟨b,0,none⟩=some (.pointer none)→w.shape? b=some (T,2)→w.frozen? ⟨b,0,none⟩=false→
      Calls C.P.prog g #[.pointer (some ⟨b,0,none⟩)] w fun e w'=>e=.returned (.tuple #[])∧w'=w.setCell ⟨b,0,none⟩ (.pointer (some ⟨b,0,none⟩)))
    (hu:∀(b:Nat) (w:World),w.cell? ⟨b,0,none⟩=some (.pointer (some ⟨b,0,none⟩))→
      Calls C.P.prog g #[.pointer (some ⟨b,0,none⟩)] w fun e w'=>e=.returned (.tuple #[])∧w'=w):lD C g (x8 T):=by
  intro ev ai args aR r h G w vs hw hg had hH hv
  unfold x8 at h
  split at h
  · rename_i ty c1 os
    split at h
    · rename_i hT
      subst hT
      simp at h
      subst h
      obtain⟨x,rfl,hx⟩:=hv.only
      obtain⟨rfl,hd,hn⟩:=hx.ya
      obtain⟨_,ho⟩:=gD hH 0 _ rfl
      obtain⟨ha,x,y,fr,hh,qQ,hx0,hy0,hF⟩:=uX ho
      have:=hx0.Lw
      subst this
      refine .inl ⟨Lx _ _,(hf (G.mu (.arg 0)) w (by rw[cell_of hh];rfl) (by simp[World.shape?,hh]) (j8 hh qQ (by simp))).mono ?_⟩
      rintro e w' ⟨rfl,rfl⟩
      rw[lg hh]
      have hst:=mq (vs:=[.pointer (some ⟨G.mu (.arg 0),0,none⟩),y]) hw hd hh (fun o ⟨u,hu⟩=>by rw[hF] at hu;simp at hu)
      refine⟨_,G,rfl,hst.mono (fun _ _ _=>trivial) (fun _ h=>h.elim),rfl,fun i o ho'=> ?_,fun _ _ h=>by simp at h,.t _ _ (.bN [] [] rfl (by simp))⟩
      cases i with
      | zero=>
        simp at ho'
        subst ho'
        refine⟨hd,ha, #[.pointer (some ⟨G.mu (.arg 0),0,none⟩),y],_,fr,fL (hw.lt _ hd) _ _ _,⟨?_,rfl⟩, ?_,hF⟩
        · intro o zH;exact qQ o (by simpa using zH)
        · exact cK.cons hx (cK.cons hy0 (cK.nil G))
      | succ i=>
        obtain⟨hd',zH⟩:=gD hH (i+1) o (by simpa using ho')
        refine⟨hd',hst.keeps hw hd' ?_ zH⟩
        intro e;injection e with e;omega
    · simp at h
  · rename_i ty c1 os
    simp at h
    subst h
    obtain⟨x,rfl,hx⟩:=hv.only
    obtain⟨rfl,hd,hn⟩:=hx.ya
    obtain⟨_,ho⟩:=gD hH 0 _ rfl
    obtain⟨ha,x,y,fr,hh,qQ,hx0,hy0,hF⟩:=uX ho
    obtain⟨rfl,_,_⟩:=hx0.ya
    refine .inl ⟨Lx _ _,(hu (G.mu (.arg 0)) w (by rw[cell_of hh];rfl)).mono ?_⟩
    rintro e w' ⟨rfl,rfl⟩
    exact CZ hw hH (.t _ _ (.bN [] [] rfl (by simp)))
  · simp at h
theorem vI:∀{cs:List TV} {l:List UInt8} {us:List Value},sF cs=some l→cK G cs us→l.length=cs.length∧∀(j:Nat) x,l[j]?=some x→us[j]?=some (.int .u8 x.toNat)
  | [],l,us,h,hv=>by simp[sF] at h;subst h;simp
  |c  ::cs,l,us,h,hv=>by
      unfold sF at h
      split at h
      · cases ‹c::cs=[]›
      · rename_i m r he
        injection he with h1 h2
        subst h1;subst h2
        cases hm:Nat.blt m 256 with
        |false=>rw[hm] at h;cases h
        | true=>
          rw[hm] at h
          cases hb:sF cs with
          |none=>rw[hb] at h;cases h
          | some l'=>
            rw[hb] at h
            simp at h
            subst h
            obtain⟨v,vs',rfl,hx,hr⟩:=hv.iN
            obtain⟨e1,e2⟩:=vI hb hr
            have hlt:m<256:=by simpa [Nat.blt_eq] using hm
            refine⟨by simp[e1],fun j x hj=> ?_⟩
            cases j with
            | zero=>
              simp at hj
              subst hj
              have:=hx.Nt
              subst this
              have:(UInt8.ofNat m).toNat=m:=by simp;omega
              rw[this]
              rfl
            |succ j=>simpa using e2 j x (by simpa using hj)
      · cases h
theorem GC {b n:Nat}{us:Array Value}{ty:TypeId}{fr:Nat×Nat}(hh:w.heap[b]?=some (.cells us ty fr))(hn:n≠0):
    ∃fr',w.freeze ⟨b,0,none⟩ n=World.cF w b us ty fr':=by
  refine⟨if fr.1==fr.2 then(0,0+n) else(min fr.1 0,max fr.2 (0+n)), ?_⟩
  unfold World.freeze World.cF
  rw[if_neg hn]
  congr 1
  apply Array.ext_getElem?
  intro i
  rw[Array.getElem?_modify,Array.getElem?_setIfInBounds]
  have hb:b<w.heap.size:=(Array.getElem?_eq_some_iff.1 hh).1
  by_cases e:b=i
  · subst e
    rw[if_pos rfl,if_pos rfl,if_pos hb,hh]
    rfl
  · rw[if_neg e,if_neg e]
theorem yb (hw:WF G w){k:Nm}(hd:G.dom k){us:Array Value}{ty:TypeId}{fr fr':Nat×Nat}(hh:w.heap[G.mu k]?=some (.cells us ty fr)):
    Step (fun x=>x=k) (fun _=>False) G w G (World.cF w (G.mu k) us ty fr'):=by
  refine⟨.refl G,⟨fun b o u h=> ?_,hw.inj,fun k d=>by rw[lp];exact hw.lt k d⟩,fun _ _ _=>⟨rfl,rfl⟩,fun b hb hn=>⟨ku (hn k rfl hd) _ _ _,fun _=>rfl⟩,fun _ d=>.inl d,fun _ d=>.inl ⟨d,rfl⟩,by rw[lp];exact Nat.le_refl _,rfl,rfl,rfl⟩
  obtain⟨us',ty',fr2,h1,h2⟩:=hw.F b o u h
  by_cases e:G.mu k=b
  · subst e
    rw[hh] at h1
    simp at h1
    obtain⟨rfl,_,_⟩:=h1
    exact⟨us,ty,fr',fL (hw.lt k hd) _ _ _,h2⟩
  · exact⟨us',ty',fr2,by rw[ku e];exact h1,h2⟩
theorem GD {E:TypeId}(Lx:∀args w,(callFunc g args).run C.P.prog w=.ok (.enter g args) w)
    (Cn:∀(b:Nat) (w:World),w.cell? ⟨b,1,none⟩=some (.slice none 0 0)→
      Calls C.P.prog g #[.pointer (some ⟨b,0,none⟩)] w fun e w'=>e=.returned (.string ⟨#[]⟩)∧w'=w.drew)
    (hrow:∀(b a cap cells:Nat) (l:List UInt8) (w:World),w.cell? ⟨b,1,none⟩=some (.slice (some ⟨a,0,none⟩) l.length cap)→w.shape? a=some (E,cells)→l.length≤cells→l≠ []→cap≠0→l.length<4294967296→
      (∀(j:Nat) x,l[j]?=some x→w.cell? ⟨a,j,none⟩=some (.int .u8 x.toNat))→
      Calls C.P.prog g #[.pointer (some ⟨b,0,none⟩)] w fun e w'=>e=.returned (.string ⟨l.toArray⟩)∧w'=w.drew.freeze ⟨a,0,none⟩ l.length):lD C g (ru E):=by
  intro ev ai args aR r h G w vs hw hg had hH hv
  unfold ru at h
  split at h
  · rename_i ty c0 os
    simp at h
    subst h
    obtain⟨x,rfl,hx⟩:=hv.only
    obtain⟨rfl,hd,hn⟩:=hx.ya
    obtain⟨_,ho⟩:=gD hH 0 _ rfl
    obtain⟨ha,x,y,fr,hh,qQ,hx0,hy0,hF⟩:=uX ho
    have:=hy0.Sf
    subst this
    refine .inl ⟨Lx _ _,(Cn (G.mu (.arg 0)) w (by rw[cell_of hh];rfl)).mono ?_⟩
    rintro e w' ⟨rfl,rfl⟩
    exact⟨_,G,rfl,mz hw _ _,rfl,fun i o ho'=>⟨(gD hH i o ho').1,by have:=(gD hH i o ho').2;cases o<;>exact this⟩,fun _ _ h=>by simp at h,.t _ _ (.str [])⟩
  · rename_i ty c0 j len os
    split at h
    · rename_i gg fz cs hj
      split at h
      · rename_i hc
        obtain⟨hE,hlen,hpos,aiM⟩:=hc
        cases hb:sF cs with
        |none=>rw[hb] at h;simp at h
        | some l=>
          rw[hb] at h
          simp at h
          subst h
          obtain⟨x,rfl,hx⟩:=hv.only
          obtain⟨rfl,hd,hn⟩:=hx.ya
          obtain⟨_,ho⟩:=gD hH 0 _ rfl
          obtain⟨ha,x,y,fr,hh,qQ,hx0,hy0,hF⟩:=uX ho
          obtain⟨hdj,akZ,cap,us,ty2,fr2,har,hh2,⟨alm,aiN⟩,hsz,hle,hvs,hF2⟩:=gD hH j _ hj
          obtain⟨Ik,hl2⟩:=vI hb hvs
          cases hy0 with|ref _ _ _ n' Rl cap' _ hd' ha' hle' hoo QT=>
          rw[har] at ha'
          simp at ha'
          obtain⟨e1,e2,e3⟩:=ha'
          subst e2;subst e3
          obtain⟨ad,rfl,aiO⟩:=QT (by omega)
          have hcap:0<cap:=by omega
          have aiP:=aiO hcap
          subst aiP
          simp only[Nat.zero_mul,Nat.sub_zero] at hh
          have hll:l.length=len:=by omega
          have hne:l≠ []:=by intro e;subst e;simp at hll;omega
          subst hE
          refine .inl ⟨Lx _ _,(hrow (G.mu (.arg 0)) (G.mu (.arg j)) cap us.size l w (by rw[cell_of hh,hll];rfl) (by simp[World.shape?,hh2,aiN]) (by omega) hne (by omega) (by omega) ?_).mono ?_⟩
          · intro q x hq
            have:=hl2 q x hq
            rw[List.getElem?_take] at this
            split at this
            · rw[cell_of hh2];simpa using this
            · cases this
          rintro e w' ⟨rfl,rfl⟩
          have adL:w.drew.heap[G.mu (.arg j)]?=some (.cells us ty2 fr2):=hh2
          obtain⟨fr3,hfr⟩:=GC adL (n:=l.length) (by omega)
          rw[hfr]
          have hst:=(mz hw (fun _=>False) (fun _=>False)).trans (yb hw.drew hdj (fr':=fr3) adL)
          have nG:Step (fun x=>x=Nm.arg j) (fun _=>False) G w G (World.cF w.drew (G.mu (.arg j)) us ty2 fr3):=hst.mono (fun _ _ h=>by simpa using h) (fun _ h=>by simp at h)
          refine⟨_,G,rfl,nG.mono (fun _ _ _=>trivial) (fun _ h=>h.elim),by simp,fun i o ho'=> ?_,fun _ _ h=>by simp at h,.t _ _ (.str l)⟩
          by_cases hij:i=j
          · subst hij
            rw[List.getElem?_set_self (List.getElem?_eq_some_iff.1 hj).1] at ho'
            simp at ho'
            subst ho'
            exact⟨hdj,trivial⟩
          · rw[List.getElem?_set_ne (fun e=>hij e.symm)] at ho'
            obtain⟨hd3,ho3⟩:=gD hH i o ho'
            exact⟨hd3,nG.keeps hw hd3 (by intro e;injection e with e;exact hij e) ho3⟩
      · simp at h
    · simp at h
  · simp at h
end
end Go.Abs
end

noncomputable section
namespace Go.Abs
open Go
section
variable {C:dh}{g:FuncId}{G:Gh}{w:World}{vs:List Value}
theorem Fp {u:Heap}{l:List Nm}(h:Aa u l=true):(∀k o,(k,o)∈u→k≠jr)∧∀k∈l,k≠jr:=by
 unfold Aa at h
 simp only[Bool.and_eq_true,Bool.not_eq_true',List.any_eq_false,decide_eq_true_eq] at h
 exact⟨fun k o hm=>h.1 (k,o) hm,fun k hm=>h.2 k hm⟩
theorem vJ (H:Heap):∀(n i:Nat),(uq H i n).length=n
 |0,_=>rfl
 |n+1,i=>by simp[uq,vJ H n (i+1)]
theorem Fq (H:Heap):∀(n i j:Nat) (o:aQ),(uq H i n)[j]?=some o→j<n∧(H.get (.arg (i+j))=some o∨o=.dead)
 |0,_,_,_,h=>by simp[uq] at h
 | n+1,i,j,o,h=>by
   cases j with
   |zero=>
    simp[uq,YO] at h
    cases hg:H.get (.arg i) with
    |none=>rw[hg] at h;simp at h;exact⟨by omega,.inr h.symm⟩
    |some o'=>rw[hg] at h;simp at h;subst h;exact⟨by omega,.inl (by first|rfl|exact hg)⟩
   |succ j=>
    have:=Fq H n (i+1) j o (by simpa [uq] using h)
    refine⟨by omega, ?_⟩
    rw[show i+(j+1)=i+1+j from by omega]
    exact this.2
theorem PT {H:Heap}{n:Nat}{b:Bool}{r:bG}(h:wB H n b=some r)(hd:∀i,i<n→G.dom (.arg i))(hH:HR G w H){G0:Gh}{w0:World}
    (hs:Step (fun _=>True) (fun k=>k.gy=true) G0 w0 G w):vw G0 w0 n r (.returned (.bool b)) w:=by
  unfold wB at h
  simp only at h
  split at h
  · simp at h
  rename_i R hR
  cases hn:j3 H R with
  |none=>rw[hn] at h;simp at h
  | some hh=>
    rw[hn] at h
    simp at h
    subst h
    refine⟨_,G,rfl,hs,vJ H n 0,fun i o ho=> ?_,fun k o hm=> ?_,.t _ _ (.bool b)⟩
    · obtain⟨hi,h2⟩:=Fq H n 0 i o ho
      rw[Nat.zero_add] at h2
      rcases h2 with h2|rfl
      · exact hH _ _ h2
      · exact⟨hd i hi,trivial⟩
    · obtain⟨h1,h2⟩:=qc hn k o hm
      exact⟨h1,hH _ _ h2⟩
theorem qG {f:FuncId}(h:Lu C f=true)(args:Array Value)(w:World):(callFunc f args).run C.P.prog w=.ok (.enter f args) w:=by
  unfold Lu at h
  split at h
  · rename_i fn hfn
    simp only[Bool.and_eq_true,Option.isSome_iff_exists,Bool.not_eq_true'] at h
    obtain⟨⟨c,hc⟩,hn⟩:=h
    have h1:fn.name≠ "runtime.NumGoroutine" :=by simpa using hn
    simp[callFunc,C.P.Q5 _ _ hfn,h1,hc,mark]
  · simp at h
theorem PU        {stop tb:TypeId}(Lx:∀args w,(callFunc g args).run C.P.prog w=.ok (.enter g args) w)
    (hw0 :∀(rv:Value) (f:FuncId) (fs cs:Array Value) (w:World) (R:Ending→World→Prop),
      (∀args w,(callFunc f args).run C.P.prog w=.ok (.enter f args) w)→
      Calls C.P.prog f (fs++cs) (w.alloc (.cells #[.bool false] tb)) R→
      (∀e w',R e w'→w'.cell? ⟨w.heap.size,0,none⟩=some (.bool false)∧w'.frozen? ⟨w.heap.size,0,none⟩=false∧((∃v,e=.returned v)∨∃pv,e=.panicked [{v:=.iface stop pv,recovered:=false}]))→
      Calls C.P.prog g #[rv,.func (.func f) fs cs] w fun e w'=>∃e' w2,R e' w2∧
        (((∃v,e'=.returned v)∧e=.returned (.bool true)∧w'=w2.setCell ⟨w.heap.size,0,none⟩ (.bool true))∨
         ((∃pv,e'=.panicked [{v:=.iface stop pv,recovered:=false}])∧e=.returned (.bool false)∧w'=w2.setCell ⟨w.heap.size,0,none⟩ (.bool false)))):
    lD C g (CY C stop):=by
  intro ev ai args aR r h G w vs hw hg had hH hv
  unfold CY at h
  split at h
  · rename_i rv f fs cs
    split at h
    · rename_i aas
      obtain⟨x,y,rfl,hx,hy⟩:=hv.two
      cases hy with|fn _ _ _ ls ms Ik h1 hl2 h2=>
      simp only at h
      have hfr:¬G.dom jr:=had.2 [1]
      have hs1:Step (fun _=>False) (fun k=>k=jr) G w (G.add jr w.heap.size none) (World.dO w (.cells #[.bool false] tb)):=lq hw hfr _ _ _
      obtain⟨hd1,RB⟩:=zR (cs:=[.t (.bool false)]) (vs:=[.bool false]) hw hfr (cK.cons (.t _ _ (.bool false)) (cK.nil G)) tb
      generalize hG1:G.add jr w.heap.size none=G1 at hs1 hd1 RB
      have adM:G1.mu jr=w.heap.size:=by rw[← hG1];simp[Gh.add]
      have adN:∀k,G1.dom k→G.dom k∨k=jr:=fun k d=>hs1.news k d
      have QW:HR G1 (World.dO w (.cells #[.bool false] tb)) (cH 0 aR):=by
        intro k o hk
        obtain⟨d,ho⟩:=hH k o hk
        exact⟨hs1.le.dom _ d,hs1.keeps hw d (fun h=>h) ho⟩
      have aiQ:cK G1 (fs++cs) (ls++ms):=(cK.append ⟨Ik,h1⟩ ⟨hl2,h2⟩).mono hs1.le
      cases A0:oD ev (cH 0 aR) f (fs++cs) 0 with
      |none=>rw[A0] at h;simp at h
      | some res=>
        rw[A0] at h
        have hres:=Cr ai A0 hs1.wf (hg.mono hs1.le) QW (fun p d=>by
          rcases adN _ d with d|d
          · exact had.2 _ d
          · simp[jr] at d) aiQ
        have hC:Calls C.P.prog f (ls.toArray++ms.toArray) (w.alloc (.cells #[.bool false] tb)) (kM 0 G1 (World.dO w (.cells #[.bool false] tb)) res):=by
          rcases hres with ⟨_,hc⟩|⟨v,w',hc,_⟩
          · have e:(ls++ms).toArray=ls.toArray++ms.toArray:=by simp
            rw[e] at hc
            exact hc
          · rw[qG aas] at hc
            cases hc
        have hcell:∀(W N:Nm→Prop) (G2:Gh) (w2:World),Step W N G1 (World.dO w (.cells #[.bool false] tb)) G2 w2→¬W jr→
            G2.dom jr∧G2.mu jr=w.heap.size∧∃fr,w2.heap[w.heap.size]?=some (.cells #[.bool false] tb fr)∧qz #[.bool false] fr∧∀o,G2.F w.heap.size o=none:=by
          intro W N G2 w2 hst Wm
          have zH:=hst.keeps hs1.wf hd1 Wm RB
          have Jb:=(hst.same _ hd1 Wm).1
          obtain⟨_,us,ty',fr,hh,⟨qQ,rfl⟩,QT,hF⟩:=zH
          obtain⟨us⟩:=us
          obtain⟨x0,rfl,hx0⟩:=QT.only
          cases hx0 with|t _ _ hx0=>
          cases hx0
          rw[Jb,adM] at hh hF
          exact⟨hst.le.dom _ hd1,Jb.trans adM,fr,hh,qQ,hF⟩
        have hend:∀(W N:Nm→Prop) (G2:Gh) (w2:World) (H2:Heap) (b:Bool) (r:bG),Step W N G1 (World.dO w (.cells #[.bool false] tb)) G2 w2→¬W jr→(∀k,N k→k.gy=true)→
            HR G2 w2 H2→H2.get jr=none→wB H2 aR.length b=some r→vw G w aR.length r (.returned (.bool b)) (w2.setCell ⟨w.heap.size,0,none⟩ (.bool b)):=by
          intro W N G2 w2 H2 b r hst Wm hN hH2 hno hr
          obtain⟨hd2,Jb,fr,hh,qQ,hF⟩:=hcell W N G2 w2 hst Wm
          rw[lg hh]
          have Ii:w2.heap[G2.mu jr]?=some (.cells #[.bool false] tb fr):=by rw[Jb];exact hh
          have aat:=mq (vs:=[.bool b]) hst.wf hd2 Ii (fun o ⟨u,hu⟩=>by rw[Jb,hF] at hu;simp at hu)
          rw[Jb] at aat
          have hall:Step (fun _=>True) (fun k=>k.gy=true) G w G2 (World.cF w2 w.heap.size [.bool b].toArray tb fr):=
            ((hs1.trans hst).trans aat).mono (fun _ _ _=>trivial) (fun k hk=>by
              rcases hk with (rfl|hk)|hk
              · rfl
              · exact hN k hk
              · exact hk.elim)
          refine PT hr (fun i hi=>hall.le.dom _ (had.1 i hi)) ?_ hall
          intro k o hk
          obtain⟨d,ho⟩:=hH2 k o hk
          refine⟨d,aat.keeps hst.wf d ?_ ho⟩
          intro e
          subst e
          rw[hno] at hk
          cases hk
        have YS:(cH 0 aR).get jr=none:=by
          cases hq:(cH 0 aR).get jr with
          |none=>rfl
          | some o=>
            obtain⟨j,hj,_⟩:=AJ hq
            simp[jr] at hj
        cases res with
        | val v u =>
          simp only at h
          split at h
          · rename_i hfree
            obtain⟨Er,_⟩:=Fp hfree
            have Wm:¬jr∈u.map (·.1):=by
              intro hm
              obtain⟨⟨k,o⟩,hm,e⟩:=List.mem_map.1 hm
              exact Er k o hm e
            refine .inl ⟨Lx _ _,(hw0 x f ls.toArray ms.toArray w _ (qG aas) hC ?_).mono ?_⟩
            · rintro e w2 ⟨x2,G2,rfl,hst,hu,hx2⟩
              obtain⟨_,Jb,fr,hh,qQ,hF⟩:=hcell _ _ _ _ hst Wm
              exact⟨by rw[cell_of hh];rfl,j8 hh qQ (by simp),.inl ⟨_,rfl⟩⟩
            · rintro e w' ⟨e',w2,⟨x2,G2,rfl,hst,hu,hx2⟩,hor⟩
              rcases hor with ⟨_,rfl,rfl⟩|⟨⟨pv,hpv⟩,_,_⟩
              · refine hend _ _ G2 w2 _ true r hst Wm (fun k ⟨p,hp⟩=>by rw[hp];rfl) ?_ ?_ h
                · exact HR.dJ hst hs1.wf QW hu (fun k _ hk=>hk)
                · cases hq:((cH 0 aR).dJ u).get jr with
                  |none=>rfl
                  | some o=>
                    rcases Heap.qP _ u _ o hq with h3|⟨h3,_⟩
                    · exact absurd rfl (Er _ _ h3)
                    · rw[YS] at h3;cases h3
              · cases hpv
          · simp at h
        | panic v u l =>
          have key:∀(hstop:∃t z,(v=.iface t z∨∃z',v=.t (.iface t z'))∧t=stop) (hfree:Aa u l=true) (h:wB (((cH 0 aR).tB l).dJ u) aR.length false=some r),
              lu C.P g [x,.func (.func f) ls.toArray ms.toArray].toArray w (vw G w aR.length r):=by
            rintro ⟨t,z,hvz,rfl⟩ hfree h
            obtain⟨Er,II⟩:=Fp hfree
            have Wm:¬jr∈u.map (·.1)++l:=by
              intro hm
              rcases List.mem_append.1 hm with hm|hm
              · obtain⟨⟨k,o⟩,hm,e⟩:=List.mem_map.1 hm
                exact Er k o hm e
              · exact II _ hm rfl
            refine .inl ⟨Lx _ _,(hw0 x f ls.toArray ms.toArray w _ (qG aas) hC ?_).mono ?_⟩
            · rintro e w2 ⟨x2,G2,rfl,hst,hu,hx2⟩
              obtain⟨_,Jb,fr,hh,qQ,hF⟩:=hcell _ _ _ _ hst Wm
              refine⟨by rw[cell_of hh];rfl,j8 hh qQ (by simp),.inr ?_⟩
              rcases hvz with rfl|⟨z',rfl⟩
              · cases hx2;exact⟨_,rfl⟩
              · cases hx2 with|t _ _ hx2=>cases hx2;exact⟨_,rfl⟩
            · rintro e w' ⟨e',w2,⟨x2,G2,rfl,hst,hu,hx2⟩,hor⟩
              rcases hor with ⟨⟨v2,hv2⟩,_,_⟩|⟨_,rfl,rfl⟩
              · cases hv2
              · refine hend _ _ G2 w2 _ false r hst Wm (fun k ⟨p,hp⟩=>by rw[hp];rfl) ?_ ?_ h
                · intro k o hk
                  rcases Heap.qP _ u k o hk with h1|⟨h1,hn⟩
                  · exact hu k o h1
                  · rw[Heap.tQ] at h1
                    split at h1
                    · cases h1
                    · rename_i hl
                      obtain⟨d,ho⟩:=QW k o h1
                      refine⟨hst.le.dom _ d,hst.keeps hs1.wf d (fun hm=> ?_) ho⟩
                      rcases List.mem_append.1 hm with hm|hm
                      · exact hn hm
                      · exact hl hm
                · cases hq:(((cH 0 aR).tB l).dJ u).get jr with
                  |none=>rfl
                  | some o=>
                    rcases Heap.qP _ u _ o hq with h3|⟨h3,_⟩
                    · exact absurd rfl (Er _ _ h3)
                    · rw[Heap.tQ] at h3
                      split at h3
                      · cases h3
                      · rw[YS] at h3;cases h3
          split at h
          · rename_i hq;cases hq
          · rename_i t z u' l' hq
            cases hq
            split at h
            · rename_i hc
              exact key ⟨_,_,.inl rfl,hc.1⟩ hc.2 h
            · simp at h
          · rename_i t z u' l' hq
            cases hq
            split at h
            · rename_i hc
              exact key ⟨_,.bl,.inr ⟨_,rfl⟩,hc.1⟩ hc.2 h
            · simp at h
          · simp at h
    · simp at h
  · simp at h
end
end Go.Abs
end
