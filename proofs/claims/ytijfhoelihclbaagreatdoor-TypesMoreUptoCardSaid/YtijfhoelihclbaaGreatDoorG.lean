/- Types as trees: what two are both (join), what fits one, plain. -/
import Derived.Test.YtijfhoelihclbaaGreatDoorA
noncomputable section
namespace Go.Abs.Ty
open Go Go.Abs
set_option linter.unusedVariables false
def aG (k:Int)(s:List UInt8)(os bs:List Tree):Tree:=.agg [.int .u8 k,.str s,.sl os,.sl bs]
def gi:Tree:=aG 0 [] [] []
def Ml:Tree→Int
 |.agg [.int _ k,_,_,_]=>k
 |_=>0
def Xq:Tree→List UInt8
 |.agg [_,.str s,_,_]=>s
 |_=>[]
def tyO:Tree→List Tree
 |.agg [_,_,.sl os,_]=>os
 |_=>[]
def tyB:Tree→List Tree
 |.agg [_,_,_,.sl bs]=>bs
 |_=>[]
def uO:Tree→List UInt8
 |.agg (.str n::_)=>n
 |_=>[]
def E9:Tree→Tree
 |.agg (_::r)=>.agg r
 |x=>x
def Xr (n:List UInt8):Tree→Tree
 |.agg r=>.agg (.str n::r)
 |x=>x
def s4 (x:Tree):Tree:=match tyO x with
 | []=>gi
 |o::_=>o
def fh (J:Tree→Tree→Tree×Int):List Tree→List Tree→Option (List Tree)
 |x::xs,y::ys=>if(J (E9 x) (E9 y)).2=0∧uO x=uO y then(fh J xs ys).map (Xr (uO x) (J (E9 x) (E9 y)).1:: ·) else none
 |_,_=>some []
def N5 (J:Tree→Tree→Tree×Int)(a b:Tree):Tree×Int:=
 if Ml a≠Ml b∨Ml a≥7∨((tyB a).length≠(tyB b).length∧Ml a=6) then(gi,7)
 else if Ml a=4 then(aG 4 (if Xq a=Xq b then Xq a else []) [] [],0)
 else if Ml a=5 then(if(J (s4 a) (s4 b)).2=0 then(aG 5 [] [(J (s4 a) (s4 b)).1] [],0) else(gi,(J (s4 a) (s4 b)).2))
 else if Ml a=6 then(match fh J (tyB a) (tyB b) with
  |some l=>(aG 6 [] [] l,0)
  |none=>(gi,7))
 else(aG (Ml a) [] [] [],0)
def bQ (J:Tree→Tree→Tree×Int)(a b:Tree):Tree×Int:=
 if Ml b=0 then(if Ml a=0 then(gi,0) else(a,0)) else if Ml a=0 then(b,0) else N5 J a b
def vt:Nat→Tree→Tree→Tree×Int
 |0=>fun _ _=>(gi,0)
 |n+1=>bQ (vt n)
def Dp:Nat→Tree→Prop
 |0,x=>x=gi
 |n+1,x=>∃k s os bs,x=aG k s os bs∧os.length≤4194304∧bs.length≤4194304∧(∀o∈os,Dp n o)∧∀e∈bs,∃nm r,e=.agg (.str nm::r)∧Dp n (.agg r)
theorem Dp.gi:∀n,Dp n gi
 |0=>rfl
 |n+1=>⟨0,[],[],[],rfl,by simp,by simp,by simp,by simp⟩
theorem Dp.up:∀n x,Dp n x→Dp (n+1) x
 |0,x,h=>by subst h;exact Dp.gi 1
 | n+1,x,⟨k,s,os,bs,e,l1,l2,h1,h2⟩=>⟨k,s,os,bs,e,l1,l2,fun o ho=>Dp.up n o (h1 o ho),fun e he=>by
   obtain⟨nm,r,e1,h3⟩:=h2 e he
   exact⟨nm,r,e1,Dp.up n _ h3⟩⟩
theorem Dp.form {n:Nat}{x:Tree}(h:Dp n x):∃k s os bs,x=aG k s os bs∧os.length≤4194304∧bs.length≤4194304:=by
 cases n with
 |zero=>exact⟨0,[],[],[],h,by simp,by simp⟩
 |succ n=>obtain⟨k,s,os,bs,e,l1,l2,_⟩:=h;exact⟨k,s,os,bs,e,l1,l2⟩
def Gd:Nat→Tree→Prop
 |0,x=>x=gi
 |n+1,x=>∃k s os bs,x=aG k s os bs∧k<7∧(k≠4→s=[])∧(k≠6→bs=[])∧(k=5→∃o,os=[o]∧Gd n o)∧(k≠5→os=[])∧∀e∈bs,∃nm r,e=.agg (.str nm::r)∧Gd n (.agg r)
def strOf:Tree→List UInt8
 |.str s=>s
 |_=>[]
theorem eO (J:Tree→Tree→Tree×Int)(k:Int)(s:List UInt8)(os bs:List Tree)(k2:Int)(s2:List UInt8)(eR ey:List Tree):bQ J (aG k s os bs) (aG k2 s2 eR ey)=
  if k2=0 then(if k=0 then(gi,0) else(aG k s os bs,0)) else if k=0 then(aG k2 s2 eR ey,0) else N5 J (aG k s os bs) (aG k2 s2 eR ey):=rfl
theorem fH (J:Tree→Tree→Tree×Int)(k:Int)(s:List UInt8)(os bs:List Tree)(k2:Int)(s2:List UInt8)(eR ey:List Tree):N5 J (aG k s os bs) (aG k2 s2 eR ey)=
 if k≠k2∨k≥7∨(bs.length≠ey.length∧k=6) then(gi,7)
 else if k=4 then(aG 4 (if s=s2 then s else []) [] [],0)
 else if k=5 then(if(J (s4 (aG k s os bs)) (s4 (aG k2 s2 eR ey))).2=0 then(aG 5 [] [(J (s4 (aG k s os bs)) (s4 (aG k2 s2 eR ey))).1] [],0) else(gi,(J (s4 (aG k s os bs)) (s4 (aG k2 s2 eR ey))).2))
 else if k=6 then(match fh J bs ey with
  |some l=>(aG 6 [] [] l,0)
  |none=>(gi,7))
 else(aG k [] [] [],0):=rfl
theorem Gd.gi:∀n,Gd n gi
 |0=>rfl
 |n+1=>⟨0,[],[],[],rfl,by omega,by simp,by simp,by simp,by simp,by simp⟩
theorem Gd.agg {n:Nat}{x:Tree}(h:Gd n x):∃r,x=.agg r:=by
 cases n with
 |zero=>exact⟨_,h⟩
 |succ n=>obtain⟨k,s,os,bs,e,_⟩:=h;exact⟨_,e⟩
theorem Dp.of {n:Nat}{x:Tree}(h:Dp (n+1) x):Dp n (s4 x):=by
 obtain⟨k,s,os,bs,rfl,_,_,ho,_⟩:=h
 cases os with
 |nil=>exact Dp.gi n
 |cons o os=>exact ho o List.mem_cons_self
theorem FM {J:Tree→Tree→Tree×Int}{D:Tree→Prop}(hagg:∀x,D x→∃r,x=.agg r)(hJ:∀a b,D a→D b→D (J a b).1):∀{xs ys cs:List Tree},(∀e∈xs,∃nm r,e=.agg (.str nm::r)∧D (.agg r))→(∀e∈ys,∃nm r,e=.agg (.str nm::r)∧D (.agg r))→fh J xs ys=some cs→
    cs.length≤xs.length∧∀e∈cs,∃nm r,e=.agg (.str nm::r)∧D (.agg r)
  | x ::xs,y::ys,cs,hx,hy,h=>by
    simp only[fh] at h
    split at h
    · cases hr:fh J xs ys with
      |none=>rw[hr] at h;simp at h
      | some ds=>
        rw[hr] at h
        simp only[Option.map_some,Option.some.injEq] at h
        subst h
        obtain⟨nm,r,rfl,h1⟩:=hx x List.mem_cons_self
        obtain⟨nm2,r2,rfl,h2⟩:=hy y List.mem_cons_self
        obtain⟨g1,g2⟩:=FM hagg hJ (fun e he=>hx e (List.mem_cons_of_mem _ he)) (fun e he=>hy e (List.mem_cons_of_mem _ he)) hr
        have p1:=hJ _ _ h1 h2
        obtain⟨q,hq⟩:=hagg _ p1
        have e1:Xr (uO (.agg (.str nm::r))) (J (E9 (.agg (.str nm::r))) (E9 (.agg (.str nm2::r2)))).1=.agg (.str nm::q):=by
          show Xr nm (J (.agg r) (.agg r2)).1=_
          rw[hq];rfl
        rw[e1]
        refine⟨by simp;omega,fun e he=> ?_⟩
        rcases List.mem_cons.1 he with rfl|he
        · exact⟨nm,q,rfl,hq▸p1⟩
        · exact g2 e he
    · simp at h
  | [],_,cs,_,_,h=>by simp[fh] at h;subst h;exact⟨by simp,by simp⟩
  |_::_,[],cs,_,_,h=>by simp[fh] at h;subst h;exact⟨by simp,by simp⟩
theorem Dp.agg {n:Nat}{x:Tree}(h:Dp n x):∃r,x=.agg r:=by obtain⟨k,s,os,bs,e,_⟩:=h.form;exact⟨_,e⟩
theorem yU:∀n a b,Dp n a→Dp n b→Dp n (vt n a b).1
  |0,_,_,_,_=>rfl
  | n + 1,a,  b,ha,hb=>by
    have oa:=ha.of;have ob:=hb.of
    have hj:vt (n+1) a b=bQ (vt n) a b:=rfl
    rw[hj]
    have plain:∀k s,Dp (n+1) (aG k s [] []):=fun k s=>⟨k,s,[],[],rfl,by simp,by simp,by simp,by simp⟩
    unfold bQ
    split
    · split
      · exact Dp.gi _
      · exact ha
    · split
      · exact hb
      · unfold N5
        split
        · exact Dp.gi _
        · split
          · exact plain _ _
          · split
            · split
              · exact⟨5,[],_,[],rfl,by simp,by simp,fun o ho=>by rw[List.mem_singleton.1 ho];exact yU n _ _ oa ob,by simp⟩
              · exact Dp.gi _
            · split
              · split
                · rename_i l hl
                  obtain⟨k,s,os,bs,rfl,l1,l2,h1,h2⟩:=ha
                  obtain⟨k2,s2,eR,ey,rfl,l3,l4,h3,h4⟩:=hb
                  obtain⟨g1,g2⟩:=FM (D:=Dp n) (fun x h=>h.agg) (fun a b=>yU n a b) h2 h4 hl
                  exact⟨6,[],[],l,rfl,by simp,Nat.le_trans g1 l2,by simp,g2⟩
                · exact Dp.gi _
              · exact plain _ _
end Go.Abs.Ty
end

noncomputable section
namespace Go.Abs.Ty
open Go Go.Abs
set_option linter.unusedVariables false
def mD (s:List UInt8)(l:List Tree):Option Tree:=l.find? fun y=>uO y==s
theorem Dj:∀{l:List Tree} {s:List UInt8} {i:Nat} {e:Tree},(∀j,j<i→∀x,l[j]?=some x→(uO x==s)=false)→l[i]?=some e→(uO e==s)=true→mD s l=some e
 | [],_,_,_,_,he,_=>by simp at he
 |a::l,s,0,e,_,he,hq=>by
  simp at he;subst he
  simp only[mD,List.find?_cons,hq]
 |a::l,s,i+1,e,h,he,hq=>by
  have h0:=h 0 (by omega) a rfl
  have ih:=Dj (l:=l) (s:=s) (i:=i) (e:=e) (fun j hj x hx=>h (j+1) (by omega) x (by simpa using hx)) (by simpa using he) hq
  unfold mD at ih ⊢
  rw[List.find?_cons,h0]
  exact ih
theorem Dk {l:List Tree}{s:List UInt8}(h:∀j,j<l.length→∀x,l[j]?=some x→(uO x==s)=false):mD s l=none:=by
 unfold mD
 rw[List.find?_eq_none]
 intro x hx
 obtain⟨j,hj,e⟩:=List.getElem_of_mem hx
 rw[h j hj x (by rw[List.getElem?_eq_getElem hj,e])]
 decide
theorem FN {l r:List Tree}{s:List UInt8}{t:Tree}(h:mD s l=some t):mD s (l++r)=some t:=by
 unfold mD at*
 rw[List.find?_append,h];rfl
theorem FO {l:List Tree}{s:List UInt8}{t:Tree}(h:mD s l=some t):t∈l:=List.mem_of_find?_eq_some h
theorem JK {l:List Tree}{s:List UInt8}{i:Nat}{e:Tree}(h:∀j,j<i→∀x,l[j]?=some x→(uO x==s)=false)(he:l[i]?=some e)(hq:(uO e==s)=false):∀j,j<i+1→∀x,l[j]?=some x→(uO x==s)=false:=fun j hj x hx=>by
  by_cases h1:j<i
  · exact h j h1 x hx
  · obtain rfl:j=i:=by omega
    rw[he] at hx;cases hx;exact hq
def r6:Tree:=.agg [.str [],.sl [],.sl []]
def Mm:Tree:=.agg [.str [],.sl [],.sl [],.sl []]
def LU:Tree→List Tree
 |.agg [_,_,.sl l]=>l
 |_=>[]
def cr (z:Tree)(s:List UInt8)(l:List Tree):Tree×Int:=match mD s l with
 |some t=>(t,0)
 |none=>(z,9)
theorem qu {z:Tree}{l:List Tree}{s:List UInt8}{t:Tree}(h:mD s l=some t):cr z s l=(t,0):=by unfold cr;rw[h]
theorem qv {z:Tree}{l:List Tree}{s:List UInt8}(h:mD s l=none):cr z s l=(z,9):=by unfold cr;rw[h]
theorem xF {z:Tree}{l r:List Tree}{s:List UInt8}(h:(cr z s l).2=0):cr z s (l++r)=cr z s l:=by
 cases hf:mD s l with
 |none=>rw[qv hf] at h;exact absurd h (by show(9:Int)≠0;decide)
 |some t=>rw[qu hf,qu (FN hf)]
theorem Qs {z:Tree}{l:List Tree}{s:List UInt8}:(cr z s l).1=z∨(cr z s l).1∈l:=by
 cases hf:mD s l with
 |none=>rw[qv hf];exact .inl rfl
 |some t=>rw[qu hf];exact .inr (FO hf)
structure Env where
 ts:List Tree
 ac:List Tree
 p:List UInt8
 r:List UInt8
 c:List Tree
structure XR where
 J:Tree→Tree→Tree×Int
 is:Int→Tree→Bool
 rule:Int→Int×Int×Int
 srt:List Tree→List Tree
abbrev abj:List UInt8:=[65,99,116,105,111,110]
abbrev ajA:List UInt8:=[112,114,105,110,99,105,112,97,108]
abbrev ajB:List UInt8:=[97,99,116,105,111,110]
abbrev ajC:List UInt8:=[114,101,115,111,117,114,99,101]
def vu (E:Env)(t s:List UInt8):Int:=if(t==abj)=true then(cr Mm s E.ac).2 else(cr r6 t E.ts).2
def ZU (s:List UInt8):Tree:=aG 4 s [] []
def tE (E:Env)(s:List UInt8):Tree:=if(s==ajA)=true then ZU E.p else if(s==ajB)=true then ZU abj else if(s==ajC)=true then ZU E.r else aG 6 [] [] E.c
def BI (bs:List Tree)(n:List UInt8):Tree×Int:=match mD n bs with
 |some a=>(E9 a,0)
 |none=>(gi,8)
theorem yV {bs:List Tree}{n:List UInt8}{a:Tree}(h:mD n bs=some a):BI bs n=(E9 a,0):=by unfold BI;rw[h]
theorem tF {bs:List Tree}{n:List UInt8}(h:mD n bs=none):BI bs n=(gi,8):=by unfold BI;rw[h]
def eA (E:Env)(t:Tree)(n:List UInt8):Tree×Int:=
 if Ml t=4∧Xq t≠ [] then BI (LU (cr r6 (Xq t) E.ts).1) n else if Ml t=6 then BI (tyB t) n else(gi,7)
def bI (J:Tree→Tree→Tree×Int):Tree→List Tree→Tree×Int
 |t,[]=>(t,0)
 |t,x::r=>if(J t x).2≠0 then(gi,(J t x).2) else bI J (J t x).1 r
def jb (f:Tree→Tree×Int):List Tree→Int
 | []=>0
 |k::r=>if(f k).2≠0 then(f k).2 else jb f r
def oq (ns l:List Tree):List Tree:=ns.zipWith (fun n t=>Xr (strOf n) t) l
def B8 (l:List Tree)(i:Nat):Tree:=(l[i]?).getD gi
def kj (O:XR)(E:Env)(op:Int)(s t:List UInt8)(ns l:List Tree):Tree×Int:=
 if op=1∨op=2∨op=3 then(aG op [] [] [],0)
 else if op=4 then(if vu E t s≠0 then(gi,vu E t s) else(ZU t,0))
 else if op=5 then(tE E s,0)
 else if op=6 then(if(bI O.J gi l).2≠0 then(gi,(bI O.J gi l).2) else(aG 5 [] [(bI O.J gi l).1] [],0))
 else if op=7 then(aG 6 [] [] (O.srt (oq ns l)),0)
 else if op=8 then eA E (B8 l 0) s
 else if op=14 then(if O.is 1 (B8 l 0)=true then O.J (B8 l 1) (B8 l 2) else(gi,7))
 else if O.is (O.rule op).1 (B8 l 0)=false∨(1<l.length∧O.is (O.rule op).2.1 (B8 l 1)=false) then(gi,7)
 else(aG (O.rule op).2.2 [] [] [],0)
def cg (O:XR)(E:Env)(f:Tree→Tree×Int):Tree→Tree×Int
 |.agg [.int _ op,_,.str s,.str t,.sl ns,.sl ks]=>if jb f ks≠0 then(gi,jb f ks) else kj O E op s t ns (ks.map fun k=>(f k).1)
 |_=>(gi,0)
def qX (O:XR)(E:Env):Nat→Tree→Tree×Int
 |0=>fun _=>(gi,0)
 |n+1=>cg O E (qX O E n)
theorem BJ {f:Tree→Tree×Int}:∀{l:List Tree},jb f l=0→∀k∈l,(f k).2=0
  | [],_,k,hk=>by simp at hk
  | a ::l,h,k,hk=>by
    unfold jb at h
    by_cases ha:(f a).2=0
    · rw[if_neg (fun q=>q ha)] at h
      rcases List.mem_cons.1 hk with rfl|hk
      · exact ha
      · exact BJ h k hk
    · rw[if_pos ha] at h;exact absurd h ha
theorem wA {f:Tree→Tree×Int}:∀{l:List Tree},(∀k∈l,(f k).2=0)→jb f l=0
 | [],_=>rfl
 |a::l,h=>by
  unfold jb
  rw[if_neg (fun q=>q (h a List.mem_cons_self))]
  exact wA fun k hk=>h k (List.mem_cons_of_mem _ hk)
theorem A3 {f:Tree→Tree×Int}:∀{l:List Tree} {i:Nat} {k:Tree},(∀j,j<i→∀x,l[j]?=some x→(f x).2=0)→l[i]?=some k→(f k).2≠0→jb f l=(f k).2
 | [],_,_,_,he,_=>by simp at he
 |a::l,0,k,_,he,hq=>by
  simp at he;subst he
  unfold jb;rw[if_pos hq]
 |a::l,i+1,k,h,he,hq=>by
  have h0:=h 0 (by omega) a rfl
  unfold jb
  rw[if_neg (fun q=>q h0)]
  exact A3 (i:=i) (fun j hj x hx=>h (j+1) (by omega) x (by simpa using hx)) (by simpa using he) hq
theorem b9 {O:XR}{E:Env}{f:Tree→Tree×Int}{k:IntKind}{op:Int}{x:Tree}{s t:List UInt8}{ns ks:List Tree}(h:jb f ks=0):cg O E f (.agg [.int k op,x,.str s,.str t,.sl ns,.sl ks])=kj O E op s t ns (ks.map fun k=>(f k).1):=by
 simp only[cg]
 rw[if_neg (fun q=>q h)]
theorem Dl {O:XR}{E:Env}{f:Tree→Tree×Int}{k:IntKind}{op:Int}{x:Tree}{s t:List UInt8}{ns ks:List Tree}(h:jb f ks≠0):cg O E f (.agg [.int k op,x,.str s,.str t,.sl ns,.sl ks])=(gi,jb f ks):=by
 simp only[cg]
 rw[if_pos h]
theorem Mn {E:Env}{r:List Tree}{t:Tree}{n:List UInt8}(h:(eA E t n).2=0):eA {E with ts:=E.ts++r} t n=eA E t n:=by
  unfold eA at*
  by_cases h1:Ml t=4∧Xq t≠ []
  · rw[if_pos h1] at h ⊢
    rw[if_pos h1]
    show BI (LU (cr r6 (Xq t) (E.ts++r)).1) n=_
    cases hf:mD (Xq t) E.ts with
    |none=>rw[qv hf] at h;exact absurd h (by show(8:Int)≠0;decide)
    |some d=>rw[qu hf,qu (FN hf)]
  · rw[if_neg h1,if_neg h1]
theorem Qt {E:Env}{r:List Tree}{t s:List UInt8}(h:vu E t s=0):vu {E with ts:=E.ts++r} t s=0:=by
  unfold vu at*
  by_cases h1:(t==abj)=true
  · rw[if_pos h1] at h ⊢;exact h
  · rw[if_neg h1] at h ⊢
    show(cr r6 t (E.ts++r)).2=0
    rw[xF h];exact h
theorem Qu {O:XR}{E:Env}{r:List Tree}{op:Int}{s t:List UInt8}{ns l:List Tree}(h:(kj O E op s t ns l).2=0):kj O {E with ts:=E.ts++r} op s t ns l=kj O E op s t ns l:=by
  unfold kj at*
  by_cases h1:op=1∨op=2∨op=3
  · rw[if_pos h1,if_pos h1]
  rw[if_neg h1] at h ⊢;rw[if_neg h1]
  by_cases h2:op=4
  · rw[if_pos h2] at h ⊢;rw[if_pos h2]
    have h3:vu E t s=0:=by
      by_cases h3:vu E t s=0
      · exact h3
      · rw[if_pos h3] at h;exact absurd h h3
    rw[h3,Qt h3]
  rw[if_neg h2] at h ⊢;rw[if_neg h2]
  by_cases h3:op=5
  · rw[if_pos h3,if_pos h3];rfl
  rw[if_neg h3] at h ⊢;rw[if_neg h3]
  by_cases h4:op=6
  · rw[if_pos h4,if_pos h4]
  rw[if_neg h4] at h ⊢;rw[if_neg h4]
  by_cases h5:op=7
  · rw[if_pos h5,if_pos h5]
  rw[if_neg h5] at h ⊢;rw[if_neg h5]
  by_cases h6:op=8
  · rw[if_pos h6] at h ⊢;rw[if_pos h6]
    exact Mn h
  rw[if_neg h6,if_neg h6]
theorem Qv {O:XR}{E:Env}{r:List Tree}{f g:Tree→Tree×Int}(hfg:∀k,(f k).2=0→g k=f k){x:Tree}(h:(cg O E f x).2=0):cg O {E with ts:=E.ts++r} g x=cg O E f x:=by
  unfold cg at*
  split at h
  · rename_i k op y s t ns ks
    have hz:jb f ks=0:=by
      by_cases h1:jb f ks=0
      · exact h1
      · rw[if_pos h1] at h;exact absurd h h1
    have hk:=BJ hz
    have NZ:jb g ks=0:=wA fun k hk'=>by rw[hfg k (hk k hk')];exact hk k hk'
    have hm:(ks.map fun k=>(g k).1)=ks.map fun k=>(f k).1:=List.map_congr_left fun k hk'=>by rw[hfg k (hk k hk')]
    rw[if_neg (fun q=>q hz)] at h
    rw[if_neg (fun q=>q NZ),if_neg (fun q=>q hz),hm]
    exact Qu h
  · rfl
theorem FP {O:XR}{E:Env}{r:List Tree}:∀n x,(qX O E n x).2=0→qX O {E with ts:=E.ts++r} n x=qX O E n x
 |0,_,_=>rfl
 |n+1,x,h=>Qv (fun k hk=>FP n k hk) h
end Go.Abs.Ty
end

noncomputable section
namespace Go.Abs.Ty
open Go Go.Abs
set_option linter.unusedVariables false
theorem mk_inj {k k2:Int}{s s2:List UInt8}{os eR bs ey:List Tree}(h:aG k s os bs=aG k2 s2 eR ey):k=k2∧s=s2∧os=eR∧bs=ey:=by
 simp only[aG,Tree.agg.injEq,List.cons.injEq,Tree.int.injEq,Tree.str.injEq,Tree.sl.injEq,true_and,and_true] at h
 exact h
theorem Gd.up:∀n x,Gd n x→Gd (n+1) x
 |0,x,h=>by
  have h:x=Ty.gi:=h
  subst h;exact Gd.gi 1
 | n+1,x,⟨k,s,os,bs,e,hk,hs,hb,ho,ho',hat⟩=>⟨k,s,os,bs,e,hk,hs,hb,fun q=>by
   obtain⟨o,e,h⟩:=ho q
   exact⟨o,e,Gd.up n o h⟩,ho',fun e he=>by
   obtain⟨nm,r,e1,h⟩:=hat e he
   exact⟨nm,r,e1,Gd.up n _ h⟩⟩
theorem Gd.mono {n m:Nat}(hle:n≤m){x:Tree}(h:Gd n x):Gd m x:=by
 induction hle with
 |refl=>exact h
 |step _ ih=>exact Gd.up _ _ ih
theorem Gd.deep:∀(n k:Nat) (x:Tree),Dp n x→Gd k x→Gd n x
  |0,_,x,hd,_=>hd
  | n+1,0,x,_,h=>by
    have h:x=Ty.gi:=h
    subst h;exact Gd.gi _
  | n +1,k+1,x,⟨k1,s1,os1,bs1,e1,l1,l2,h1,h2⟩,⟨k2,s,os,bs,e,hk,hs,hb,ho,ho',hat⟩=>by
    subst e
    obtain⟨rfl,rfl,rfl,rfl⟩:=mk_inj e1
    refine⟨_,_,_,_,rfl,hk,hs,hb,fun q=> ?_,ho',fun a ha=> ?_⟩
    · obtain⟨o,rfl,g⟩:=ho q
      exact⟨o,rfl,Gd.deep n k o (h1 o (by simp)) g⟩
    · obtain⟨nm,r,rfl,g⟩:=hat a ha
      obtain⟨nm2,r2,e2,d⟩:=h2 _ ha
      injection e2 with e2
      injection e2 with e3 e4
      subst e4
      exact⟨nm,_,rfl,Gd.deep n k _ d g⟩
def xG (x:Tree):Prop:=∃n,Gd n x
def abk (e:Tree):Prop:=∃nm r,e=.agg (.str nm::r)∧xG (.agg r)
theorem xG.gi:xG gi:=⟨0,rfl⟩
theorem xG.form {x:Tree}(h:xG x):∃k s os bs,x=aG k s os bs:=by
 obtain⟨n,h⟩:=h
 cases n with
 |zero=>exact⟨_,_,_,_,h⟩
 |succ n=>obtain⟨k,s,os,bs,e,_⟩:=h;exact⟨k,s,os,bs,e⟩
theorem xG.zero {x:Tree}(h:xG x)(hk:Ml x=0):x=Ty.gi:=by
 obtain⟨n,h⟩:=h
 cases n with
 |zero=>exact h
 |succ n=>
  obtain⟨k,s,os,bs,rfl,h1,h2,h3,h4,h5,h6⟩:=h
  have hk:k=0:=hk
  rw[h2 (by omega),h3 (by omega),h5 (by omega),hk];rfl
theorem xG.plain {k:Int}(h:k<7)(h5:k≠5):xG (aG k [] [] []):=⟨1,k,[],[],[],rfl,h,fun _=>rfl,fun _=>rfl,fun q=>absurd q h5,fun _=>rfl,fun e he=>by cases he⟩
theorem xG.set {t:Tree}(h:xG t):xG (aG 5 [] [t] []):=by
 obtain⟨n,h⟩:=h
 exact⟨n+1,5,[],[t],[],rfl,by omega,fun _=>rfl,fun _=>rfl,fun _=>⟨t,rfl,h⟩,fun q=>absurd rfl q,fun e he=>by cases he⟩
theorem ZV:∀{l:List Tree},(∀e∈l,abk e)→∃n,∀e∈l,∃nm r,e=.agg (.str nm::r)∧Gd n (.agg r)
  | [],_=>⟨0,fun e he=>by cases he⟩
  | a ::l,h=>by
    obtain⟨n,hn⟩:=ZV fun e he=>h e (List.mem_cons_of_mem _ he)
    obtain⟨nm,r,e0,k,hk⟩:=h a List.mem_cons_self
    refine⟨max n k,fun e he=> ?_⟩
    rcases List.mem_cons.1 he with rfl|he
    · exact⟨nm,r,e0,Gd.mono (Nat.le_max_right _ _) hk⟩
    · obtain⟨nm2,r2,e2,h2⟩:=hn e he
      exact⟨nm2,r2,e2,Gd.mono (Nat.le_max_left _ _) h2⟩
theorem xG.record {l:List Tree}(h:∀e∈l,abk e):xG (aG 6 [] [] l):=by
 obtain⟨n,hn⟩:=ZV h
 exact⟨n+1,6,[],[],l,rfl,by omega,fun _=>rfl,fun q=>absurd rfl q,fun q=>absurd q (by omega),fun _=>rfl,hn⟩
theorem xG.attrs {k:Int}{s:List UInt8}{os bs:List Tree}(h:xG (aG k s os bs)):∀e∈bs,abk e:=fun e he=>by
 obtain⟨n,h⟩:=h
 cases n with
 |zero=>obtain⟨_,_,_,rfl⟩:=mk_inj (show aG k s os bs=aG 0 [] [] [] from h);cases he
 |succ n=>
  obtain⟨k2,s2,eR,ey,e2,h1,h2,h3,h4,h5,h6⟩:=h
  obtain⟨rfl,rfl,rfl,rfl⟩:=mk_inj e2
  obtain⟨nm,r,e3,h7⟩:=h6 e he
  exact⟨nm,r,e3,n,h7⟩
def gP (e:Tree):Tree:=.agg [.int .u8 7,.int .i64 0,.str [],.str [],.sl [.str [97]],.sl [e]]
def uz:Tree→List Tree
 |.agg [_,_,_,_,_,.sl l]=>l
 |_=>[]
def Dx:Nat→Tree→Prop
 |0,_=>False
 |n+1,x=>∀k∈uz x,Dx n k
theorem Dx.mono:∀{n m:Nat} {x:Tree},n≤m→Dx n x→Dx m x
 |0,_,_,_,h=>h.elim
 |n+1,0,_,hle,_=>by omega
 |n+1,m+1,x,hle,h=>fun k hk=>Dx.mono (by omega) (h k hk)
def wS (b:Tree→Bool)(f:Tree→Int×Int×Bool)(x:Tree):Int×Int×Bool:=
 (IntKind.wrap .i64 ((uz x).foldl (fun a k=>max a (f k).1) 0+1),IntKind.wrap .i64 ((uz x).foldl (fun a k=>IntKind.wrap .i64 (a+(f k).2.1)) 0+1),(uz x).foldl (fun o k=>o&&(f k).2.2) (b x))
def Xs (b:Tree→Bool):Nat→Tree→Int×Int×Bool
 |0=>fun _=>(0,0,false)
 |n+1=>wS b (Xs b n)
theorem aeP:∀{l:List Tree},(∀y∈l,∃n,Dx n y)→∃n,∀y∈l,Dx n y
 | [],_=>⟨0,fun y hy=>by cases hy⟩
 |a::l,h=>by
  obtain⟨n,hn⟩:=aeP fun y hy=>h y (List.mem_cons_of_mem _ hy)
  obtain⟨k,hk⟩:=h a List.mem_cons_self
  refine⟨max n k,fun y hy=> ?_⟩
  rcases List.mem_cons.1 hy with rfl|hy
  · exact Dx.mono (Nat.le_max_right _ _) hk
  · exact Dx.mono (Nat.le_max_left _ _) (hn y hy)
theorem bR {α:Type}{g:α→Tree→α}{l:List Tree}{i:Nat}{e:Tree}{a:α}(he:l[i]?=some e):(l.take (i+1)).foldl g a=g ((l.take i).foldl g a) e:=by
 obtain⟨hi,rfl⟩:=List.getElem?_eq_some_iff.1 he
 rw[List.take_add_one,List.foldl_append,List.getElem?_eq_getElem hi];rfl
theorem foldl_congr {α:Type}{g1 g2:α→Tree→α}:∀{l:List Tree} {a:α},(∀k∈l,∀a,g1 a k=g2 a k)→l.foldl g1 a=l.foldl g2 a
 | [],_,_=>rfl
 |x::r,a,h=>by
  rw[List.foldl_cons,List.foldl_cons,h x List.mem_cons_self]
  exact foldl_congr fun k hk=>h k (List.mem_cons_of_mem _ hk)
theorem FQ {b:Tree→Bool}{f g:Tree→Int×Int×Bool}{x:Tree}(h:∀k∈uz x,f k=g k):wS b f x=wS b g x:=by
 unfold wS
 rw[foldl_congr (g1:=fun a k=>max a (f k).1) (g2:=fun a k=>max a (g k).1) fun k hk a=>by rw[h k hk],
  foldl_congr (g1:=fun a k=>IntKind.wrap .i64 (a+(f k).2.1)) (g2:=fun a k=>IntKind.wrap .i64 (a+(g k).2.1)) fun k hk a=>by rw[h k hk],
  foldl_congr (g1:=fun o k=>o&&(f k).2.2) (g2:=fun o k=>o&&(g k).2.2) fun k hk a=>by rw[h k hk]]
theorem Dm {b:Tree→Bool}:∀(n m:Nat) (x:Tree),Dx n x→Dx m x→Xs b n x=Xs b m x
 |0,_,_,h,_=>h.elim
 |_+1,0,_,_,h=>h.elim
 |n+1,m+1,x,h1,h2=>FQ fun k hk=>Dm n m k (h1 k hk) (h2 k hk)
theorem JL {f:Tree→Bool}:∀{l:List Tree} {o:Bool},l.foldl (fun o k=>o&&f k) o=true↔o=true∧∀k∈l,f k=true
 | [],o=>by simp
 |x::r,o=>by
  rw[List.foldl_cons,JL]
  simp only[Bool.and_eq_true,List.mem_cons,forall_eq_or_imp,and_assoc]
def Mp (r:Int×Int×Bool):Int:=if r.2.2=false then 5 else if r.1>16 then 4 else if r.2.1>128 then 2 else 0
mutual
def bulk:Tree→Nat
 |.sl es=>bulks es+1
 |.agg cs=>bulks cs+1
 |.bX cs=>bulks cs+1
 |.iface _ v=>bulk v+1
 |_=>1
def bulks:List Tree→Nat
 | []=>0
 |x::r=>bulk x+bulks r
end
theorem yW (x:Tree):1≤bulk x:=by cases x<;>simp[bulk]
end Go.Abs.Ty
