/- Types as trees: what two are both (join), what fits one, plain. -/
import Derived.Test.YtijfhoelihclbaaGreatDoorA
noncomputable section
namespace Go.Abs.Ty
open Go Go.Abs
set_option linter.unusedVariables false
def aC (k:Int)(s:List UInt8)(os bs:List Tree):Tree:=.agg [.int .u8 k,.str s,.sl os,.sl bs]
def ei:Tree:=aC 0 [] [] []
def IZ:Tree→Int
 |.agg [.int _ k,_,_,_]=>k
 |_=>0
def tyS:Tree→List UInt8
 |.agg [_,.str s,_,_]=>s
 |_=>[]
def tyO:Tree→List Tree
 |.agg [_,_,.sl os,_]=>os
 |_=>[]
def tyB:Tree→List Tree
 |.agg [_,_,_,.sl bs]=>bs
 |_=>[]
def tj:Tree→List UInt8
 |.agg (.str n::_)=>n
 |_=>[]
def zI:Tree→Tree
 |.agg (_::r)=>.agg r
 |x=>x
def Im (n:List UInt8):Tree→Tree
 |.agg r=>.agg (.str n::r)
 |x=>x
def pZ (x:Tree):Tree:=match tyO x with
 | []=>ei
 |o::_=>o
def cO (J:Tree→Tree→Tree×Int):List Tree→List Tree→Option (List Tree)
 |x::xs,y::ys=>if(J (zI x) (zI y)).2=0∧tj x=tj y then(cO J xs ys).map (Im (tj x) (J (zI x) (zI y)).1:: ·) else none
 |_,_=>some []
def Nk (J:Tree→Tree→Tree×Int)(a b:Tree):Tree×Int:=
 if IZ a≠IZ b∨IZ a≥7∨((tyB a).length≠(tyB b).length∧IZ a=6) then(ei,7)
 else if IZ a=4 then(aC 4 (if tyS a=tyS b then tyS a else []) [] [],0)
 else if IZ a=5 then(if(J (pZ a) (pZ b)).2=0 then(aC 5 [] [(J (pZ a) (pZ b)).1] [],0) else(ei,(J (pZ a) (pZ b)).2))
 else if IZ a=6 then(match cO J (tyB a) (tyB b) with
  |some l=>(aC 6 [] [] l,0)
  |none=>(ei,7))
 else(aC (IZ a) [] [] [],0)
def bB (J:Tree→Tree→Tree×Int)(a b:Tree):Tree×Int:=
 if IZ b=0 then(if IZ a=0 then(ei,0) else(a,0)) else if IZ a=0 then(b,0) else Nk J a b
def eW:Nat→Tree→Tree→Tree×Int
 |0=>fun _ _=>(ei,0)
 |n+1=>bB (eW n)
def Dp:Nat→Tree→Prop
 |0,x=>x=ei
 |n+1,x=>∃k s os bs,x=aC k s os bs∧os.length≤4194304∧bs.length≤4194304∧(∀o∈os,Dp n o)∧∀e∈bs,∃nm r,e=.agg (.str nm::r)∧Dp n (.agg r)
theorem Dp.ei:∀n,Dp n ei
 |0=>rfl
 |n+1=>⟨0,[],[],[],rfl,by simp,by simp,by simp,by simp⟩
theorem Dp.up:∀n x,Dp n x→Dp (n+1) x
 |0,x,h=>by subst h;exact Dp.ei 1
 | n+1,x,⟨k,s,os,bs,e,l1,l2,h1,h2⟩=>⟨k,s,os,bs,e,l1,l2,fun o ho=>Dp.up n o (h1 o ho),fun e he=>by
   obtain⟨nm,r,e1,h3⟩:=h2 e he
   exact⟨nm,r,e1,Dp.up n _ h3⟩⟩
theorem Dp.form {n:Nat}{x:Tree}(h:Dp n x):∃k s os bs,x=aC k s os bs∧os.length≤4194304∧bs.length≤4194304:=by
 cases n with
 |zero=>exact⟨0,[],[],[],h,by simp,by simp⟩
 |succ n=>obtain⟨k,s,os,bs,e,l1,l2,_⟩:=h;exact⟨k,s,os,bs,e,l1,l2⟩
def Gd:Nat→Tree→Prop
 |0,x=>x=ei
 |n+1,x=>∃k s os bs,x=aC k s os bs∧k<7∧(k≠4→s=[])∧(k≠6→bs=[])∧(k=5→∃o,os=[o]∧Gd n o)∧(k≠5→os=[])∧∀e∈bs,∃nm r,e=.agg (.str nm::r)∧Gd n (.agg r)
def strOf:Tree→List UInt8
 |.str s=>s
 |_=>[]
theorem cI (J:Tree→Tree→Tree×Int)(k:Int)(s:List UInt8)(os bs:List Tree)(k2:Int)(s2:List UInt8)(dN dB:List Tree):bB J (aC k s os bs) (aC k2 s2 dN dB)=
  if k2=0 then(if k=0 then(ei,0) else(aC k s os bs,0)) else if k=0 then(aC k2 s2 dN dB,0) else Nk J (aC k s os bs) (aC k2 s2 dN dB):=rfl
theorem dH (J:Tree→Tree→Tree×Int)(k:Int)(s:List UInt8)(os bs:List Tree)(k2:Int)(s2:List UInt8)(dN dB:List Tree):Nk J (aC k s os bs) (aC k2 s2 dN dB)=
 if k≠k2∨k≥7∨(bs.length≠dB.length∧k=6) then(ei,7)
 else if k=4 then(aC 4 (if s=s2 then s else []) [] [],0)
 else if k=5 then(if(J (pZ (aC k s os bs)) (pZ (aC k2 s2 dN dB))).2=0 then(aC 5 [] [(J (pZ (aC k s os bs)) (pZ (aC k2 s2 dN dB))).1] [],0) else(ei,(J (pZ (aC k s os bs)) (pZ (aC k2 s2 dN dB))).2))
 else if k=6 then(match cO J bs dB with
  |some l=>(aC 6 [] [] l,0)
  |none=>(ei,7))
 else(aC k [] [] [],0):=rfl
def aai (J:Tree→Tree→Tree×Int)(bs:List Tree):Prop:=∀e∈bs,∃nm r,e=.agg (.str nm::r)∧J (.agg r) (.agg r)=(.agg r,0)
theorem AL {J:Tree→Tree→Tree×Int}:∀{bs:List Tree},aai J bs→cO J bs bs=some bs
 | [],_=>rfl
 |x::xs,h=>by
  obtain⟨nm,r,rfl,h1⟩:=h x List.mem_cons_self
  have ih:=AL (bs:=xs) fun e he=>h e (List.mem_cons_of_mem _ he)
  have h2:J (zI (.agg (.str nm::r))) (zI (.agg (.str nm::r)))=(.agg r,0):=h1
  simp only[cO,h2,and_self,if_true,ih]
  rfl
theorem pq:∀n a,Gd n a→eW n a a=(a,0)
  |0,a,h=>by rw[show a=ei from h];rfl
  | n + 1,a,  ⟨k,s,os,bs,e,hk,hs,hb,ho,ho',hbs⟩=>by
    subst e
    show bB (eW n) _ _=_
    rw[cI]
    by_cases h0:k=0
    · rw[if_pos h0,if_pos h0]
      have:=hs (by omega);have:=hb (by omega);have:=ho' (by omega)
      subst_vars;rfl
    · rw[ if_neg h0,if_neg h0]
      rw[dH,if_neg (by omega)]
      by_cases h4:k=4
      · have:=hb (by omega);have:=ho' (by omega)
        subst_vars;simp
      · have hs:=hs h4;subst hs
        rw[if_neg h4]
        by_cases h5:k=5
        · obtain⟨o,rfl,h1⟩:=ho h5
          have hb:=hb (by omega);subst hb;subst h5
          have hj:eW n (pZ (aC 5 [] [o] [])) (pZ (aC 5 [] [o] []))=(o,0):=pq n o h1
          simp only[hj,if_true]
        · have ho:=ho' h5;subst ho
          rw[if_neg h5]
          by_cases h6:k=6
          · subst h6
            have:cO (eW n) bs bs=some bs:=AL fun e he=>by
              obtain⟨nm,r,e1,h1⟩:=hbs e he
              exact⟨nm,r,e1,pq n _ h1⟩
            simp only[this,if_true]
          · have hb:=hb h6;subst hb
            rw[if_neg h6]
theorem Gd.ei:∀n,Gd n ei
 |0=>rfl
 |n+1=>⟨0,[],[],[],rfl,by omega,by simp,by simp,by simp,by simp,by simp⟩
theorem Gd.agg {n:Nat}{x:Tree}(h:Gd n x):∃r,x=.agg r:=by
 cases n with
 |zero=>exact⟨_,h⟩
 |succ n=>obtain⟨k,s,os,bs,e,_⟩:=h;exact⟨_,e⟩
theorem AO {J:Tree→Tree→Tree×Int}{G:Tree→Prop}(hagg:∀x,G x→∃r,x=.agg r)(hJ:∀a b,G a→G b→(J a b).2=0→G (J a b).1∧J (J a b).1 a=((J a b).1,0)):∀{xs ys cs:List Tree},
    (∀e∈xs,∃nm r,e=.agg (.str nm::r)∧G (.agg r))→(∀e∈ys,∃nm r,e=.agg (.str nm::r)∧G (.agg r))→xs.length=ys.length→cO J xs ys=some cs→
    cs.length=xs.length∧(∀e∈cs,∃nm r,e=.agg (.str nm::r)∧G (.agg r))∧cO J cs xs=some cs
  | [],[],cs,_,_,_,h=>by simp[cO] at h;subst h;exact⟨rfl,by simp,rfl⟩
  | x ::xs,y::ys,cs,hx,hy,hl,h=>by
    simp only[cO] at h
    split at h
    · rename_i hc
      cases hr:cO J xs ys with
      |none=>rw[hr] at h;simp at h
      | some ds=>
        rw[hr] at h
        simp only[Option.map_some,Option.some.injEq] at h
        subst h
        obtain⟨nm,r,rfl,h1⟩:=hx x List.mem_cons_self
        obtain⟨nm2,r2,rfl,h2⟩:=hy y List.mem_cons_self
        obtain⟨g1,g2,g3⟩:=AO hagg hJ (fun e he=>hx e (List.mem_cons_of_mem _ he)) (fun e he=>hy e (List.mem_cons_of_mem _ he)) (by simpa using hl) hr
        have h3:(J (.agg r) (.agg r2)).2=0:=hc.1
        obtain⟨p1,p2⟩:=hJ _ _ h1 h2 h3
        obtain⟨q,hq⟩:=hagg _ p1
        have e1:Im (tj (.agg (.str nm::r))) (J (zI (.agg (.str nm::r))) (zI (.agg (.str nm2::r2)))).1=.agg (.str nm::q):=by
          show Im nm (J (.agg r) (.agg r2)).1=_
          rw[hq];rfl
        rw[e1]
        refine⟨by simp[g1],fun e he=> ?_, ?_⟩
        · rcases List.mem_cons.1 he with rfl|he
          · exact⟨nm,q,rfl,hq▸p1⟩
          · exact g2 e he
        · simp only[cO]
          have e2:J (zI (.agg (.str nm::q))) (zI (.agg (.str nm::r)))=(.agg q,0):=by
            show J (.agg q) (.agg r)=_
            rw[← hq];exact p2
          rw[e2,g3]
          simp[tj,Im]
    · simp at h
  | [],_::_,_,_,_,hl,_=>by simp at hl
  |_::_,[],_,_,_,hl,_=>by simp at hl
theorem wh:∀n a b,Gd n a→Gd n b→(eW n a b).2=0→Gd n (eW n a b).1∧eW n (eW n a b).1 a=((eW n a b).1,0)
  |0,a,b,_,_,_=>⟨rfl,rfl⟩
  | n + 1,a,  b,ha,hb,h=>by
    have ha0:=ha;have hb0:=hb
    have YL:=pq (n+1) a ha
    have aiE:=pq (n+1) b hb
    obtain⟨k,s,os,bs,e,hk,hs,hbs,ho,ho',hat⟩:=ha
    obtain⟨k2,s2,dN,dB,e2,hk2,hs2,aiF,zH,aiG,aiH⟩:=hb
    subst e;subst e2
    have hj:eW (n+1) (aC k s os bs) (aC k2 s2 dN dB)=bB (eW n) (aC k s os bs) (aC k2 s2 dN dB):=rfl
    rw[hj,cI] at h ⊢
    by_cases z2:k2=0
    · rw[if_pos z2] at h ⊢
      by_cases z1:k=0
      · rw[if_pos z1] at h ⊢
        refine⟨Gd.ei _, ?_⟩
        subst z1
        show bB (eW n) ei (aC 0 s os bs)=(ei,0)
        rfl
      · rw[if_neg z1] at h ⊢
        exact⟨ha0,YL⟩
    · rw[ if_neg z2] at h ⊢
      by_cases z1:k=0
      · rw[if_pos z1] at h ⊢
        refine⟨hb0, ?_⟩
        subst z1
        show bB (eW n) (aC k2 s2 dN dB) (aC 0 s os bs)=_
        rw[cI,if_pos rfl,if_neg z2]
      · rw[ if_neg z1] at h ⊢
        rw[dH] at h ⊢
        by_cases hc:k≠k2∨k≥7∨(bs.length≠dB.length∧k=6)
        · rw[if_pos hc] at h;exact absurd h (by simp)
        · rw[ if_neg hc] at h ⊢
          have hkk:k=k2:=by omega
          subst hkk
          by_cases h4:k=4
          · rw[ if_pos h4] at h ⊢
            have:=hbs (by omega);have:=ho' (by omega)
            subst_vars
            refine⟨⟨4,_,[],[],rfl,by omega,by simp,by simp,by simp,by simp,by simp⟩, ?_⟩
            show bB (eW n) (aC 4 (if s=s2 then s else []) [] []) (aC 4 s [] [])=_
            rw[cI,dH]
            by_cases q:s=s2
            · simp[q]
            · simp only[if_neg q]
              by_cases q2:s=[]
              · subst q2;simp
              · have:¬ []=s:=fun h=>q2 h.symm
                simp[this]
          · rw[ if_neg h4] at h ⊢
            have hs:=hs h4;subst hs
            have hs2:=hs2 h4;subst hs2
            by_cases h5:k=5
            · subst h5
              simp only[if_true] at h ⊢
              obtain⟨o,rfl,g1⟩:=ho rfl
              obtain⟨o2,rfl,g2⟩:=zH rfl
              have hb:=hbs (by omega);subst hb
              have hb:=aiF (by omega);subst hb
              have eo:pZ (aC 5 [] [o] [])=o:=rfl
              have eo2:pZ (aC 5 [] [o2] [])=o2:=rfl
              rw[eo,eo2] at h ⊢
              by_cases hw:(eW n o o2).2=0
              · rw[if_pos hw] at h ⊢
                obtain⟨p1,p2⟩:=wh n o o2 g1 g2 hw
                refine⟨⟨5,[],_,[],rfl,by omega,by simp,by simp,fun _=>⟨_,rfl,p1⟩,by simp,by simp⟩, ?_⟩
                show bB (eW n) (aC 5 [] [(eW n o o2).1] []) (aC 5 [] [o] [])=_
                rw[cI,dH]
                have e3:pZ (aC 5 [] [(eW n o o2).1] [])=(eW n o o2).1:=rfl
                simp[e3,eo,p2]
              · rw[if_neg hw] at h;exact absurd h hw
            · rw[ if_neg h5] at h ⊢
              have hoo:=ho' h5;subst hoo
              have hoo:=aiG h5;subst hoo
              by_cases h6:k=6
              · subst h6
                simp only[if_true] at h ⊢
                have hlen:bs.length=dB.length:=by omega
                cases hr:cO (eW n) bs dB with
                |none=>rw[hr] at h;exact absurd h (by simp)
                | some cs=>
                  rw[hr] at h
                  obtain⟨g1,g2,g3⟩:=AO (J:=eW n) (G:=Gd n) (fun x h=>h.agg) (fun a b ga gb gw=>wh n a b ga gb gw) hat aiH hlen hr
                  refine⟨⟨6,[],[],cs,rfl,by omega,by simp,by simp,by simp,by simp,g2⟩, ?_⟩
                  show bB (eW n) (aC 6 [] [] cs) (aC 6 [] [] bs)=_
                  rw[cI,dH]
                  simp[g1,g3]
              · rw[if_neg h6] at h ⊢
                have hb:=hbs h6;subst hb
                refine⟨ha0, ?_⟩
                have:aC k [] [] []=aC k [] [] []:=rfl
                exact YL
theorem Li {n:Nat}{a b:Tree}(ha:Gd n a)(hb:Gd n b)(h:(eW n a b).2=0):Gd n (eW n a b).1:=(wh n a b ha hb h).1
theorem Dp.of {n:Nat}{x:Tree}(h:Dp (n+1) x):Dp n (pZ x):=by
 obtain⟨k,s,os,bs,rfl,_,_,ho,_⟩:=h
 cases os with
 |nil=>exact Dp.ei n
 |cons o os=>exact ho o List.mem_cons_self
theorem E8 {J:Tree→Tree→Tree×Int}{D:Tree→Prop}(hagg:∀x,D x→∃r,x=.agg r)(hJ:∀a b,D a→D b→D (J a b).1):∀{xs ys cs:List Tree},(∀e∈xs,∃nm r,e=.agg (.str nm::r)∧D (.agg r))→(∀e∈ys,∃nm r,e=.agg (.str nm::r)∧D (.agg r))→cO J xs ys=some cs→
    cs.length≤xs.length∧∀e∈cs,∃nm r,e=.agg (.str nm::r)∧D (.agg r)
  | x ::xs,y::ys,cs,hx,hy,h=>by
    simp only[cO] at h
    split at h
    · cases hr:cO J xs ys with
      |none=>rw[hr] at h;simp at h
      | some ds=>
        rw[hr] at h
        simp only[Option.map_some,Option.some.injEq] at h
        subst h
        obtain⟨nm,r,rfl,h1⟩:=hx x List.mem_cons_self
        obtain⟨nm2,r2,rfl,h2⟩:=hy y List.mem_cons_self
        obtain⟨g1,g2⟩:=E8 hagg hJ (fun e he=>hx e (List.mem_cons_of_mem _ he)) (fun e he=>hy e (List.mem_cons_of_mem _ he)) hr
        have p1:=hJ _ _ h1 h2
        obtain⟨q,hq⟩:=hagg _ p1
        have e1:Im (tj (.agg (.str nm::r))) (J (zI (.agg (.str nm::r))) (zI (.agg (.str nm2::r2)))).1=.agg (.str nm::q):=by
          show Im nm (J (.agg r) (.agg r2)).1=_
          rw[hq];rfl
        rw[e1]
        refine⟨by simp;omega,fun e he=> ?_⟩
        rcases List.mem_cons.1 he with rfl|he
        · exact⟨nm,q,rfl,hq▸p1⟩
        · exact g2 e he
    · simp at h
  | [],_,cs,_,_,h=>by simp[cO] at h;subst h;exact⟨by simp,by simp⟩
  |_::_,[],cs,_,_,h=>by simp[cO] at h;subst h;exact⟨by simp,by simp⟩
theorem Dp.agg {n:Nat}{x:Tree}(h:Dp n x):∃r,x=.agg r:=by obtain⟨k,s,os,bs,e,_⟩:=h.form;exact⟨_,e⟩
theorem xV:∀n a b,Dp n a→Dp n b→Dp n (eW n a b).1
  |0,_,_,_,_=>rfl
  | n + 1,a,  b,ha,hb=>by
    have oa:=ha.of;have ob:=hb.of
    have hj:eW (n+1) a b=bB (eW n) a b:=rfl
    rw[hj]
    have plain:∀k s,Dp (n+1) (aC k s [] []):=fun k s=>⟨k,s,[],[],rfl,by simp,by simp,by simp,by simp⟩
    unfold bB
    split
    · split
      · exact Dp.ei _
      · exact ha
    · split
      · exact hb
      · unfold Nk
        split
        · exact Dp.ei _
        · split
          · exact plain _ _
          · split
            · split
              · exact⟨5,[],_,[],rfl,by simp,by simp,fun o ho=>by rw[List.mem_singleton.1 ho];exact xV n _ _ oa ob,by simp⟩
              · exact Dp.ei _
            · split
              · split
                · rename_i l hl
                  obtain⟨k,s,os,bs,rfl,l1,l2,h1,h2⟩:=ha
                  obtain⟨k2,s2,dN,dB,rfl,l3,l4,h3,h4⟩:=hb
                  obtain⟨g1,g2⟩:=E8 (D:=Dp n) (fun x h=>h.agg) (fun a b=>xV n a b) h2 h4 hl
                  exact⟨6,[],[],l,rfl,by simp,Nat.le_trans g1 l2,by simp,g2⟩
                · exact Dp.ei _
              · exact plain _ _
end Go.Abs.Ty
end

noncomputable section
namespace Go.Abs.Ty
open Go Go.Abs
set_option linter.unusedVariables false
def pz (s:List UInt8)(l:List Tree):Option Tree:=l.find? fun y=>tj y==s
theorem CC:∀{l:List Tree} {s:List UInt8} {i:Nat} {e:Tree},(∀j,j<i→∀x,l[j]?=some x→(tj x==s)=false)→l[i]?=some e→(tj e==s)=true→pz s l=some e
 | [],_,_,_,_,he,_=>by simp at he
 |a::l,s,0,e,_,he,hq=>by
  simp at he;subst he
  simp only[pz,List.find?_cons,hq]
 |a::l,s,i+1,e,h,he,hq=>by
  have h0:=h 0 (by omega) a rfl
  have ih:=CC (l:=l) (s:=s) (i:=i) (e:=e) (fun j hj x hx=>h (j+1) (by omega) x (by simpa using hx)) (by simpa using he) hq
  unfold pz at ih ⊢
  rw[List.find?_cons,h0]
  exact ih
theorem CD {l:List Tree}{s:List UInt8}(h:∀j,j<l.length→∀x,l[j]?=some x→(tj x==s)=false):pz s l=none:=by
 unfold pz
 rw[List.find?_eq_none]
 intro x hx
 obtain⟨j,hj,e⟩:=List.getElem_of_mem hx
 rw[h j hj x (by rw[List.getElem?_eq_getElem hj,e])]
 decide
theorem z6 {l:List Tree}{s:List UInt8}{t:Tree}(h:pz s l=some t):t∈l:=List.mem_of_find?_eq_some h
theorem I1 {l:List Tree}{s:List UInt8}{i:Nat}{e:Tree}(h:∀j,j<i→∀x,l[j]?=some x→(tj x==s)=false)(he:l[i]?=some e)(hq:(tj e==s)=false):∀j,j<i+1→∀x,l[j]?=some x→(tj x==s)=false:=fun j hj x hx=>by
  by_cases h1:j<i
  · exact h j h1 x hx
  · obtain rfl:j=i:=by omega
    rw[he] at hx;cases hx;exact hq
def qB:Tree:=.agg [.str [],.sl [],.sl []]
def Lj:Tree:=.agg [.str [],.sl [],.sl [],.sl []]
def Gu:Tree→List Tree
 |.agg [_,_,.sl l]=>l
 |_=>[]
def cu (z:Tree)(s:List UInt8)(l:List Tree):Tree×Int:=match pz s l with
 |some t=>(t,0)
 |none=>(z,9)
theorem CF {z:Tree}{l:List Tree}{s:List UInt8}{t:Tree}(h:pz s l=some t):cu z s l=(t,0):=by unfold cu;rw[h]
theorem wj {z:Tree}{l:List Tree}{s:List UInt8}(h:pz s l=none):cu z s l=(z,9):=by unfold cu;rw[h]
theorem E9 {z:Tree}{l:List Tree}{s:List UInt8}:(cu z s l).1=z∨(cu z s l).1∈l:=by
 cases hf:pz s l with
 |none=>rw[wj hf];exact .inl rfl
 |some t=>rw[CF hf];exact .inr (z6 hf)
structure Env where
 ts:List Tree
 ac:List Tree
 p:List UInt8
 r:List UInt8
 c:List Tree
structure WN where
 J:Tree→Tree→Tree×Int
 is:Int→Tree→Bool
 rule:Int→Int×Int×Int
 srt:List Tree→List Tree
abbrev adG:List UInt8:=[65,99,116,105,111,110]
abbrev aiI:List UInt8:=[112,114,105,110,99,105,112,97,108]
abbrev aiJ:List UInt8:=[97,99,116,105,111,110]
abbrev aiK:List UInt8:=[114,101,115,111,117,114,99,101]
def Bn (E:Env)(t s:List UInt8):Int:=if(t==adG)=true then(cu Lj s E.ac).2 else(cu qB t E.ts).2
def WO (s:List UInt8):Tree:=aC 4 s [] []
def qC (E:Env)(s:List UInt8):Tree:=if(s==aiI)=true then WO E.p else if(s==aiJ)=true then WO adG else if(s==aiK)=true then WO E.r else aC 6 [] [] E.c
def AP (bs:List Tree)(n:List UInt8):Tree×Int:=match pz n bs with
 |some a=>(zI a,0)
 |none=>(ei,8)
theorem ug {bs:List Tree}{n:List UInt8}{a:Tree}(h:pz n bs=some a):AP bs n=(zI a,0):=by unfold AP;rw[h]
theorem pE {bs:List Tree}{n:List UInt8}(h:pz n bs=none):AP bs n=(ei,8):=by unfold AP;rw[h]
def dS (E:Env)(t:Tree)(n:List UInt8):Tree×Int:=
 if IZ t=4∧tyS t≠ [] then AP (Gu (cu qB (tyS t) E.ts).1) n else if IZ t=6 then AP (tyB t) n else(ei,7)
def br (J:Tree→Tree→Tree×Int):Tree→List Tree→Tree×Int
 |t,[]=>(t,0)
 |t,x::r=>if(J t x).2≠0 then(ei,(J t x).2) else br J (J t x).1 r
def fZ (f:Tree→Tree×Int):List Tree→Int
 | []=>0
 |k::r=>if(f k).2≠0 then(f k).2 else fZ f r
def kC (ns l:List Tree):List Tree:=ns.zipWith (fun n t=>Im (strOf n) t) l
def zJ (l:List Tree)(i:Nat):Tree:=(l[i]?).getD ei
def jg (O:WN)(E:Env)(op:Int)(s t:List UInt8)(ns l:List Tree):Tree×Int:=
 if op=1∨op=2∨op=3 then(aC op [] [] [],0)
 else if op=4 then(if Bn E t s≠0 then(ei,Bn E t s) else(WO t,0))
 else if op=5 then(qC E s,0)
 else if op=6 then(if(br O.J ei l).2≠0 then(ei,(br O.J ei l).2) else(aC 5 [] [(br O.J ei l).1] [],0))
 else if op=7 then(aC 6 [] [] (O.srt (kC ns l)),0)
 else if op=8 then dS E (zJ l 0) s
 else if op=14 then(if O.is 1 (zJ l 0)=true then O.J (zJ l 1) (zJ l 2) else(ei,7))
 else if O.is (O.rule op).1 (zJ l 0)=false∨(1<l.length∧O.is (O.rule op).2.1 (zJ l 1)=false) then(ei,7)
 else(aC (O.rule op).2.2 [] [] [],0)
def bQ (O:WN)(E:Env)(f:Tree→Tree×Int):Tree→Tree×Int
 |.agg [.int _ op,_,.str s,.str t,.sl ns,.sl ks]=>if fZ f ks≠0 then(ei,fZ f ks) else jg O E op s t ns (ks.map fun k=>(f k).1)
 |_=>(ei,0)
def gI (O:WN)(E:Env):Nat→Tree→Tree×Int
 |0=>fun _=>(ei,0)
 |n+1=>bQ O E (gI O E n)
theorem uh {f:Tree→Tree×Int}:∀{l:List Tree},fZ f l=0→∀k∈l,(f k).2=0
  | [],_,k,hk=>by simp at hk
  | a ::l,h,k,hk=>by
    unfold fZ at h
    by_cases ha:(f a).2=0
    · rw[if_neg (fun q=>q ha)] at h
      rcases List.mem_cons.1 hk with rfl|hk
      · exact ha
      · exact uh h k hk
    · rw[if_pos ha] at h;exact absurd h ha
theorem qX {f:Tree→Tree×Int}:∀{l:List Tree},(∀k∈l,(f k).2=0)→fZ f l=0
 | [],_=>rfl
 |a::l,h=>by
  unfold fZ
  rw[if_neg (fun q=>q (h a List.mem_cons_self))]
  exact qX fun k hk=>h k (List.mem_cons_of_mem _ hk)
theorem z7 {f:Tree→Tree×Int}:∀{l:List Tree} {i:Nat} {k:Tree},(∀j,j<i→∀x,l[j]?=some x→(f x).2=0)→l[i]?=some k→(f k).2≠0→fZ f l=(f k).2
 | [],_,_,_,he,_=>by simp at he
 |a::l,0,k,_,he,hq=>by
  simp at he;subst he
  unfold fZ;rw[if_pos hq]
 |a::l,i+1,k,h,he,hq=>by
  have h0:=h 0 (by omega) a rfl
  unfold fZ
  rw[if_neg (fun q=>q h0)]
  exact z7 (i:=i) (fun j hj x hx=>h (j+1) (by omega) x (by simpa using hx)) (by simpa using he) hq
theorem Fa {O:WN}{E:Env}{f:Tree→Tree×Int}{k:IntKind}{op:Int}{x:Tree}{s t:List UInt8}{ns ks:List Tree}(h:(bQ O E f (.agg [.int k op,x,.str s,.str t,.sl ns,.sl ks])).2=0):fZ f ks=0:=by
 simp only[bQ] at h
 by_cases h1:fZ f ks=0
 · exact h1
 · rw[if_pos h1] at h;exact absurd h h1
theorem bH {O:WN}{E:Env}{f:Tree→Tree×Int}{k:IntKind}{op:Int}{x:Tree}{s t:List UInt8}{ns ks:List Tree}(h:fZ f ks=0):bQ O E f (.agg [.int k op,x,.str s,.str t,.sl ns,.sl ks])=jg O E op s t ns (ks.map fun k=>(f k).1):=by
 simp only[bQ]
 rw[if_neg (fun q=>q h)]
theorem CG {O:WN}{E:Env}{f:Tree→Tree×Int}{k:IntKind}{op:Int}{x:Tree}{s t:List UInt8}{ns ks:List Tree}(h:fZ f ks≠0):bQ O E f (.agg [.int k op,x,.str s,.str t,.sl ns,.sl ks])=(ei,fZ f ks):=by
 simp only[bQ]
 rw[if_pos h]
end Go.Abs.Ty
end

noncomputable section
namespace Go.Abs.Ty
open Go Go.Abs
set_option linter.unusedVariables false
theorem mk_inj {k k2:Int}{s s2:List UInt8}{os dN bs dB:List Tree}(h:aC k s os bs=aC k2 s2 dN dB):k=k2∧s=s2∧os=dN∧bs=dB:=by
 simp only[aC,Tree.agg.injEq,List.cons.injEq,Tree.int.injEq,Tree.str.injEq,Tree.sl.injEq,true_and,and_true] at h
 exact h
theorem Gd.up:∀n x,Gd n x→Gd (n+1) x
 |0,x,h=>by
  have h:x=Ty.ei:=h
  subst h;exact Gd.ei 1
 | n+1,x,⟨k,s,os,bs,e,hk,hs,hb,ho,ho',hat⟩=>⟨k,s,os,bs,e,hk,hs,hb,fun q=>by
   obtain⟨o,e,h⟩:=ho q
   exact⟨o,e,Gd.up n o h⟩,ho',fun e he=>by
   obtain⟨nm,r,e1,h⟩:=hat e he
   exact⟨nm,r,e1,Gd.up n _ h⟩⟩
theorem Gd.mono {n m:Nat}(hle:n≤m){x:Tree}(h:Gd n x):Gd m x:=by
 induction hle with
 |refl=>exact h
 |step _ ih=>exact Gd.up _ _ ih
theorem Gd.deep:∀(n k:Nat) (x:Tree),Dp n x→Gd k x→Gd n x
  |0,_,x,hd,_=>hd
  | n+1,0,x,_,h=>by
    have h:x=Ty.ei:=h
    subst h;exact Gd.ei _
  | n +1,k+1,x,⟨k1,s1,os1,bs1,e1,l1,l2,h1,h2⟩,⟨k2,s,os,bs,e,hk,hs,hb,ho,ho',hat⟩=>by
    subst e
    obtain⟨rfl,rfl,rfl,rfl⟩:=mk_inj e1
    refine⟨_,_,_,_,rfl,hk,hs,hb,fun q=> ?_,ho',fun a ha=> ?_⟩
    · obtain⟨o,rfl,g⟩:=ho q
      exact⟨o,rfl,Gd.deep n k o (h1 o (by simp)) g⟩
    · obtain⟨nm,r,rfl,g⟩:=hat a ha
      obtain⟨nm2,r2,e2,d⟩:=h2 _ ha
      injection e2 with e2
      injection e2 with e3 e4
      subst e4
      exact⟨nm,_,rfl,Gd.deep n k _ d g⟩
def iK (x:Tree):Prop:=∃n,Gd n x
def CH (e:Tree):Prop:=∃nm r,e=.agg (.str nm::r)∧iK (.agg r)
theorem iK.ei:iK ei:=⟨0,rfl⟩
theorem iK.form {x:Tree}(h:iK x):∃k s os bs,x=aC k s os bs:=by
 obtain⟨n,h⟩:=h
 cases n with
 |zero=>exact⟨_,_,_,_,h⟩
 |succ n=>obtain⟨k,s,os,bs,e,_⟩:=h;exact⟨k,s,os,bs,e⟩
theorem iK.zero {x:Tree}(h:iK x)(hk:IZ x=0):x=Ty.ei:=by
 obtain⟨n,h⟩:=h
 cases n with
 |zero=>exact h
 |succ n=>
  obtain⟨k,s,os,bs,rfl,h1,h2,h3,h4,h5,h6⟩:=h
  have hk:k=0:=hk
  rw[h2 (by omega),h3 (by omega),h5 (by omega),hk];rfl
theorem iK.plain {k:Int}(h:k<7)(h5:k≠5):iK (aC k [] [] []):=⟨1,k,[],[],[],rfl,h,fun _=>rfl,fun _=>rfl,fun q=>absurd q h5,fun _=>rfl,fun e he=>by cases he⟩
theorem iK.named (s:List UInt8):iK (WO s):=⟨1,4,s,[],[],rfl,by omega,fun q=>absurd rfl q,fun _=>rfl,fun q=>absurd q (by omega),fun _=>rfl,fun e he=>by cases he⟩
theorem iK.set {t:Tree}(h:iK t):iK (aC 5 [] [t] []):=by
 obtain⟨n,h⟩:=h
 exact⟨n+1,5,[],[t],[],rfl,by omega,fun _=>rfl,fun _=>rfl,fun _=>⟨t,rfl,h⟩,fun q=>absurd rfl q,fun e he=>by cases he⟩
theorem YM:∀{l:List Tree},(∀e∈l,CH e)→∃n,∀e∈l,∃nm r,e=.agg (.str nm::r)∧Gd n (.agg r)
  | [],_=>⟨0,fun e he=>by cases he⟩
  | a ::l,h=>by
    obtain⟨n,hn⟩:=YM fun e he=>h e (List.mem_cons_of_mem _ he)
    obtain⟨nm,r,e0,k,hk⟩:=h a List.mem_cons_self
    refine⟨max n k,fun e he=> ?_⟩
    rcases List.mem_cons.1 he with rfl|he
    · exact⟨nm,r,e0,Gd.mono (Nat.le_max_right _ _) hk⟩
    · obtain⟨nm2,r2,e2,h2⟩:=hn e he
      exact⟨nm2,r2,e2,Gd.mono (Nat.le_max_left _ _) h2⟩
theorem iK.record {l:List Tree}(h:∀e∈l,CH e):iK (aC 6 [] [] l):=by
 obtain⟨n,hn⟩:=YM h
 exact⟨n+1,6,[],[],l,rfl,by omega,fun _=>rfl,fun q=>absurd rfl q,fun q=>absurd q (by omega),fun _=>rfl,hn⟩
theorem iK.attrs {k:Int}{s:List UInt8}{os bs:List Tree}(h:iK (aC k s os bs)):∀e∈bs,CH e:=fun e he=>by
 obtain⟨n,h⟩:=h
 cases n with
 |zero=>obtain⟨_,_,_,rfl⟩:=mk_inj (show aC k s os bs=aC 0 [] [] [] from h);cases he
 |succ n=>
  obtain⟨k2,s2,dN,dB,e2,h1,h2,h3,h4,h5,h6⟩:=h
  obtain⟨rfl,rfl,rfl,rfl⟩:=mk_inj e2
  obtain⟨nm,r,e3,h7⟩:=h6 e he
  exact⟨nm,r,e3,n,h7⟩
theorem CH.typ {e:Tree}(h:CH e):iK (zI e):=by
 obtain⟨nm,r,rfl,h⟩:=h;exact h
theorem iK.Ll {t:Tree}(n:List UInt8)(h:iK t):CH (Im n t):=by
 obtain⟨k,s,os,bs,rfl⟩:=h.form
 exact⟨n,_,rfl,h⟩
theorem Lm:∀n t,Gd n t→eW n ei t=(t,0)
 |0,t,h=>by rw[show t=ei from h];rfl
 |n+1,t,h=>by
  have hg:iK t:=⟨_,h⟩
  show bB (eW n) ei t=_
  unfold bB
  by_cases hk:IZ t=0
  · rw[if_pos hk,if_pos (show IZ ei=0 from rfl),hg.zero hk]
  · rw[if_neg hk,if_pos (show IZ ei=0 from rfl)]
structure RV (E:Env):Prop where
 ts:∀d∈E.ts,∀e∈Gu d,CH e
 c:∀e∈E.c,CH e
theorem PD {E:Env}(hE:RV E)(s:List UInt8):∀e∈Gu (cu qB s E.ts).1,CH e:=fun e he=>by
 rcases E9 (z:=qB) (s:=s) (l:=E.ts) with h|h
 · rw[h] at he;simp[Gu,qB] at he
 · exact hE.ts _ h e he
theorem CI {bs:List Tree}{n:List UInt8}(h:∀e∈bs,CH e):iK (AP bs n).1:=by
 cases hf:pz n bs with
 |none=>rw[pE hf];exact iK.ei
 |some a=>rw[ug hf];exact(h a (z6 hf)).typ
theorem Ln {E:Env}(hE:RV E){t:Tree}(ht:iK t)(n:List UInt8):iK (dS E t n).1:=by
  unfold dS
  split
  · exact CI (PD hE _)
  · split
    · obtain⟨k,s,os,bs,rfl⟩:=ht.form
      exact CI ht.attrs
    · exact iK.ei
theorem PE {E:Env}(hE:RV E)(s:List UInt8):iK (qC E s):=by
  unfold qC
  split
  · exact iK.named _
  · split
    · exact iK.named _
    · split
      · exact iK.named _
      · exact iK.record hE.c
theorem Fb:∀{ns l:List Tree},(∀y∈l,iK y)→∀y∈kC ns l,CH y
 | [],_,_,y,hy=>by simp[kC] at hy
 |_::_,[],_,y,hy=>by simp[kC] at hy
 |n::ns,t::l,h,y,hy=>by
  rw[show kC (n::ns) (t::l)=Im (strOf n) t::kC ns l from rfl] at hy
  rcases List.mem_cons.1 hy with rfl|hy
  · exact(h t List.mem_cons_self).Ll _
  · exact Fb (fun y hy=>h y (List.mem_cons_of_mem _ hy)) y hy
theorem xW {J:Tree→Tree→Tree×Int}{Tp:Tree→Prop}(hJT:∀a b,Tp a→Tp b→Tp (J a b).1)(hJ:∀a b,Tp a→Tp b→iK a→iK b→(J a b).2=0→iK (J a b).1):∀{l:List Tree} {t:Tree},Tp t→iK t→(∀y∈l,Tp y∧iK y)→iK (br J t l).1
  | [],t,_,ht,_=>ht
  | x ::r,t,h0,ht,h=>by
    unfold br
    split
    · exact iK.ei
    · rename_i hn
      have hx:=h x List.mem_cons_self
      exact xW hJT hJ (hJT _ _ h0 hx.1) (hJ _ _ h0 hx.1 ht hx.2 (by simpa using hn)) fun y hy=>h y (List.mem_cons_of_mem _ hy)
theorem PF {O:WN}{E:Env}{Tp:Tree→Prop}(h0:Tp ei)(hJT:∀a b,Tp a→Tp b→Tp (O.J a b).1)(hJ:∀a b,Tp a→Tp b→iK a→iK b→(O.J a b).2=0→iK (O.J a b).1)(hR:∀op,(O.rule op).2.2<7∧(O.rule op).2.2≠5)(hs:∀l e,e∈O.srt l→e∈l)(hE:RV E)
    {op:Int}{s t:List UInt8}{ns l:List Tree}(hl:∀y∈l,Tp y∧iK y)(h:(jg O E op s t ns l).2=0):iK (jg O E op s t ns l).1:=by
  have hat:∀i,Tp (zJ l i)∧iK (zJ l i):=fun i=>by
    unfold zJ
    cases hi:l[i]? with
    |none=>exact⟨h0,iK.ei⟩
    |some e=>exact hl e (List.mem_of_getElem? hi)
  unfold jg at*
  split
  · exact iK.plain (by omega) (by omega)
  split
  · split
    · exact iK.ei
    · exact iK.named _
  split
  · exact PE hE _
  split
  · split
    · exact iK.ei
    · exact iK.set (xW hJT hJ h0 iK.ei hl)
  split
  · exact iK.record fun e he=>Fb (fun y hy=>(hl y hy).2) e (hs _ _ he)
  split
  · exact Ln hE (hat 0).2 _
  split
  · rename_i h1 h2 h3 h4 h5 h6 h7
    rw[if_neg h1,if_neg h2,if_neg h3,if_neg h4,if_neg h5,if_neg h6,if_pos h7] at h
    split
    · rename_i h8
      rw[if_pos h8] at h
      exact hJ _ _ (hat 1).1 (hat 2).1 (hat 1).2 (hat 2).2 h
    · exact iK.ei
  split
  · exact iK.ei
  · exact iK.plain (hR _).1 (hR _).2
theorem xX {f g:Tree→Tree×Int}:∀{l:List Tree},(∀k∈l,f k=g k)→fZ f l=fZ g l
 | [],_=>rfl
 |a::l,h=>by
  have ih:=xX (f:=f) (g:=g) (l:=l) fun k hk=>h k (List.mem_cons_of_mem _ hk)
  unfold fZ
  rw[h a List.mem_cons_self,ih]
def dA (e:Tree):Tree:=.agg [.int .u8 7,.int .i64 0,.str [],.str [],.sl [.str [97]],.sl [e]]
def eR:Tree→List Tree
 |.agg [_,_,_,_,_,.sl l]=>l
 |_=>[]
def Dx:Nat→Tree→Prop
 |0,_=>False
 |n+1,x=>∀k∈eR x,Dx n k
theorem Dx.mono:∀{n m:Nat} {x:Tree},n≤m→Dx n x→Dx m x
 |0,_,_,_,h=>h.elim
 |n+1,0,_,hle,_=>by omega
 |n+1,m+1,x,hle,h=>fun k hk=>Dx.mono (by omega) (h k hk)
def uR (b:Tree→Bool)(f:Tree→Int×Int×Bool)(x:Tree):Int×Int×Bool:=
 (IntKind.wrap .i64 ((eR x).foldl (fun a k=>max a (f k).1) 0+1),IntKind.wrap .i64 ((eR x).foldl (fun a k=>IntKind.wrap .i64 (a+(f k).2.1)) 0+1),(eR x).foldl (fun o k=>o&&(f k).2.2) (b x))
def zK (b:Tree→Bool):Nat→Tree→Int×Int×Bool
 |0=>fun _=>(0,0,false)
 |n+1=>uR b (zK b n)
theorem adH:∀{l:List Tree},(∀y∈l,∃n,Dx n y)→∃n,∀y∈l,Dx n y
 | [],_=>⟨0,fun y hy=>by cases hy⟩
 |a::l,h=>by
  obtain⟨n,hn⟩:=adH fun y hy=>h y (List.mem_cons_of_mem _ hy)
  obtain⟨k,hk⟩:=h a List.mem_cons_self
  refine⟨max n k,fun y hy=> ?_⟩
  rcases List.mem_cons.1 hy with rfl|hy
  · exact Dx.mono (Nat.le_max_right _ _) hk
  · exact Dx.mono (Nat.le_max_left _ _) (hn y hy)
theorem bJ {α:Type}{g:α→Tree→α}{l:List Tree}{i:Nat}{e:Tree}{a:α}(he:l[i]?=some e):(l.take (i+1)).foldl g a=g ((l.take i).foldl g a) e:=by
 obtain⟨hi,rfl⟩:=List.getElem?_eq_some_iff.1 he
 rw[List.take_add_one,List.foldl_append,List.getElem?_eq_getElem hi];rfl
theorem foldl_congr {α:Type}{g1 g2:α→Tree→α}:∀{l:List Tree} {a:α},(∀k∈l,∀a,g1 a k=g2 a k)→l.foldl g1 a=l.foldl g2 a
 | [],_,_=>rfl
 |x::r,a,h=>by
  rw[List.foldl_cons,List.foldl_cons,h x List.mem_cons_self]
  exact foldl_congr fun k hk=>h k (List.mem_cons_of_mem _ hk)
theorem Fc {b:Tree→Bool}{f g:Tree→Int×Int×Bool}{x:Tree}(h:∀k∈eR x,f k=g k):uR b f x=uR b g x:=by
 unfold uR
 rw[foldl_congr (g1:=fun a k=>max a (f k).1) (g2:=fun a k=>max a (g k).1) fun k hk a=>by rw[h k hk],
  foldl_congr (g1:=fun a k=>IntKind.wrap .i64 (a+(f k).2.1)) (g2:=fun a k=>IntKind.wrap .i64 (a+(g k).2.1)) fun k hk a=>by rw[h k hk],
  foldl_congr (g1:=fun o k=>o&&(f k).2.2) (g2:=fun o k=>o&&(g k).2.2) fun k hk a=>by rw[h k hk]]
theorem wk {b:Tree→Bool}:∀(n m:Nat) (x:Tree),Dx n x→Dx m x→zK b n x=zK b m x
 |0,_,_,h,_=>h.elim
 |_+1,0,_,_,h=>h.elim
 |n+1,m+1,x,h1,h2=>Fc fun k hk=>wk n m k (h1 k hk) (h2 k hk)
def tE:Nat→Tree→Nat
 |0,_=>0
 |n+1,x=>(eR x).foldl (fun a k=>max a (tE n k)) 0+1
def lU:Nat→Tree→Nat
 |0,_=>0
 |n+1,x=>(eR x).foldl (fun a k=>a+lU n k) 0+1
theorem uk {g:Tree→Nat}:∀{l:List Tree} {a:Nat},a≤l.foldl (fun a k=>a+g k) a
 | [],_=>Nat.le_refl _
 |x::r,a=>by
  rw[List.foldl_cons]
  exact Nat.le_trans (Nat.le_add_right _ _) uk
theorem xY {g:Tree→Nat}:∀{l:List Tree} {a:Nat} {k:Tree},k∈l→a+g k≤l.foldl (fun a k=>a+g k) a
  | x ::r,a,k,h=>by
    rw[List.foldl_cons]
    rcases List.mem_cons.1 h with rfl|h
    · exact uk
    · have:=xY (g:=g) (a:=a+g x) h
      omega
theorem AQ {g:Tree→Nat}:∀{l:List Tree} {a:Nat},a≤l.foldl (fun a k=>max a (g k)) a
 | [],_=>Nat.le_refl _
 |x::r,a=>by
  rw[List.foldl_cons]
  exact Nat.le_trans (Nat.le_max_left _ _) AQ
theorem xZ {g:Tree→Nat}:∀{l:List Tree} {a:Nat} {k:Tree},k∈l→g k≤l.foldl (fun a k=>max a (g k)) a
 |x::r,a,k,h=>by
  rw[List.foldl_cons]
  rcases List.mem_cons.1 h with rfl|h
  · exact Nat.le_trans (Nat.le_max_right _ _) AQ
  · exact xZ h
theorem x4 {g c:Tree→Nat}:∀{l:List Tree} {a b:Nat},(∀k∈l,g k≤c k)→a≤b→l.foldl (fun a k=>max a (g k)) a≤l.foldl (fun a k=>a+c k) b
 | [],_,_,_,h=>h
 |x::r,a,b,h,hab=>by
  rw[List.foldl_cons,List.foldl_cons]
  have:=h x List.mem_cons_self
  exact x4 (fun k hk=>h k (List.mem_cons_of_mem _ hk)) (by omega)
theorem CJ:∀(n:Nat) (x:Tree),tE n x≤lU n x
 |0,_=>Nat.le_refl _
 |n+1,x=>Nat.succ_le_succ (x4 (fun k _=>CJ n k) (Nat.le_refl _))
theorem Nl {n:Nat}{x k:Tree}(h:k∈eR x):lU n k<lU (n+1) x:=by
 have:=xY (g:=lU n) (a:=0) h
 show _<_+1
 omega
theorem WQ {n:Nat}{x k:Tree}(h:k∈eR x):tE n k<tE (n+1) x:=by
 have:=xZ (g:=tE n) (a:=0) h
 show _<_+1
 omega
theorem wrap_i64 {n:Int}(h1:-9223372036854775808≤n)(h2:n≤9223372036854775807):IntKind.wrap .i64 n=n:=by
 simp only[IntKind.wrap,IntKind.bits,IntKind.signed]
 first|omega|(simp;omega)
theorem AR {f:Tree→Int×Int×Bool}{g:Tree→Nat}:∀{l:List Tree} {a:Nat},(∀k∈l,(f k).1=(g k:Int))→l.foldl (fun a k=>max a (f k).1) (a:Int)=((l.foldl (fun a k=>max a (g k)) a:Nat):Int)
 | [],_,_=>rfl
 |x::r,a,h=>by
  rw[List.foldl_cons,List.foldl_cons,h x List.mem_cons_self]
  have e:max (a:Int) (g x:Int)=((max a (g x):Nat):Int):=by omega
  rw[e]
  exact AR fun k hk=>h k (List.mem_cons_of_mem _ hk)
theorem AU {f:Tree→Int×Int×Bool}{g:Tree→Nat}:∀{l:List Tree} {a:Nat},(∀k∈l,(f k).2.1=(g k:Int))→l.foldl (fun a k=>a+g k) a≤1099511627776→
  l.foldl (fun a k=>IntKind.wrap .i64 (a+(f k).2.1)) (a:Int)=((l.foldl (fun a k=>a+g k) a:Nat):Int)
 | [],_,_,_=>rfl
 |x::r,a,h,hb=>by
  rw[List.foldl_cons] at hb
  have h3:=uk (g:=g) (l:=r) (a:=a+g x)
  rw[List.foldl_cons,List.foldl_cons,h x List.mem_cons_self]
  have e:IntKind.wrap .i64 ((a:Int)+(g x:Int))=((a+g x:Nat):Int):=by rw[wrap_i64 (by omega) (by omega)];omega
  rw[e]
  exact AU (fun k hk=>h k (List.mem_cons_of_mem _ hk)) hb
theorem CK {b:Tree→Bool}:∀(n:Nat) (x:Tree),lU n x≤1099511627776→(zK b n x).1=(tE n x:Int)∧(zK b n x).2.1=(lU n x:Int)
 |0,_,_=>⟨rfl,rfl⟩
 |n+1,x,h=>by
  have ih:∀k∈eR x,(zK b n k).1=(tE n k:Int)∧(zK b n k).2.1=(lU n k:Int):=fun k hk=>CK n k (by have:=Nl (n:=n) hk;omega)
  have hl:=CJ (n+1) x
  have e1:=AR (f:=zK b n) (g:=tE n) (l:=eR x) (a:=0) fun k hk=>(ih k hk).1
  have e2:=AU (f:=zK b n) (g:=lU n) (l:=eR x) (a:=0) (fun k hk=>(ih k hk).2) (by simp only[lU] at h;omega)
  simp only[tE,lU] at h hl
  simp only[zK,uR,tE,lU]
  have e1:(eR x).foldl (fun a k=>max a (zK b n k).1) 0=_:=e1
  have e2:(eR x).foldl (fun a k=>IntKind.wrap .i64 (a+(zK b n k).2.1)) 0=_:=e2
  rw[e1,e2]
  exact⟨by rw[wrap_i64 (by omega) (by omega)];omega,by rw[wrap_i64 (by omega) (by omega)];omega⟩
theorem CL {f:Tree→Bool}:∀{l:List Tree} {o:Bool},l.foldl (fun o k=>o&&f k) o=true↔o=true∧∀k∈l,f k=true
 | [],o=>by simp
 |x::r,o=>by
  rw[List.foldl_cons,CL]
  simp only[Bool.and_eq_true,List.mem_cons,forall_eq_or_imp,and_assoc]
theorem Lp {b:Tree→Bool}{n:Nat}{x:Tree}:(zK b (n+1) x).2.2=true↔b x=true∧∀k∈eR x,(zK b n k).2.2=true:=CL (f:=fun k=>(zK b n k).2.2)
def wm (r:Int×Int×Bool):Int:=if r.2.2=false then 5 else if r.1>16 then 4 else if r.2.1>128 then 2 else 0
theorem uS {r:Int×Int×Bool}:wm r=0↔r.2.2=true∧r.1≤16∧r.2.1≤128:=by
  unfold wm
  split
  · rename_i h;simp[h]
  · rename_i h
    split
    · simp;omega
    · split
      · simp;omega
      · rename_i h1 h2
        simp only[true_iff]
        exact⟨by simpa using h,by omega,by omega⟩
theorem WR {b:Tree→Bool}{n:Nat}{x k:Tree}(hb:lU (n+1) x≤1099511627776)(h:wm (zK b (n+1) x)=0)(hk:k∈eR x):wm (zK b n k)=0:=by
 obtain⟨h1,h2,h3⟩:=uS.1 h
 have hc:=Nl (n:=n) hk
 have hl:=WQ (n:=n) hk
 obtain⟨e1,e2⟩:=CK (b:=b) (n+1) x hb
 obtain⟨f1,f2⟩:=CK (b:=b) n k (by omega)
 exact uS.2 ⟨(Lp.1 h1).2 k hk,by omega,by omega⟩
theorem RW {b:Tree→Bool}{n:Nat}{x y:Tree}(hb:lU (n+1) x≤1099511627776)(h:wm (zK b (n+1) x)=0)(hy:b y=true)(hk:∀k∈eR y,k∈eR x)(hl:tE (n+1) y≤tE (n+1) x)(hc:lU (n+1) y≤lU (n+1) x):wm (zK b (n+1) y)=0:=by
 obtain⟨h1,h2,h3⟩:=uS.1 h
 obtain⟨e1,e2⟩:=CK (b:=b) (n+1) x hb
 obtain⟨f1,f2⟩:=CK (b:=b) (n+1) y (by omega)
 exact uS.2 ⟨Lp.2 ⟨hy,fun k q=>(Lp.1 h1).2 k (hk k q)⟩,by omega,by omega⟩
mutual
def bulk:Tree→Nat
 |.sl es=>bulks es+1
 |.agg cs=>bulks cs+1
 |.bN cs=>bulks cs+1
 |.iface _ v=>bulk v+1
 |_=>1
def bulks:List Tree→Nat
 | []=>0
 |x::r=>bulk x+bulks r
end
theorem Fe {n:Nat}(ih:∀x,lU n x≤bulk x):∀(l:List Tree) (a:Nat),l.foldl (fun a k=>a+lU n k) a≤a+bulks l
 | [],a=>Nat.le_refl _
 |x::r,a=>by
  rw[List.foldl_cons]
  have h:=Fe ih r (a+lU n x)
  have h2:=ih x
  show _≤a+(bulk x+bulks r)
  omega
theorem x5 (x:Tree):1≤bulk x:=by cases x<;>simp[bulk]
theorem CM:∀(n:Nat) (x:Tree),lU n x≤bulk x
 |0,x=>Nat.zero_le _
 | n+1,x=>by
  show(eR x).foldl (fun a k=>a+lU n k) 0+1≤bulk x
  have h:=Fe (CM n) (eR x) 0
  have h1:bulks (eR x)+1≤bulk x:=by
   unfold eR
   split
   · simp only[bulk,bulks];omega
   · simp only[bulks];exact x5 x
  omega
end Go.Abs.Ty
