/- What one expression comes to. -/
import Derived.Test.YtacmmaaabfhhoaaGreatDoorAA
import Derived.Test.YtacmmaaabfhhoaaGreatDoorAC
import Derived.Defers
import Derived.Recover
set_option linter.unusedVariables false
set_option linter.unusedSimpArgs false
namespace Go.Proofs.YtacmmaaabfhhoaaGreatDoor.w.e
open Go Go.Abs Go.RowKit
set_option maxRecDepth 100000
set_option maxHeartbeats 2000000
noncomputable section
def b1:Tree:=.agg [.int .u8 1,.int .i64 1,.str [],.str [],.sl [],.sl []]
def bA:Tree:=.agg [.int .u8 15,.int .i64 0,.str [],.str [],.sl [],.sl [b1,b1]]
def bd:Tree:=.agg [.int .u8 15,.int .i64 0,.str [],.str [],.sl [],.sl [bA,b1]]
def q0:Tree:=.agg [.str [84],.str [],.str [84],.str [],.str [84],.str [],.int .u8 5,.bool false,.int .i64 0,.str [],.str [],.sl [],.sl []]
def vT:Tree:=.agg [.int .u8 0,.bool true,.int .i64 0,.str [],.str [],.sl [],.sl []]
def Ag:List (TV×TV×Nat):=[(.t (.int .u8 1),.t (.fn (.func 106)),0),(.t (.int .u8 2),.t (.fn (.func 106)),1),(.t (.int .u8 3),.t (.fn (.func 106)),2),(.t (.int .u8 4),.t (.fn (.func 106)),3),(.t (.int .u8 5),.t (.fn (.func 107)),4),(.t (.int .u8 6),.t (.fn (.func 108)),5),(.t (.int .u8 7),.t (.fn (.func 109)),6),(.t (.int .u8 8),.t (.fn (.func 110)),7),(.t (.int .u8 9),.t (.fn (.func 111)),8),(.t (.int .u8 10),.t (.fn (.func 112)),9),(.t (.int .u8 11),.t (.fn (.func 113)),10),(.t (.int .u8 12),.t (.fn (.func 114)),11),(.t (.int .u8 13),.t (.fn (.func 115)),12),(.t (.int .u8 17),.t (.fn (.func 116)),13),(.t (.int .u8 18),.t (.fn (.func 116)),14),(.t (.int .u8 19),.t (.fn (.func 117)),15),(.t (.int .u8 20),.t (.fn (.func 117)),16),(.t (.int .u8 21),.t (.fn (.func 117)),17),(.t (.int .u8 22),.t (.fn (.func 117)),18),(.t (.int .u8 23),.t (.fn (.func 118)),19),(.t (.int .u8 24),.t (.fn (.func 119)),20),(.t (.int .u8 25),.t (.fn (.func 119)),21),(.t (.int .u8 26),.t (.fn (.func 119)),22),(.t (.int .u8 27),.t (.fn (.func 120)),23),(.t (.int .u8 28),.t (.fn (.func 121)),24),(.t (.int .u8 29),.t (.fn (.func 121)),25)]
theorem qQ (σ:Nm->Option Nm):(aO.map Ag 26).rn σ=some (.map Ag 26):=rfl
def JP:List aO:=[.cells 129 [.t (.str [84]),.t (.str []),.t (.str [84]),.t (.str []),.t (.str [84]),.t (.str []),.t (.int .u8 5),.t (.bool false),.t (.int .i64 0),.t (.str []),.t (.str []),.t (.sl []),.t (.sl []),.t (.sl [])],.map Ag 26]
theorem Hp (m:Int):ai (cf m) 65 [] [] (.ret (.map (.loc [1])) [] [(.loc [1],.map Ag 26)]):=ou (by kernel_rfl)
theorem aa5 (x1 x2:Value)(w:World):
 CallsD Tryz.prog 62 #[x1,x2] .returning w λe u' w'=>e=.returned (.tuple #[])/\u'=.returning/\w'=w:=by
 refine callsD_of_wpS Tryz.func62 rfl λc₀ cs hu=> ?_
 apply wpS_seq
 apply wpS_region
 simp[wpOpsS,go_sem,recoverD,hu,Tryz.ntmps62,Exit.thenS]
 show Code.wpS Tryz.prog _ _ {tmps:= #[x1,x2,Value.nilIface,Value.nilIface,undef,undef,undef,undef,undef,undef],defers:=[]} _ _
 refine wpS_of_wp ?_
 go_wp2
 exact⟨rfl,.returning,by cases c₀;simp_all,.tuple #[],results_none rfl _ _ _,rfl,rfl,rfl⟩
def zc:List TV:=[.t (.int .u8 0),.t (.bool false),.t (.int .i64 0),.t (.str []),.t (.str []),.bJ,.bJ]
theorem aju:∀args w,(callFunc 62 args).run Tryz.prog w=.ok (.enter 62 args) w:=enters_of Tryz.func62 (by kernel_rfl) rfl
theorem UU (m:Int)(o0 o1:aO):LZ (cf m) 62 [.ptr (.arg 0) 0,.ptr (.arg 1) 0] [o0,o1] none [o0,o1]:=by
 intro G w vs u hw hg had hH hv hm;obtain rfl:u=.returning:=hm;obtain⟨x1,x2,rfl,h1,h2⟩:=hv.two;refine⟨aju _ _,(aa5 x1 x2 w).mono ?_⟩;rintro e u' w' ⟨rfl,rfl,rfl⟩;exact⟨.tuple #[],G,rfl,rfl,Step.refl hw _ _,rfl,gJ hH⟩
noncomputable def bdy:Code:=Tryz.f26.body.getD .skip
noncomputable def sq1:Code->Code
 |.seq a _=>a
 |_=>.skip
noncomputable def L4:Code->Code
 |.seq _ b=>b
 |_=>.skip
noncomputable abbrev cY:Code:=L4 (L4 (L4 (L4 (L4 bdy))))
theorem aa6:Tryz.f26.body=some (.seq (sq1 bdy) (.seq (sq1 (L4 bdy)) (.seq (sq1 (L4 (L4 bdy))) (.seq (sq1 (L4 (L4 (L4 bdy)))) (.seq (sq1 (L4 (L4 (L4 (L4 bdy))))) cY))))):=by kernel_rfl
theorem Ng {m:Int}{fn:Func}{n0:Nat}{r:bz}{x y:Code}{st:St}{k T:Nat}{S ks:List Nm}{live:List Nat}{ev:aX}(az:aF (cf m) ev)(s2:St)(obs:List (Ob ev))
 (h:bg (goK (cf m) 0 [] 100000 3000 [.c x] .normal st) (V8 k S ks live T) (vals obs)=some ((.normal,s2),[],vals obs))(kk:PA (cf m) fn n0 r y s2):PA (cf m) fn n0 r (.seq x y) st:=
 PA.seq ((AX.frames (R:=Unit) (Zy ah az (Q:=λ_ e s=>YC (cf m) fn n0 r y e s) .normal s2 obs rfl h ⟨(),kk⟩)).elim λ_ h=>h)
theorem aa7 (m:Int)(h1:R1 (cf m) 57 (.agg [.int .u8 15,.int .i64 0,.str [],.str [],.sl [],.sl [bA,b1]]) (.int .i64 0))(h2:R1 (cf m) 21 (.agg [.str [84],.str [],.str [84],.str [],.str [84],.str [],.int .u8 5,.bool false,.int .i64 0,.str [],.str [],.sl [],.sl []]) (.int .i64 0))(h3:R1 (cf m) 22 (.sl []) (.int .i64 0))(x:Tree)
 (hy:AW (cf m) cY ⟨dU 40 [(2,.t (.sl [])),(3,.ptr (.arg 0) 0),(4,.ptr (.arg 1) 0),(6,.ptr (.arg 2) 0),(7,.ptr (.arg 3) 0),(30,.fn (.func 62) [] [.ptr (.arg 2) 0,.ptr (.arg 3) 0])],bK 0 [.cells 52 [.t (.int .u8 15),.t (.int .i64 0),.t (.str []),.t (.str []),.t (.sl []),.t (.sl [bA,b1])],.cells 31 [.t (.str [84]),.t (.str []),.t (.str [84]),.t (.str []),.t (.str [84]),.t (.str []),.t (.int .u8 5),.t (.bool false),.t (.int .i64 0),.t (.str []),.t (.str []),.t (.sl []),.t (.sl [])],.cells 29 zc,.cells 36 [.t (.int .i64 0)]],0⟩ (aa2 (cf m) Tryz.f26 62 [.ptr (.arg 2) 0,.ptr (.arg 3) 0] 4 x)):ai (cf m) 26 [.t (.agg [.int .u8 15,.int .i64 0,.str [],.str [],.sl [],.sl [bA,b1]]),.t (.agg [.str [84],.str [],.str [84],.str [],.str [84],.str [],.int .u8 5,.bool false,.int .i64 0,.str [],.str [],.sl [],.sl []]),.t (.sl [])] [] (.ret (.t x) [] []):=by
 obtain⟨ev,az,aer,aes,aet⟩:∃ev,aF (cf m) ev/\Has ev 57 (pz (λx=>x=(.agg [.int .u8 15,.int .i64 0,.str [],.str [],.sl [],.sl [bA,b1]])) (λ_=>.int .i64 0))/\Has ev 21 (pz (λx=>x=(.agg [.str [84],.str [],.str [84],.str [],.str [84],.str [],.int .u8 5,.bool false,.int .i64 0,.str [],.str [],.sl [],.sl []])) (λ_=>.int .i64 0))/\Has ev 22 (pz (λx=>x=.sl []) (λ_=>.int .i64 0)):=⟨_,(av (cc (λx h=>by subst h;exact h1)) (av (cc (λx h=>by subst h;exact h2)) (av (cc (λx h=>by subst h;exact h3)) aI))),aD,(aq rfl aD),(aq rfl (aq rfl aD))⟩
 refine aa1 (fn:=Tryz.f26) rfl aa6 (by decide) ?_
 refine Ng (k:=40) (T:=4) (S:=[.loc [0],.loc [1],.loc [2],.loc [3]]) (ks:=[.loc [0],.loc [1],.loc [2],.loc [3]]) (live:=[2,3,4,6,7]) az ⟨dU 40 [(2,.t (.sl [])),(3,.ptr (.loc [0]) 0),(4,.ptr (.loc [1]) 0),(6,.ptr (.loc [2]) 0),(7,.ptr (.loc [3]) 0)],[(.loc [0],.cells 52 [.t (.int .u8 15),.t (.int .i64 0),.t (.str []),.t (.str []),.t (.sl []),.t (.sl [bA,b1])]),(.loc [1],.cells 31 [.t (.str [84]),.t (.str []),.t (.str [84]),.t (.str []),.t (.str [84]),.t (.str []),.t (.int .u8 5),.t (.bool false),.t (.int .i64 0),.t (.str []),.t (.str []),.t (.sl []),.t (.sl [])]),(.loc [2],.cells 29 zc),(.loc [3],.cells 36 [.t (.int .i64 0)])],4⟩ [] (by kernel_rfl) ?_
 refine Ng (k:=40) (T:=4) (S:=[.loc [0],.loc [1],.loc [2],.loc [3]]) (ks:=[.loc [0],.loc [1],.loc [2],.loc [3]]) (live:=[2,3,4,6,7]) az ⟨dU 40 [(2,.t (.sl [])),(3,.ptr (.loc [0]) 0),(4,.ptr (.loc [1]) 0),(6,.ptr (.loc [2]) 0),(7,.ptr (.loc [3]) 0)],[(.loc [0],.cells 52 [.t (.int .u8 15),.t (.int .i64 0),.t (.str []),.t (.str []),.t (.sl []),.t (.sl [bA,b1])]),(.loc [1],.cells 31 [.t (.str [84]),.t (.str []),.t (.str [84]),.t (.str []),.t (.str [84]),.t (.str []),.t (.int .u8 5),.t (.bool false),.t (.int .i64 0),.t (.str []),.t (.str []),.t (.sl []),.t (.sl [])]),(.loc [2],.cells 29 zc),(.loc [3],.cells 36 [.t (.int .i64 0)])],4⟩ [oC (cg aer (x:=(.agg [.int .u8 15,.int .i64 0,.str [],.str [],.sl [],.sl [bA,b1]])) rfl),oF] (by kernel_rfl) ?_
 refine Ng (k:=40) (T:=4) (S:=[.loc [0],.loc [1],.loc [2],.loc [3]]) (ks:=[.loc [0],.loc [1],.loc [2],.loc [3]]) (live:=[2,3,4,6,7]) az ⟨dU 40 [(2,.t (.sl [])),(3,.ptr (.loc [0]) 0),(4,.ptr (.loc [1]) 0),(6,.ptr (.loc [2]) 0),(7,.ptr (.loc [3]) 0)],[(.loc [0],.cells 52 [.t (.int .u8 15),.t (.int .i64 0),.t (.str []),.t (.str []),.t (.sl []),.t (.sl [bA,b1])]),(.loc [1],.cells 31 [.t (.str [84]),.t (.str []),.t (.str [84]),.t (.str []),.t (.str [84]),.t (.str []),.t (.int .u8 5),.t (.bool false),.t (.int .i64 0),.t (.str []),.t (.str []),.t (.sl []),.t (.sl [])]),(.loc [2],.cells 29 zc),(.loc [3],.cells 36 [.t (.int .i64 0)])],4⟩ [oC (cg aes (x:=(.agg [.str [84],.str [],.str [84],.str [],.str [84],.str [],.int .u8 5,.bool false,.int .i64 0,.str [],.str [],.sl [],.sl []])) rfl),oF] (by kernel_rfl) ?_
 refine Ng (k:=40) (T:=4) (S:=[.loc [0],.loc [1],.loc [2],.loc [3]]) (ks:=[.loc [0],.loc [1],.loc [2],.loc [3]]) (live:=[2,3,4,6,7]) az ⟨dU 40 [(2,.t (.sl [])),(3,.ptr (.loc [0]) 0),(4,.ptr (.loc [1]) 0),(6,.ptr (.loc [2]) 0),(7,.ptr (.loc [3]) 0)],[(.loc [0],.cells 52 [.t (.int .u8 15),.t (.int .i64 0),.t (.str []),.t (.str []),.t (.sl []),.t (.sl [bA,b1])]),(.loc [1],.cells 31 [.t (.str [84]),.t (.str []),.t (.str [84]),.t (.str []),.t (.str [84]),.t (.str []),.t (.int .u8 5),.t (.bool false),.t (.int .i64 0),.t (.str []),.t (.str []),.t (.sl []),.t (.sl [])]),(.loc [2],.cells 29 zc),(.loc [3],.cells 36 [.t (.int .i64 0)])],4⟩ [oC (cg aet (x:=.sl []) rfl),oF] (by kernel_rfl) ?_
 exact PA.defer (ev:=ev) az (f:=0) (S:=[.loc [0],.loc [1],.loc [2],.loc [3]]) (v:=.fn (.func 62) [] [.ptr (.loc [2]) 0,.ptr (.loc [3]) 0]) (u:=[]) (caps:=[.ptr (.loc [2]) 0,.ptr (.loc [3]) 0]) (g:=62) (by kernel_rfl) (by kernel_rfl) rfl rfl rfl (by kernel_rfl) (by decide) (by kernel_rfl) (by kernel_rfl) (by kernel_rfl) hy
def exQ (r:GoR):aJ:=match r with
 |some ((_,e,_),_,_)=>e
 |none=>.normal
def stQ (r:GoR):St:=match r with
 |some ((_,_,s),_,_)=>s
 |none=>⟨[],[],0⟩
theorem L5 {C:cE}{Q:aJ->St->Prop}(e:aJ)(s:St):KE C Q [] e s=Q e s:=by kernel_rfl
theorem ajv {C:cE}{ev:aX}{f:FuncId}(hm:C.P.prog.follows .mixedOrders=true)(az:aF C ev){K:List Fr}{e:aJ}{s:St}{Q:aJ->St->Prop}(obs:List (Ob ev))(h:IW (goK C f [] 100000 3000 K e s (vals obs))=some ([],vals obs))
 (k:Q (exQ (goK C f [] 100000 3000 K e s (vals obs))) (stQ (goK C f [] 100000 3000 K e s (vals obs)))):KE C Q K e s:=by
 have hv:=nC obs
 cases hg:goK C f [] 100000 3000 K e s (vals obs) with
 |none=>rw[hg] at h;cases h
 | some q=>
  obtain⟨⟨K',e',s'⟩,c,em⟩:=q
  rw[hg] at h k
  cases K' with
  |cons=>cases h
  |nil=>
   cases e' with
   |normal=>cases h
   |exit i=>cases h;exact qf hm az _ _ _ _ _ _ _ _ hg hv Q (cast (L5 _ _).symm k)
   |ret=>cases h;exact qf hm az _ _ _ _ _ _ _ _ hg hv Q (cast (L5 _ _).symm k)
   |panic v=>cases h;exact qf hm az _ _ _ _ _ _ _ _ hg hv Q (cast (L5 _ _).symm k)
theorem aa8 (m:Int)(h1:R1 (cf m) 57 (.agg [.int .u8 15,.int .i64 0,.str [],.str [],.sl [],.sl [bA,b1]]) (.int .i64 0))(h2:R1 (cf m) 21 (.agg [.str [84],.str [],.str [84],.str [],.str [84],.str [],.int .u8 5,.bool false,.int .i64 0,.str [],.str [],.sl [],.sl []]) (.int .i64 0))(h3:R1 (cf m) 22 (.sl []) (.int .i64 0))(h4:R1 (cf m) 63 (.agg [.int .u8 0,.bool true,.int .i64 0,.str [],.str [],.sl [],.sl []]) (.agg [.int .u8 0,.bool true,.int .i64 0,.str [],.str [],.sl [],.sl []]))(hr:ai (cf m) 64 [.ptr (.arg 0) 0,.t (.agg [.int .u8 15,.int .i64 0,.str [],.str [],.sl [],.sl [bA,b1]]),.map (.arg 1)] (JP) (.ret (.t (.agg [.int .u8 0,.bool true,.int .i64 0,.str [],.str [],.sl [],.sl []])) JP [])):ai (cf m) 26 [.t (.agg [.int .u8 15,.int .i64 0,.str [],.str [],.sl [],.sl [bA,b1]]),.t (.agg [.str [84],.str [],.str [84],.str [],.str [84],.str [],.int .u8 5,.bool false,.int .i64 0,.str [],.str [],.sl [],.sl []]),.t (.sl [])] [] (.ret (.t (.dr [(.agg [.int .u8 0,.bool true,.int .i64 0,.str [],.str [],.sl [],.sl []]),.int .i64 0])) [] []):=by
 refine aa7 m h1 h2 h3 _ ?_;obtain⟨ev,az,YG,aeu,ng⟩:∃ev,aF (cf m) ev/\Has ev 65 (px [] [] (.ret (.map (.loc [1])) [] [(.loc [1],.map Ag 26)]))/\Has ev 64 (px [.ptr (.arg 0) 0,.t (.agg [.int .u8 15,.int .i64 0,.str [],.str [],.sl [],.sl [bA,b1]]),.map (.arg 1)] (JP) (.ret (.t (.agg [.int .u8 0,.bool true,.int .i64 0,.str [],.str [],.sl [],.sl []])) JP []))/\Has ev 63 (pz (λx=>x=(.agg [.int .u8 0,.bool true,.int .i64 0,.str [],.str [],.sl [],.sl []])) (λx=>x)):=⟨_,(av (wM (Hp m)) (av (wM hr) (av (cc (λx h=>by subst h;exact h4)) aI))),aD,(aq rfl aD),(aq rfl (aq rfl aD))⟩;refine(AX.frames (R:=Unit) ⟨(),ajv (f:=0) ah az [oC (wj YG),oN (o:=.map Ag 26) qQ,oN (o:=.map Ag 26) qQ,oN (o:=.map Ag 26) qQ,oC (show ev 64 [.ptr (.arg 0) 0,.t (.agg [.int .u8 15,.int .i64 0,.str [],.str [],.sl [],.sl [bA,b1]]),.map (.arg 1)] (JP)=some (bz.ret (.t (.agg [.int .u8 0,.bool true,.int .i64 0,.str [],.str [],.sl [],.sl []])) JP []) from wj aeu),oN (o:=.map Ag 26) qQ,oC (cg ng (x:=(.agg [.int .u8 0,.bool true,.int .i64 0,.str [],.str [],.sl [],.sl []])) rfl)] (by kernel_rfl) ?_⟩).elim λ_ h=>h
 have hx:exQ (goK (cf m) 0 [] 100000 3000 [.c cY] .normal ⟨dU 40 [(2,.t (.sl [])),(3,.ptr (.arg 0) 0),(4,.ptr (.arg 1) 0),(6,.ptr (.arg 2) 0),(7,.ptr (.arg 3) 0),(30,.fn (.func 62) [] [.ptr (.arg 2) 0,.ptr (.arg 3) 0])],bK 0 [.cells 52 [.t (.int .u8 15),.t (.int .i64 0),.t (.str []),.t (.str []),.t (.sl []),.t (.sl [bA,b1])],.cells 31 [.t (.str [84]),.t (.str []),.t (.str [84]),.t (.str []),.t (.str [84]),.t (.str []),.t (.int .u8 5),.t (.bool false),.t (.int .i64 0),.t (.str []),.t (.str []),.t (.sl []),.t (.sl [])],.cells 29 zc,.cells 36 [.t (.int .i64 0)]],0⟩ (vals ([oC (wj YG),oN (o:=.map Ag 26) qQ,oN (o:=.map Ag 26) qQ,oN (o:=.map Ag 26) qQ,oC (show ev 64 [.ptr (.arg 0) 0,.t (.agg [.int .u8 15,.int .i64 0,.str [],.str [],.sl [],.sl [bA,b1]]),.map (.arg 1)] (JP)=some (bz.ret (.t (.agg [.int .u8 0,.bool true,.int .i64 0,.str [],.str [],.sl [],.sl []])) JP []) from wj aeu),oN (o:=.map Ag 26) qQ,oC (cg ng (x:=(.agg [.int .u8 0,.bool true,.int .i64 0,.str [],.str [],.sl [],.sl []])) rfl)]:List (Ob ev))))=.ret:=by kernel_rfl
 refine⟨λi=>(by rw[hx];exactλh=>(by cases h)),[.arg 2,.arg 3],[.ptr (.arg 0) 0,.ptr (.arg 1) 0],[.cells 29 [.t (.int .u8 0),.t (.bool true),.t (.int .i64 0),.t (.str []),.t (.str []),.t (.sl []),.t (.sl [])],.cells 36 [.t (.int .i64 0)]],[.cells 29 [.t (.int .u8 0),.t (.bool true),.t (.int .i64 0),.t (.str []),.t (.str []),.t (.sl []),.t (.sl [])],.cells 36 [.t (.int .i64 0)]],[(.arg 2,.cells 29 [.t (.int .u8 0),.t (.bool true),.t (.int .i64 0),.t (.str []),.t (.str []),.t (.sl []),.t (.sl [])]),(.arg 3,.cells 36 [.t (.int .i64 0)])],[.cells 52 [.t (.int .u8 15),.t (.int .i64 0),.t (.str []),.t (.str []),.t (.sl []),.t (.sl [bA,b1])],.cells 31 [.t (.str [84]),.t (.str []),.t (.str [84]),.t (.str []),.t (.str [84]),.t (.str []),.t (.int .u8 5),.t (.bool false),.t (.int .i64 0),.t (.str []),.t (.str []),.t (.sl []),.t (.sl [])],.cells 29 [.t (.int .u8 0),.t (.bool true),.t (.int .i64 0),.t (.str []),.t (.str []),.t (.sl []),.t (.sl [])],.cells 36 [.t (.int .i64 0)]],[],none,by decide,by kernel_rfl,by kernel_rfl,λt=>by kernel_rfl,λt=>by kernel_rfl,by kernel_rfl,UU m _ _⟩
theorem aa9 (m:Int):ai (cf m) 26 [.t bd,.t q0,.t (.sl [])] [] (.ret (.t (.dr [vT,.int .i64 0])) [] []):=aa8 m (ou (by kernel_rfl)) (ou (by kernel_rfl)) (ou (by kernel_rfl)) (ou (by kernel_rfl)) (ou (by kernel_rfl))
end
end Go.Proofs.YtacmmaaabfhhoaaGreatDoor.w.e
