/- What the law asks ahead is so. -/
import Derived.Test.YtnfnihgmankidaaGreatDoorAF
import Derived.Test.YtnfnihgmankidaaGreatDoorAB
set_option linter.unusedVariables false
set_option linter.unusedSimpArgs false
namespace Go.Proofs.YtnfnihgmankidaaGreatDoor.w.e
open Go Go.Abs Go.RowKit Go.Lib
set_option maxRecDepth 100000
set_option maxHeartbeats 2000000
noncomputable section
theorem Ol {k:K}:∀y∈([]:List Tree),T k y:=λy hy=>by cases hy
theorem Zm:T .aU tA:=.aU _ _ _ _ _ _ _ _ _ _ (by decide) (by decide) (by decide) (G5 Oh) (by decide) (by decide) (by decide) (λy hy=>by rw[List.mem_singleton.1 hy];exact .string _ (by decide)) (by decide) (λy hy=>by rw[List.mem_singleton.1 hy];exact .aY _ _ _ _ _ _ _ (by decide) (by decide) (by decide) Ol (by decide) Ol)
theorem acK:T .aU tB:=.aU _ _ _ _ _ _ _ _ _ _ (by decide) (by decide) (by decide) (G5 RQ) (by decide) (by decide) (by decide) Ol (by decide) Ol
theorem af2:T .aU tC:=.aU _ _ _ _ _ _ _ _ _ _ (by decide) (by decide) (by decide) (G5 RP) (by decide) (by decide) (by decide) Ol (by decide) Ol
theorem acL (m:Int):BJ m uA=0:=IA m RP ⟨ajr m,trivial⟩
theorem af3 (m:Int):BJ m uB=0:=IA m Oh ⟨ajs m,trivial⟩
theorem af4 (m:Int):BJ m uC=0:=IA m RQ ⟨ajt m,trivial⟩
theorem Om {m:Int}{a b:Tree}(ha:BJ m a=0)(hb:BJ m b=0):∀u∈[a,b],BJ m u=0:=λu hu=>by
 rcases List.mem_cons.1 hu with rfl|hu
 ·exact ha
 ·rw[List.mem_singleton.1 hu];exact hb
theorem acM (m:Int):IW m tA=0:=IX m Zm ⟨afZ m,by decide,Om (a:=uA) (b:=uB) (acL m) (af3 m)⟩
theorem af5 (m:Int):IW m tB=0:=IX m acK ⟨af0 m,by decide,Om (a:=uB) (b:=uC) (af3 m) (af4 m)⟩
theorem aju (m:Int):IW m tC=0:=IX m af2 ⟨af1 m,by decide,Om (a:=uC) (b:=uA) (af4 m) (acL m)⟩
theorem af6:mA uA uB<0:=AK.2 (.inr ⟨rfl,by decide⟩)
theorem af7:mA uB uC<0:=AK.2 (.inr ⟨rfl,by decide⟩)
theorem ajv:mA uA uC<0:=pg af6 af7
def nX:List Tree:=[tA]
def jw:List Tree:=[tA,tB]
def FW:List Tree:=[tA,tB,tC]
theorem WR:T .ai (.sl []):=.ai _ (by decide) Ol
theorem On:T .ai (.sl nX):=.ai _ (by decide) (λy hy=>by rw[List.mem_singleton.1 hy];exact Zm)
theorem Bh:T .ai (.sl jw):=.ai _ (by decide) (λy hy=>by
 rcases List.mem_cons.1 hy with rfl|hy
 ·exact Zm
 ·rw[List.mem_singleton.1 hy];exact acK)
theorem Jj:T .ai (.sl FW):=.ai _ (by decide) (λy hy=>by
 rcases List.mem_cons.1 hy with rfl|hy
 ·exact Zm
 ·rcases List.mem_cons.1 hy with rfl|hy
  ·exact acK
  ·rw[List.mem_singleton.1 hy];exact af2)
theorem up3:List.Pairwise (λa b=>mA a b<0) [uA,uB,uC]:=.cons (λy hy=>by
 rcases List.mem_cons.1 hy with rfl|hy
 ·exact af6
 ·rw[List.mem_singleton.1 hy];exact ajv) (.cons (λy hy=>by rw[List.mem_singleton.1 hy];exact af7) (.cons (λy hy=>by cases hy) .nil))
theorem LW:ov FW:=List.pairwise_map.1 (show List.Pairwise (λa b=>mA a b<0) (FW.map cF) from up3)
theorem WS:ov jw:=LW.sublist (List.take_sublist 2 FW)
theorem af8:ov nX:=LW.sublist (List.take_sublist 1 FW)
theorem ov.nodup {l:List Tree}(h:ov l):(l.map cF).Nodup:=List.pairwise_map.2 (h.imp λh e=>by rw[e] at h;exact tD h)
theorem ov.srt {l:List Tree}(h:ov l):yg l:=λk a b ha hb h2=>tD (pg (h.at (Nat.lt_succ_self k) ha hb) h2)
theorem Fb (m:Int){l:List Tree}(h:T .ai (.sl l))(h1:l.length<=64)(h2:∀x∈l,IW m x=0)(h3:ov l)(h5:∀e∈l,¬gH (ic (fL m) l) (fK e) (cF e)):j4 m (.sl l)=0:=by
 have hc:=wQ m h;generalize j4 m (.sl l)=r at hc;cases hc with
 |many h=>omega
 |bad h4 he _ h6 h7=>exact absurd (h6.symm.trans (h2 _ (List.mem_of_getElem? he))) h7
 |PA _ _ hn=>exact absurd (ov.nodup h3) hn
 |order _ _ _ hs=>exact absurd (ov.srt h3) hs
 |cycle _ _ _ _ hr=>obtain⟨e,he,hr⟩:=hr;exact absurd hr (h5 e he)
 |ok=>rfl
theorem RT (m:Int){l:List Tree}(h:T .ai (.sl l))(h1:l.length<=64)(h2:∀x∈l,IW m x=0)(h3:ov l){e:Tree}(he:e∈l)(h5:gH (ic (fL m) l) (fK e) (cF e)):j4 m (.sl l)=12:=by
 have hc:=wQ m h;generalize j4 m (.sl l)=r at hc;cases hc with
 |many h=>omega
 |bad h4 he _ h6 h7=>exact absurd (h6.symm.trans (h2 _ (List.mem_of_getElem? he))) h7
 |PA _ _ hn=>exact absurd (ov.nodup h3) hn
 |order _ _ _ hs=>exact absurd (ov.srt h3) hs
 |cycle=>rfl
 |ok _ _ _ _ hr=>exact absurd h5 (hr e he)
theorem noR {p:Tree->List Tree}{sm S:List Tree}(h0:∀u∈sm,u∈S)(h1:∀u∈S,∀v∈p u,v∈S){v:Tree}(h:gH p sm v):v∈S:=by
 induction h with
 |base hu=>exact h0 _ hu
 |step _ hv ih=>exact h1 _ ih _ hv
theorem Ai {m:Int}{l:List Tree}{k:Nat}{e:Tree}(h:T .ai (.sl l))(hu:T .au (cF e))(hr:ov l)(he:l[k]?=some e):ic (fL m) l (cF e)=fK e:=tO (mS.here (EX m h hu) hr he) he
theorem WT {m:Int}{l:List Tree}{u:Tree}(h:T .ai (.sl l))(hu:T .au u)(hn:∀e∈l,cF e≠u):ic (fL m) l u=[]:=wM (k:=(fL m (.sl l) u).1) (Prod.ext rfl ((EX m h hu).none hn))
theorem yC {a b:List UInt8}(h:a≠b):Tree.agg [.str [84],.str a]≠ .agg [.str [84],.str b]:=λe=>by
 injection e with e;injection e with _ e;injection e with e;injection e with e;exact h e
theorem af9 (m:Int):j4 m (.sl [])=0:=Fb m WR (by decide) (λx hx=>by cases hx) .nil (λx hx=>by cases hx)
theorem aga (m:Int):j4 m (.sl nX)=0:=Fb m On (by decide) (λx hx=>by rw[List.mem_singleton.1 hx];exact acM m) af8 (λx hx hr=>by
 rw[List.mem_singleton.1 hx] at hr;have hB:ic (fL m) nX uB=[]:=WT On Oh (λe he=>by rw[List.mem_singleton.1 he];exact yC (by decide));have h:=noR (S:=[uB]) (λu hu=>hu) (λu hu v hv=>by rw[List.mem_singleton.1 hu,hB] at hv;cases hv) hr;exact absurd (List.mem_singleton.1 h) (yC (a:=[97]) (b:=[98]) (by decide)))
theorem pA2 (m:Int):ic (fL m) jw uA=[uB]:=Ai (e:=tA) (k:=0) Bh RP WS rfl
theorem pB2 (m:Int):ic (fL m) jw uB=[uC]:=Ai (e:=tB) (k:=1) Bh Oh WS rfl
theorem pC2 (m:Int):ic (fL m) jw uC=[]:=WT Bh RQ (λe he=>by
 rcases List.mem_cons.1 he with rfl|he
 ·exact yC (by decide)
 ·rw[List.mem_singleton.1 he];exact yC (by decide))
theorem WU (m:Int):∀u∈[uC],∀v∈ic (fL m) jw u,v∈[uC]:=λu hu v hv=>by rw[List.mem_singleton.1 hu,pC2] at hv;cases hv
theorem P8 (m:Int):∀u∈[uB,uC],∀v∈ic (fL m) jw u,v∈[uB,uC]:=λu hu v hv=>by
 rcases List.mem_cons.1 hu with rfl|hu
 ·rw[pB2] at hv;exact List.mem_cons_of_mem _ hv
 ·exact List.mem_cons_of_mem _ (WU m u hu v hv)
theorem WV (m:Int):∀u∈[uA,uB,uC],∀v∈ic (fL m) jw u,v∈[uA,uB,uC]:=λu hu v hv=>by
 rcases List.mem_cons.1 hu with rfl|hu
 ·rw[pA2] at hv;rw[List.mem_singleton.1 hv];simp
 ·exact List.mem_cons_of_mem _ (P8 m u hu v hv)
theorem aaA (m:Int):j4 m (.sl jw)=0:=Fb m Bh (by decide) (λx hx=>by
 rcases List.mem_cons.1 hx with rfl|hx
 ·exact acM m
 ·rw[List.mem_singleton.1 hx];exact af5 m) WS (λx hx hr=>by
 rcases List.mem_cons.1 hx with rfl|hx
 ·have h:=noR (S:=[uB,uC]) (λu (hu:u∈[uB])=>by rw[List.mem_singleton.1 hu];simp) (P8 m) hr;rcases List.mem_cons.1 h with h|h
  ·exact absurd h (yC (a:=[97]) (b:=[98]) (by decide))
  ·exact absurd (List.mem_singleton.1 h) (yC (a:=[97]) (b:=[99]) (by decide))
 ·rw[List.mem_singleton.1 hx] at hr;have h:=noR (S:=[uC]) (λu hu=>hu) (WU m) hr;exact absurd (List.mem_singleton.1 h) (yC (a:=[98]) (b:=[99]) (by decide)))
theorem agb (m:Int):j4 m (.sl FW)=12:=by
 refine RT m Jj (by decide) (λx hx=> ?_) LW (e:=tA) (by simp[FW]) ?_
 ·rcases List.mem_cons.1 hx with rfl|hx
  ·exact acM m
  ·rcases List.mem_cons.1 hx with rfl|hx
   ·exact af5 m
   ·rw[List.mem_singleton.1 hx];exact aju m
 ·have hB:ic (fL m) FW uB=[uC]:=Ai (e:=tB) (k:=1) Jj Oh LW rfl;have hC:ic (fL m) FW uC=[uA]:=Ai (e:=tC) (k:=2) Jj RQ LW rfl;refine .step (u:=uC) (.step (u:=uB) (.base (List.mem_singleton.2 rfl)) ?_) ?_
  ·rw[hB];exact List.mem_singleton.2 rfl
  ·rw[hC];exact List.mem_singleton.2 rfl
theorem BS {R:Tree->Tree->Prop}(hi:∀a,¬R a a)(ht:∀a b c,R a b->R b c->R a c):∀{a b:List Tree},a.Pairwise R->b.Pairwise R->(∀x,x∈a↔x∈b)->a=b
 | [],[],_,_,_=>rfl
 | [],y::b,_,_,h=>by have:=(h y).2 List.mem_cons_self;cases this
 |x::a,[],_,_,h=>by have:=(h x).1 List.mem_cons_self;cases this
 | x ::a,y::b,ha,hb,h=>by
   cases ha with|cons ha1 ha2=>
   cases hb with|cons hb1 hb2=>
   have e:x=y:=by
     rcases List.mem_cons.1 ((h x).1 List.mem_cons_self) with e|hx
     · exact e
     · rcases List.mem_cons.1 ((h y).2 List.mem_cons_self) with e|hy
       · exact e.symm
       · exact absurd (ht _ _ _ (hb1 x hx) (ha1 y hy)) (hi y)
   subst e
   rw[BS hi ht ha2 hb2 λz=>⟨λhz=> ?_,λhz=> ?_⟩]
   · rcases List.mem_cons.1 ((h z).1 (List.mem_cons_of_mem _ hz)) with rfl|Fi
     · exact absurd (ha1 _ hz) (hi _)
     · exact Fi
   · rcases List.mem_cons.1 ((h z).2 (List.mem_cons_of_mem _ hz)) with rfl|Fi
     · exact absurd (hb1 _ hz) (hi _)
     · exact Fi
theorem Zn (m:Int):aq (cf m) 13 [.t (.sl jw),.t uA] [] (.ret (.t (.cT [.sl [uA,uB,uC],.int .i64 0])) [] []):=by
 obtain⟨F,hF⟩:=LA m;obtain⟨h1,_,_,h2⟩:=hF (.sl jw) uA ⟨Bh,RP⟩;rcases h2 with ⟨h3,_,_,h4,h5,h6⟩|⟨_,_,h⟩
 ·have e:(F (.sl jw) uA).1=[uA,uB,uC]:=BS (R:=λa b=>mA a b<0) (λ_=>tD) (λ_ _ _=>pg) h5 up3 λv=>by
   rw[h6];refine⟨λh=>noR (S:=[uA,uB,uC]) (λu hu=>by rw[List.mem_singleton.1 hu];simp) (WV m) h,λh=> ?_⟩;have rA:gH (ic (fL m) jw) [uA] uA:=.base (List.mem_singleton.2 rfl);have rB:gH (ic (fL m) jw) [uA] uB:=rA.step (by rw[pA2];exact List.mem_singleton.2 rfl);have rC:gH (ic (fL m) jw) [uA] uC:=rB.step (by rw[pB2];exact List.mem_singleton.2 rfl);rcases List.mem_cons.1 h with rfl|h
   ·exact rA
   ·rcases List.mem_cons.1 h with rfl|h
    ·exact rB
    ·rw[List.mem_singleton.1 h];exact rC
  rw[e,h3] at h1;exact h1
 ·exact absurd ⟨aaA m,acL m⟩ h
theorem Jk (m:Int){l:List Tree}{r:Int}(h:T .ai (.sl l))(hr:j4 m (.sl l)=r):aq (cf m) 23 [.t (.sl l)] [] (.ret (.t (.int .i64 r)) [] []):=by
 subst hr;exact(Classical.choose_spec (sw m) _ h).1
def Oo:List (List Tree×Tree):=[([.sl []],.int .i64 0),([.sl nX],.int .i64 0),([.sl jw],.int .i64 0),([.sl FW],.int .i64 12)]
theorem RU (m:Int):fZ (yB m) 23 (j5 Oo):=mz λp hp=>by
 simp only[Oo,List.mem_cons,List.not_mem_nil,or_false] at hp;rcases hp with rfl|rfl|rfl|rfl
 ·exact sF (Jk m WR (af9 m))
 ·exact sF (Jk m On (aga m))
 ·exact sF (Jk m Bh (aaA m))
 ·exact sF (Jk m Jj (agb m))
def Oq:List (List Tree×Tree):=[([.sl jw,uA],.cT [.sl [uA,uB,uC],.int .i64 0])]
theorem RV (m:Int):fZ (yB m) 13 (j5 Oq):=mz λp hp=>by
 simp only[Oq,List.mem_cons,List.not_mem_nil,or_false] at hp;rcases hp with rfl;exact sF (Zn m)
def Ot:List (List Tree×Tree):=[([.str txA],.cT [tA,.int .i64 0,.int .i64 0]),([.str txB],.cT [tB,.int .i64 0,.int .i64 0]),([.str txC],.cT [tC,.int .i64 0,.int .i64 0])]
theorem RW (m:Int):fZ (yB m) 25 (j5 Ot):=mz λp hp=>by
 simp only[Ot,List.mem_cons,List.not_mem_nil,or_false] at hp;rcases hp with rfl|rfl|rfl
 ·exact sF (acG m)
 ·exact sF (acH m)
 ·exact sF (acI m)
def Ou:List (List Tree×Tree):=[([tA],.cT [.str txA,.int .i64 0])]
theorem RX (m:Int):fZ (yB m) 26 (j5 Ou):=mz λp hp=>by
 simp only[Ou,List.mem_cons,List.not_mem_nil,or_false] at hp;rcases hp with rfl;exact sF (acJ m)
def Ov:List (List Tree×Tree):=[([tA],.int .i64 0),([tB],.int .i64 0),([tC],.int .i64 0)]
theorem RY (m:Int):fZ (yB m) 28 (j5 Ov):=mz λp hp=>by
 simp only[Ov,List.mem_cons,List.not_mem_nil,or_false] at hp;rcases hp with rfl|rfl|rfl
 ·exact sF (afZ m)
 ·exact sF (af0 m)
 ·exact sF (af1 m)
def acN (m:Int):Ext:=λ
 |23=>some (j5 Oo)
 |13=>some (j5 Oq)
 |25=>some (j5 Ot)
 |26=>some (j5 Ou)
 |28=>some (j5 Ov)
 |g=>ext1 m g
theorem Zo (m:Int):Dh (yB m) (acN m):=vu (by
 intro g s h;unfold acN at h;split at h<;>first
  |(obtain rfl:=Option.some.inj h;first|exact RU m|exact RV m|exact RW m|exact RX m|exact RY m)
  |exact P7 m g s h)
theorem Zp (m:Int):xw (yB m) (acN m) 300 7 [] []=some (.ret (.t (.bool true)) [] []):=by kernel_rfl
theorem WW (m:Int):R0 (cf m) 7 (.bool true):=by
 have h:=Zp m;rw[y8] at h;exact afW λG w vs hw hg ha hh hv=>yV (nt m) (Zo m) 300 _ _ _ _ h G w vs hw hg ha hh hv
end
end Go.Proofs.YtnfnihgmankidaaGreatDoor.w.e
