/- What the law asks ahead is so. -/
import Derived.Test.YtnfnihgmankidaaGreatDoorAE
import Derived.Test.YtnfnihgmankidaaGreatDoorAB
set_option linter.unusedVariables false
set_option linter.unusedSimpArgs false
namespace Go.Proofs.YtnfnihgmankidaaGreatDoor.w.e
open Go Go.Abs Go.RowKit Go.Lib
set_option maxRecDepth 100000
set_option maxHeartbeats 2000000
noncomputable section
theorem Ol {k:K}:∀y∈([]:List Tree),T k y:=λy hy=>by cases hy
theorem Zx:T .aB tA:=.aB _ _ _ _ _ _ _ _ _ _ (by decide) (by decide) (by decide) (He Oh) (by decide) (by decide) (by decide) (λy hy=>by rw[List.mem_singleton.1 hy];exact .string _ (by decide)) (by decide) (λy hy=>by rw[List.mem_singleton.1 hy];exact .aV _ _ _ _ _ _ _ (by decide) (by decide) (by decide) Ol (by decide) Ol)
theorem acV:T .aB tB:=.aB _ _ _ _ _ _ _ _ _ _ (by decide) (by decide) (by decide) (He RL) (by decide) (by decide) (by decide) Ol (by decide) Ol
theorem afX:T .aB tC:=.aB _ _ _ _ _ _ _ _ _ _ (by decide) (by decide) (by decide) (He RJ) (by decide) (by decide) (by decide) Ol (by decide) Ol
theorem acW (m:Int):El m uA=0:=I3 m RJ ⟨air m,trivial⟩
theorem afY (m:Int):El m uB=0:=I3 m Oh ⟨ais m,trivial⟩
theorem afZ (m:Int):El m uC=0:=I3 m RL ⟨ait m,trivial⟩
theorem Om {m:Int}{a b:Tree}(ha:El m a=0)(hb:El m b=0):∀u∈[a,b],El m u=0:=λu hu=>by
 rcases List.mem_cons.1 hu with rfl|hu
 ·exact ha
 ·rw[List.mem_singleton.1 hu];exact hb
theorem acX (m:Int):CT m tA=0:=Jj m Zx ⟨afU m,by decide,Om (a:=uA) (b:=uB) (acW m) (afY m)⟩
theorem af0 (m:Int):CT m tB=0:=Jj m acV ⟨afV m,by decide,Om (a:=uB) (b:=uC) (afY m) (afZ m)⟩
theorem aiu (m:Int):CT m tC=0:=Jj m afX ⟨afW m,by decide,Om (a:=uC) (b:=uA) (afZ m) (acW m)⟩
theorem af1:pI uA uB<0:=Ei.2 (.inr ⟨rfl,by decide⟩)
theorem af2:pI uB uC<0:=Ei.2 (.inr ⟨rfl,by decide⟩)
theorem aiv:pI uA uC<0:=qf af1 af2
def pM:List Tree:=[tA]
def jJ:List Tree:=[tA,tB]
def F1:List Tree:=[tA,tB,tC]
theorem Wu:T .ah (.sl []):=.ah _ (by decide) Ol
theorem On:T .ah (.sl pM):=.ah _ (by decide) (λy hy=>by rw[List.mem_singleton.1 hy];exact Zx)
theorem BF:T .ah (.sl jJ):=.ah _ (by decide) (λy hy=>by
 rcases List.mem_cons.1 hy with rfl|hy
 ·exact Zx
 ·rw[List.mem_singleton.1 hy];exact acV)
theorem JB:T .ah (.sl F1):=.ah _ (by decide) (λy hy=>by
 rcases List.mem_cons.1 hy with rfl|hy
 ·exact Zx
 ·rcases List.mem_cons.1 hy with rfl|hy
  ·exact acV
  ·rw[List.mem_singleton.1 hy];exact afX)
theorem up3:List.Pairwise (λa b=>pI a b<0) [uA,uB,uC]:=.cons (λy hy=>by
 rcases List.mem_cons.1 hy with rfl|hy
 ·exact af1
 ·rw[List.mem_singleton.1 hy];exact aiv) (.cons (λy hy=>by rw[List.mem_singleton.1 hy];exact af2) (.cons (λy hy=>by cases hy) .nil))
theorem Me:nF F1:=List.pairwise_map.1 (show List.Pairwise (λa b=>pI a b<0) (F1.map cm) from up3)
theorem Wv:nF jJ:=Me.sublist (List.take_sublist 2 F1)
theorem af3:nF pM:=Me.sublist (List.take_sublist 1 F1)
theorem nF.nodup {l:List Tree}(h:nF l):(l.map cm).Nodup:=List.pairwise_map.2 (h.imp λh e=>by rw[e] at h;exact nE h)
theorem nF.srt {l:List Tree}(h:nF l):yT l:=λk a b ha hb h2=>nE (qf (h.at (Nat.lt_succ_self k) ha hb) h2)
theorem AN (m:Int){l:List Tree}(h:T .ah (.sl l))(h1:l.length<=64)(h2:∀x∈l,CT m x=0)(h3:nF l)(h5:∀e∈l,¬vE (iY (eV m) l) (gT e) (cm e)):dN m (.sl l)=0:=by
 have hc:=lH m h;generalize dN m (.sl l)=r at hc;cases hc with
 |many h=>omega
 |bad h4 he _ h6 h7=>exact absurd (h6.symm.trans (h2 _ (List.mem_of_getElem? he))) h7
 |PL _ _ hn=>exact absurd (nF.nodup h3) hn
 |order _ _ _ hs=>exact absurd (nF.srt h3) hs
 |cycle _ _ _ _ hr=>obtain⟨e,he,hr⟩:=hr;exact absurd hr (h5 e he)
 |ok=>rfl
theorem RO (m:Int){l:List Tree}(h:T .ah (.sl l))(h1:l.length<=64)(h2:∀x∈l,CT m x=0)(h3:nF l){e:Tree}(he:e∈l)(h5:vE (iY (eV m) l) (gT e) (cm e)):dN m (.sl l)=12:=by
 have hc:=lH m h;generalize dN m (.sl l)=r at hc;cases hc with
 |many h=>omega
 |bad h4 he _ h6 h7=>exact absurd (h6.symm.trans (h2 _ (List.mem_of_getElem? he))) h7
 |PL _ _ hn=>exact absurd (nF.nodup h3) hn
 |order _ _ _ hs=>exact absurd (nF.srt h3) hs
 |cycle=>rfl
 |ok _ _ _ _ hr=>exact absurd h5 (hr e he)
theorem noR {p:Tree->List Tree}{sm S:List Tree}(h0:∀u∈sm,u∈S)(h1:∀u∈S,∀v∈p u,v∈S){v:Tree}(h:vE p sm v):v∈S:=by
 induction h with
 |base hu=>exact h0 _ hu
 |step _ hv ih=>exact h1 _ ih _ hv
theorem tL {m:Int}{l:List Tree}{k:Nat}{e:Tree}(h:T .ah (.sl l))(hu:T .av (cm e))(hr:nF l)(he:l[k]?=some e):iY (eV m) l (cm e)=gT e:=Ar (nG.here (o9 m h hu) hr he) he
theorem Oo {m:Int}{l:List Tree}{u:Tree}(h:T .ah (.sl l))(hu:T .av u)(hn:∀e∈l,cm e≠u):iY (eV m) l u=[]:=Aq (k:=(eV m (.sl l) u).1) (Prod.ext rfl ((o9 m h hu).none hn))
theorem zf {a b:List UInt8}(h:a≠b):Tree.agg [.str [84],.str a]≠ .agg [.str [84],.str b]:=λe=>by
 injection e with e;injection e with _ e;injection e with e;injection e with e;exact h e
theorem af4 (m:Int):dN m (.sl [])=0:=AN m Wu (by decide) (λx hx=>by cases hx) .nil (λx hx=>by cases hx)
theorem af5 (m:Int):dN m (.sl pM)=0:=AN m On (by decide) (λx hx=>by rw[List.mem_singleton.1 hx];exact acX m) af3 (λx hx hr=>by
 rw[List.mem_singleton.1 hx] at hr;have hB:iY (eV m) pM uB=[]:=Oo On Oh (λe he=>by rw[List.mem_singleton.1 he];exact zf (by decide));have h:=noR (S:=[uB]) (λu hu=>hu) (λu hu v hv=>by rw[List.mem_singleton.1 hu,hB] at hv;cases hv) hr;exact absurd (List.mem_singleton.1 h) (zf (a:=[97]) (b:=[98]) (by decide)))
theorem pA2 (m:Int):iY (eV m) jJ uA=[uB]:=tL (e:=tA) (k:=0) BF RJ Wv rfl
theorem pB2 (m:Int):iY (eV m) jJ uB=[uC]:=tL (e:=tB) (k:=1) BF Oh Wv rfl
theorem pC2 (m:Int):iY (eV m) jJ uC=[]:=Oo BF RL (λe he=>by
 rcases List.mem_cons.1 he with rfl|he
 ·exact zf (by decide)
 ·rw[List.mem_singleton.1 he];exact zf (by decide))
theorem Ww (m:Int):∀u∈[uC],∀v∈iY (eV m) jJ u,v∈[uC]:=λu hu v hv=>by rw[List.mem_singleton.1 hu,pC2] at hv;cases hv
theorem P0 (m:Int):∀u∈[uB,uC],∀v∈iY (eV m) jJ u,v∈[uB,uC]:=λu hu v hv=>by
 rcases List.mem_cons.1 hu with rfl|hu
 ·rw[pB2] at hv;exact List.mem_cons_of_mem _ hv
 ·exact List.mem_cons_of_mem _ (Ww m u hu v hv)
theorem Wx (m:Int):∀u∈[uA,uB,uC],∀v∈iY (eV m) jJ u,v∈[uA,uB,uC]:=λu hu v hv=>by
 rcases List.mem_cons.1 hu with rfl|hu
 ·rw[pA2] at hv;rw[List.mem_singleton.1 hv];simp
 ·exact List.mem_cons_of_mem _ (P0 m u hu v hv)
theorem aaN (m:Int):dN m (.sl jJ)=0:=AN m BF (by decide) (λx hx=>by
 rcases List.mem_cons.1 hx with rfl|hx
 ·exact acX m
 ·rw[List.mem_singleton.1 hx];exact af0 m) Wv (λx hx hr=>by
 rcases List.mem_cons.1 hx with rfl|hx
 ·have h:=noR (S:=[uB,uC]) (λu (hu:u∈[uB])=>by rw[List.mem_singleton.1 hu];simp) (P0 m) hr;rcases List.mem_cons.1 h with h|h
  ·exact absurd h (zf (a:=[97]) (b:=[98]) (by decide))
  ·exact absurd (List.mem_singleton.1 h) (zf (a:=[97]) (b:=[99]) (by decide))
 ·rw[List.mem_singleton.1 hx] at hr;have h:=noR (S:=[uC]) (λu hu=>hu) (Ww m) hr;exact absurd (List.mem_singleton.1 h) (zf (a:=[98]) (b:=[99]) (by decide)))
theorem af6 (m:Int):dN m (.sl F1)=12:=by
 refine RO m JB (by decide) (λx hx=> ?_) Me (e:=tA) (by simp[F1]) ?_
 ·rcases List.mem_cons.1 hx with rfl|hx
  ·exact acX m
  ·rcases List.mem_cons.1 hx with rfl|hx
   ·exact af0 m
   ·rw[List.mem_singleton.1 hx];exact aiu m
 ·have hB:iY (eV m) F1 uB=[uC]:=tL (e:=tB) (k:=1) JB Oh Me rfl;have hC:iY (eV m) F1 uC=[uA]:=tL (e:=tC) (k:=2) JB RL Me rfl;refine .step (u:=uC) (.step (u:=uB) (.base (List.mem_singleton.2 rfl)) ?_) ?_
  ·rw[hB];exact List.mem_singleton.2 rfl
  ·rw[hC];exact List.mem_singleton.2 rfl
theorem Cg {R:Tree->Tree->Prop}(hi:∀a,¬R a a)(ht:∀a b c,R a b->R b c->R a c):∀{a b:List Tree},a.Pairwise R->b.Pairwise R->(∀x,x∈a↔x∈b)->a=b
 | [],[],_,_,_=>rfl
 | [],y::b,_,_,h=>by have:=(h y).2 List.mem_cons_self;cases this
 |x::a,[],_,_,h=>by have:=(h x).1 List.mem_cons_self;cases this
 | x ::a,y::b,ha,hb,h=>by
   cases ha with|cons ha1 ha2=>
   cases hb with|cons hb1 hb2=>
   have e:x=y:=by
     rcases List.mem_cons.1 ((h x).1 List.mem_cons_self) with e|hx
     · exact e
     · rcases List.mem_cons.1 ((h y).2 List.mem_cons_self) with e|hy
       · exact e.symm
       · exact absurd (ht _ _ _ (hb1 x hx) (ha1 y hy)) (hi y)
   subst e
   rw[Cg hi ht ha2 hb2 λz=>⟨λhz=> ?_,λhz=> ?_⟩]
   · rcases List.mem_cons.1 ((h z).1 (List.mem_cons_of_mem _ hz)) with rfl|C7
     · exact absurd (ha1 _ hz) (hi _)
     · exact C7
   · rcases List.mem_cons.1 ((h z).2 (List.mem_cons_of_mem _ hz)) with rfl|C7
     · exact absurd (hb1 _ hz) (hi _)
     · exact C7
theorem Zy (m:Int):aq (cf m) 13 [.t (.sl jJ),.t uA] [] (.ret (.t (.cv [.sl [uA,uB,uC],.int .i64 0])) [] []):=by
 obtain⟨F,hF⟩:=V2 m;obtain⟨h1,_,_,h2⟩:=hF (.sl jJ) uA ⟨BF,RJ⟩;rcases h2 with ⟨h3,_,_,h4,h5,h6⟩|⟨_,_,h⟩
 ·have e:(F (.sl jJ) uA).1=[uA,uB,uC]:=Cg (R:=λa b=>pI a b<0) (λ_=>nE) (λ_ _ _=>qf) h5 up3 λv=>by
   rw[h6];refine⟨λh=>noR (S:=[uA,uB,uC]) (λu hu=>by rw[List.mem_singleton.1 hu];simp) (Wx m) h,λh=> ?_⟩;have rA:vE (iY (eV m) jJ) [uA] uA:=.base (List.mem_singleton.2 rfl);have rB:vE (iY (eV m) jJ) [uA] uB:=rA.step (by rw[pA2];exact List.mem_singleton.2 rfl);have rC:vE (iY (eV m) jJ) [uA] uC:=rB.step (by rw[pB2];exact List.mem_singleton.2 rfl);rcases List.mem_cons.1 h with rfl|h
   ·exact rA
   ·rcases List.mem_cons.1 h with rfl|h
    ·exact rB
    ·rw[List.mem_singleton.1 h];exact rC
  rw[e,h3] at h1;exact h1
 ·exact absurd ⟨aaN m,acW m⟩ h
theorem JC (m:Int){l:List Tree}{r:Int}(h:T .ah (.sl l))(hr:dN m (.sl l)=r):aq (cf m) 23 [.t (.sl l)] [] (.ret (.t (.int .i64 r)) [] []):=by
 subst hr;exact(Classical.choose_spec (tH m) _ h).1
def Oq:List (List Tree×Tree):=[([.sl []],.int .i64 0),([.sl pM],.int .i64 0),([.sl jJ],.int .i64 0),([.sl F1],.int .i64 12)]
theorem RP (m:Int):gu (vw m) 23 (kK Oq):=mU λp hp=>by
 simp only[Oq,List.mem_cons,List.not_mem_nil,or_false] at hp;rcases hp with rfl|rfl|rfl|rfl
 ·exact sD (JC m Wu (af4 m))
 ·exact sD (JC m On (af5 m))
 ·exact sD (JC m BF (aaN m))
 ·exact sD (JC m JB (af6 m))
def Ot:List (List Tree×Tree):=[([.sl jJ,uA],.cv [.sl [uA,uB,uC],.int .i64 0])]
theorem RQ (m:Int):gu (vw m) 13 (kK Ot):=mU λp hp=>by
 simp only[Ot,List.mem_cons,List.not_mem_nil,or_false] at hp;rcases hp with rfl;exact sD (Zy m)
def Ou:List (List Tree×Tree):=[([.str txA],.cv [tA,.int .i64 0,.int .i64 0]),([.str txB],.cv [tB,.int .i64 0,.int .i64 0]),([.str txC],.cv [tC,.int .i64 0,.int .i64 0])]
theorem RR (m:Int):gu (vw m) 25 (kK Ou):=mU λp hp=>by
 simp only[Ou,List.mem_cons,List.not_mem_nil,or_false] at hp;rcases hp with rfl|rfl|rfl
 ·exact sD (acR m)
 ·exact sD (acS m)
 ·exact sD (acT m)
def Ov:List (List Tree×Tree):=[([tA],.cv [.str txA,.int .i64 0])]
theorem RS (m:Int):gu (vw m) 26 (kK Ov):=mU λp hp=>by
 simp only[Ov,List.mem_cons,List.not_mem_nil,or_false] at hp;rcases hp with rfl;exact sD (acU m)
def Ow:List (List Tree×Tree):=[([tA],.int .i64 0),([tB],.int .i64 0),([tC],.int .i64 0)]
theorem RT (m:Int):gu (vw m) 28 (kK Ow):=mU λp hp=>by
 simp only[Ow,List.mem_cons,List.not_mem_nil,or_false] at hp;rcases hp with rfl|rfl|rfl
 ·exact sD (afU m)
 ·exact sD (afV m)
 ·exact sD (afW m)
def acY (m:Int):Ext:=λ
 |23=>some (kK Oq)
 |13=>some (kK Ot)
 |25=>some (kK Ou)
 |26=>some (kK Ov)
 |28=>some (kK Ow)
 |g=>ext1 m g
theorem Zz (m:Int):BR (vw m) (acY m):=sV (by
 intro g s h;unfold acY at h;split at h<;>first
  |(obtain rfl:=Option.some.inj h;first|exact RP m|exact RQ m|exact RR m|exact RS m|exact RT m)
  |exact PZ m g s h)
theorem ZA (m:Int):vp (vw m) (acY m) 300 7 [] []=some (.ret (.t (.bool true)) [] []):=by kernel_rfl
theorem Wy (m:Int):R0 (cf m) 7 (.bool true):=by
 have h:=ZA m;rw[wq] at h;exact Zv λG w vs hw hg ha hh hv=>vZ (kI m) (Zz m) 300 _ _ _ _ h G w vs hw hg ha hh hv
end
end Go.Proofs.YtnfnihgmankidaaGreatDoor.w.e
