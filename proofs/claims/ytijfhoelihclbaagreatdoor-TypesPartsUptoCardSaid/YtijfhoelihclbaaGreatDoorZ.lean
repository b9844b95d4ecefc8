/- The shapes of arguments. -/
import Derived.Test.YtijfhoelihclbaaGreatDoorQ
import Derived.Test.YtijfhoelihclbaaGreatDoorT
import Derived.Test.YtijfhoelihclbaaGreatDoorG
import Derived.Test.YtijfhoelihclbaaGreatDoorY
import Derived.Test.YtijfhoelihclbaaGreatDoorX
namespace Go.Proofs.YtijfhoelihclbaaGreatDoor.w
open Go Go.Abs
set_option linter.unusedVariables false
inductive K where
 |Dk
 |string
inductive T:K→Tree→Prop
 |Dk (kind:Int) (b_:Bool) (n:Int) (s:List UInt8) (t_:List UInt8) (names:List Tree) (list:List Tree) (h0:names.length≤4194304) (h1:∀y∈names,T .string y) (h2:list.length≤4194304) (h3:∀y∈list,T .Dk y):T .Dk (.agg [.int .u8 kind,.bool b_,.int .i64 n,.str s,.str t_,.sl names,.sl list])
 |string (v:List UInt8):T .string (.str v)
theorem T.cT {x:Tree}(h:T .string x):∃(v:List UInt8),x=.str v:=by
 cases h with
 |string v=>exact⟨v,rfl⟩
end Go.Proofs.YtijfhoelihclbaaGreatDoor.w

namespace Go.Proofs.YtijfhoelihclbaaGreatDoor.w
open Go Go.Abs Go.Abs.Ty
set_option linter.unusedVariables false
set_option maxRecDepth 100000
set_option maxHeartbeats 2000000
noncomputable section
theorem ai4 (m:Int)(k:Int)(s:List UInt8)(os bs:List Tree):R1 (cf m) 46 (aC k s [] bs) (pZ (aC k s [] bs)):=by
 obtain⟨ev,ai⟩:∃ev,aF (cf m) ev:=⟨_,aH⟩
 refine ay.gL ?_
 refine AX.start 12 1 Tryz.func46 rfl (by decide) rfl rfl (by decide) ?_
 refine AX.frames ?_
 exact⟨(),kF ah ai [oT] (by kernel_rfl)⟩
theorem ai5 (m:Int)(k:Int)(s:List UInt8)(os bs:List Tree)(k2:Int)(s2:List UInt8)(dN dB:List Tree):R1 (cf m) 46 (aC k s (aC k2 s2 dN dB::os) bs) (pZ (aC k s (aC k2 s2 dN dB::os) bs)):=by
 obtain⟨ev,ai⟩:∃ev,aF (cf m) ev:=⟨_,aH⟩
 refine ay.gL ?_
 refine AX.start 12 1 Tryz.func46 rfl (by decide) rfl rfl (by decide) ?_
 refine AX.frames ?_
 exact⟨(),kF ah ai [oB (show(((((aC k2 s2 dN dB::os).length:Nat):Int)==0))=false from(by simp;omega)),oE (show((aC k2 s2 dN dB::os):List Tree)[0]?=some (.agg [.int .u8 k2,.str s2,.sl dN,.sl dB]) from rfl)] (by kernel_rfl)⟩
theorem Y2 (m:Int)(n:Nat)(x:Tree)(h:Dp (n+1) x):R1 (cf m) 46 x (pZ x)∧Dp n (pZ x):=by
 obtain⟨k,s,os,bs,rfl,_,_,ho,_⟩:=h
 cases os with
 |nil=>exact⟨ai4 m k s [] bs,Dp.ei n⟩
 |cons o os=>
  have h1:=ho o List.mem_cons_self
  obtain⟨k2,s2,dN,dB,rfl,_,_⟩:=h1.form
  exact⟨ai5 m k s os bs k2 s2 dN dB,h1⟩
def same (a b:Tree):Bool:= @decide (a=b) (Classical.propDecidable _)
theorem Dl {a b:Tree}(h:a=b):same a b=true:= @decide_eq_true _ (Classical.propDecidable _) h
theorem uy {a b:Tree}(h:a≠b):same a b=false:= @decide_eq_false _ (Classical.propDecidable _) h
theorem Ah {a b:Tree}(h:same a b=true):a=b:= @of_decide_eq_true _ (Classical.propDecidable _) h
theorem Ai {a b:Tree}(h:same a b=false):a≠b:= @of_decide_eq_false _ (Classical.propDecidable _) h
def Form (D:Tree→Prop):Prop:=∀x,D x→∃k s os bs,x=aC k s os bs∧os.length≤4194304∧bs.length≤4194304
def QX (D:Tree→Prop)(l:List Tree):Prop:=∀e∈l,∃nm r,e=.agg (.str nm::r)∧D (.agg r)
theorem aeb {a b:List Tree}(hl:a.length=b.length)(h:∀(j:Nat) x y,j<a.length→a[j]?=some x→b[j]?=some y→x=y):a=b:=by
  refine List.ext_getElem? fun j=> ?_
  by_cases hj:j<a.length
  · rw[List.getElem?_eq_getElem hj,List.getElem?_eq_getElem (by omega)]
    exact congrArg some (h j _ _ hj (List.getElem?_eq_getElem hj) (List.getElem?_eq_getElem (by omega)))
  · rw[List.getElem?_eq_none (by omega),List.getElem?_eq_none (by omega)]
theorem Tv {a b:List Tree}{j:Nat}{x y:Tree}(h1:a[j]?=some x)(h2:b[j]?=some y)(h:x≠y):a≠b:=fun e=>by
 subst e;rw[h1] at h2;exact h (Option.some.inj h2)
theorem FB {a b:List Tree}{i:Nat}{x y:Tree}(hx:a[i]?=some x)(hy:b[i]?=some y)(e:x=y)(h:∀j,j<i→a[j]?=b[j]?):∀j,j<i+1→a[j]?=b[j]?:=fun j hj=>by
  by_cases h1:j<i
  · exact h j h1
  · obtain rfl:j=i:=by omega
    rw[hx,hy,e]
theorem NU {a b:List Tree}(hl:a.length=b.length)(h:∀j,j<a.length→a[j]?=b[j]?):a=b:=List.ext_getElem? fun j=>by
 by_cases hj:j<a.length
 · exact h j hj
 · rw[List.getElem?_eq_none (by omega),List.getElem?_eq_none (by omega)]
theorem aec {n n2:List UInt8}{r r2:List Tree}(h:n=n2)(e:Tree.agg r=.agg r2):Tree.agg (.str n::r)=.agg (.str n2::r2):=by
 subst h;cases e;rfl
theorem aa3 {n n2:List UInt8}{r r2:List Tree}(h:n≠n2):Tree.agg (.str n::r)≠ .agg (.str n2::r2):=fun e=>h (by injection e with e;injection e with e;injection e)
theorem aa4 {n n2:List UInt8}{r r2:List Tree}(h:Tree.agg r≠ .agg r2):Tree.agg (.str n::r)≠ .agg (.str n2::r2):=fun e=>h (by injection e with e;injection e with _ e;rw[e])
theorem Tw {a b:List Tree}(h:a≠b):Tree.sl a≠ .sl b:=fun e=>h (Tree.sl.inj e)
theorem Tx {a b:List Tree}(h:((a.length:Nat):Int)≠((b.length:Nat):Int)):a≠b:=fun e=>h (by rw[e])
theorem G5 (m:Int)(D:Tree→Prop)(hform:Form D)(hS:∀x y,D x∧D y→R2 (cf m) 8 x y (.bool (same x y)))(a b:List Tree)(la:a.length≤4194304)(lb:b.length≤4194304)(ha:(QX D a))(hb:(QX D b)):R2 (cf m) 21 (.sl a) (.sl b) (.bool (same (.sl a) (.sl b))):=by
  obtain⟨ev,ai,G6⟩:∃ev,aF (cf m) ev∧Has ev 8 (rD (fun x y=>D x∧D y) (fun x y=>.bool (same x y))):=⟨_,(ax (dn (fun x y h=>hS x y h)) aH),az⟩
  refine ay.gL ?_
  refine AX.start 42 2 Tryz.func21 rfl (by decide) rfl rfl (by decide) ?_
  refine AX.frames ?_
  rcases aL ((((a.length:Nat):Int) !=((b.length:Nat):Int))) with hc1|hc1
  ·
   have Aj:=aA hc1
   exact⟨(),(by rw[show same (.sl a) (.sl b)=false from uy (Tw (Tx (aA hc1)))];exact kF ah ai [oB hc1] (by kernel_rfl))⟩
  ·
   have Aj:=av hc1
   refine eF (f:=0) (n:=3000) (once:=[]) (k:=42) (T:=0) (S:=[]) (ks:=[]) (live:=[0,1,12,13]) ah ai (α:=Nat) (fun x=>⟨bX 42 [(0,.t (.sl a)),(1,.t (.sl b)),(12,.t (.int .i64 ((a.length:Nat):Int))),(13,.t (.int .i64 ((x:Nat):Int)))],[],0⟩) (fun x=>(x≤a.length)∧(∀j,j<x→a[j]?=b[j]?)) (fun x=>a.length - x) 0 (iF (Tryz.f21.body.getD .skip) 4) [oB hc1] (by kernel_rfl) ⟨Nat.zero_le _,fun j hj=>absurd hj (Nat.not_lt_zero j)⟩ (fun x hok=> ?_)
   obtain⟨i_2,k3⟩:∃y,y=x:=⟨x,rfl⟩
   subst k3
   replace hok:(i_2≤a.length)∧(∀j,j<i_2→a[j]?=b[j]?):=hok
   obtain⟨nQ,iq⟩:=hok
   rcases aL (decide (((i_2:Nat):Int)<((a.length:Nat):Int))) with bF|bF
   ·
    have kH:=of_decide_eq_true bF
    obtain⟨e4,pW⟩:∃e,a[i_2]?=some e:=⟨a[i_2]'(by first|omega|(simp;omega)),List.getElem?_eq_getElem _⟩
    obtain⟨ai6,r_5,rfl,aa5⟩:=ha e4 (List.mem_of_getElem? pW)
    obtain⟨k_5,s_5,XB,XC,ai7,alo,alp⟩:=hform _ aa5
    obtain rfl:r_5=[.int .u8 k_5,.str s_5,.sl XB,.sl XC]:=Tree.agg.inj ai7
    obtain⟨e6,G7⟩:∃e,b[i_2]?=some e:=⟨b[i_2]'(by first|omega|(simp;omega)),List.getElem?_eq_getElem _⟩
    obtain⟨ai8,r_7,rfl,Mi⟩:=hb e6 (List.mem_of_getElem? G7)
    obtain⟨Y3,Y4,JL,JM,ai9,aja,ajb⟩:=hform _ Mi
    obtain rfl:r_7=[.int .u8 Y3,.str Y4,.sl JL,.sl JM]:=Tree.agg.inj ai9
    rcases aL ((!(ai6==ai8))) with qo|qo
    ·
     have ajc:=ne_of_beq_false (eT qo)
     refine kO ah ai [oB bF,oE pW,oE G7,oB qo,oB qo,oB qo,oB qo,oB qo,oB qo,oB qo,oB qo,oB qo,oB qo,oB qo,oB qo,oB qo,oT] (by kernel_rfl) ?_
     exact⟨(),(by rw[show same (.sl a) (.sl b)=false from uy (Tw (Tv pW G7 (aa3 (ne_of_beq_false (eT qo)))))];exact kF ah ai [] (by kernel_rfl))⟩
    ·
     have ajc:=eq_of_beq (dm qo)
     rcases aL ((!(same (.agg [.int .u8 k_5,.str s_5,.sl XB,.sl XC]) (.agg [.int .u8 Y3,.str Y4,.sl JL,.sl JM])))) with vM|vM
     ·
      refine kO ah ai [oB bF,oE pW,oE G7,oB qo,oB qo,oB qo,oE pW,oB qo,oB qo,oB qo,oB qo,oB qo,oE G7,oB qo,oB qo,oB qo,oC (dr G6 (x:=.agg [.int .u8 k_5,.str s_5,.sl XB,.sl XC]) (y:=.agg [.int .u8 Y3,.str Y4,.sl JL,.sl JM]) ⟨aa5,Mi⟩),oB qo,oB qo,oB vM] (by kernel_rfl) ?_
      exact⟨(),(by rw[show same (.sl a) (.sl b)=false from uy (Tw (Tv pW G7 (aa4 (Ai (eT vM)))))];exact kF ah ai [] (by kernel_rfl))⟩
     ·
      exact⟨.inl ⟨i_2+1,⟨⟨(by show(i_2+1)≤a.length;omega),(FB pW G7 (aec (eq_of_beq (dm qo)) (Ah (dm vM))) iq)⟩,(by show(a.length - (i_2+1))<(a.length - i_2);omega)⟩⟩,bS (f:=0) (n:=3000) (once:=[]) (k:=42) (T:=0) (S:=[]) (ks:=[]) (live:=[0,1,12,13]) ah ai [oB bF,oE pW,oE G7,oB qo,oB qo,oB qo,oE pW,oB qo,oB qo,oB qo,oB qo,oB qo,oE G7,oB qo,oB qo,oB qo,oC (dr G6 (x:=.agg [.int .u8 k_5,.str s_5,.sl XB,.sl XC]) (y:=.agg [.int .u8 Y3,.str Y4,.sl JL,.sl JM]) ⟨aa5,Mi⟩),oB qo,oB qo,oB vM,oI (i_2) (by omega)] (by kernel_rfl)⟩
   ·
    have kH:=of_decide_eq_false bF
    refine kO ah ai [oB bF] (by kernel_rfl) ?_
    have hie:i_2=a.length:=by omega
    skip
    exact⟨(),(by rw[show same (.sl a) (.sl b)=true from Dl (congrArg Tree.sl (NU (by have:=av hc1;omega) (fun j hj=>iq j (by omega))))];exact kF ah ai [] (by kernel_rfl))⟩
def Qj (D:Tree→Prop)(x:Tree):Prop:=∃l,x=.sl l∧l.length≤4194304∧QX D l
theorem JN {k k2:Int}{s s2:List UInt8}{os dN bs dB:List Tree}(h:k≠k2∨s≠s2∨os≠dN∨Tree.sl bs≠ .sl dB):aC k s os bs≠aC k2 s2 dN dB:=fun e=>by
 simp only[aC,Tree.agg.injEq,List.cons.injEq,Tree.int.injEq,Tree.str.injEq,Tree.sl.injEq,true_and,and_true] at e
 obtain⟨rfl,rfl,rfl,rfl⟩:=e
 simp at h
theorem mk_eq {k k2:Int}{s s2:List UInt8}{os dN bs dB:List Tree}(h1:k=k2)(h2:s=s2)(h3:os=dN)(h4:Tree.sl bs=.sl dB):aC k s os bs=aC k2 s2 dN dB:=by
 cases h4;subst h1;subst h2;subst h3;rfl
theorem JO (m:Int)(D:Tree→Prop)(hform:Form D)(hS:∀x y,D x∧D y→R2 (cf m) 8 x y (.bool (same x y)))(hA:∀x y,Qj D x∧Qj D y→R2 (cf m) 21 x y (.bool (same x y)))(k:Int)(s:List UInt8)(os bs:List Tree)(k2:Int)(s2:List UInt8)(dN dB:List Tree)(lo:os.length≤4194304)(lo2:dN.length≤4194304)(ho:∀o∈os,D o)(zH:∀o∈dN,D o)(hb:Qj D (.sl bs))(YF:Qj D (.sl dB)):R2 (cf m) 8 (aC k s os bs) (aC k2 s2 dN dB) (.bool (same (aC k s os bs) (aC k2 s2 dN dB))):=by
  obtain⟨ev,ai,G6,ajd⟩:∃ev,aF (cf m) ev∧Has ev 8 (rD (fun x y=>D x∧D y) (fun x y=>.bool (same x y)))∧Has ev 21 (rD (fun x y=>Qj D x∧Qj D y) (fun x y=>.bool (same x y))):=⟨_,(ax (dn (fun x y h=>hS x y h)) (ax (dn (fun x y h=>hA x y h)) aH)),az,(aq rfl az)⟩
  refine ay.gL ?_
  refine AX.start 51 2 Tryz.func8 rfl (by decide) rfl rfl (by decide) ?_
  refine AX.frames ?_
  rcases aL ((k != k2)) with hg1|hg1
  ·
   have aa6:=aA hg1
   exact⟨(),(by rw[show same (aC k s os bs) (aC k2 s2 dN dB)=false from uy (JN (.inl (aA hg1)))];exact kF ah ai [oB hg1,oB hg1,oB hg1,oB hg1,oB hg1,oB hg1,oT,oT,oT,oT,oT,oT,oT,oT,oT] (by kernel_rfl))⟩
  ·
   have aa6:=av hg1
   rcases aL ((!(s==s2))) with hg2|hg2
   ·
    have G8:=ne_of_beq_false (eT hg2)
    exact⟨(),(by rw[show same (aC k s os bs) (aC k2 s2 dN dB)=false from uy (JN (.inr (.inl (ne_of_beq_false (eT hg2)))))];exact kF ah ai [oB hg1,oB hg1,oB hg1,oB hg1,oB hg1,oB hg1,oB hg2,oB hg2,oB hg2,oB hg2,oB hg2,oB hg2,oB hg2,oB hg2,oT] (by kernel_rfl))⟩
   ·
    have G8:=eq_of_beq (dm hg2)
    rcases aL ((((os.length:Nat):Int) !=((dN.length:Nat):Int))) with bF|bF
    ·
     have kH:=aA bF
     exact⟨(),(by rw[show same (aC k s os bs) (aC k2 s2 dN dB)=false from uy (JN (.inr (.inr (.inl (Tx (aA bF))))))];exact kF ah ai [oB hg1,oB hg1,oB hg1,oB hg1,oB hg1,oB hg1,oB hg2,oB hg2,oB hg2,oB hg2,oB hg2,oB hg2,oB hg2,oB hg2,oB bF] (by kernel_rfl))⟩
    ·
     have kH:=av bF
     refine eF (f:=0) (n:=3000) (once:=[]) (k:=51) (T:=2) (S:=[.loc [0],.loc [1]]) (ks:=[.loc [0],.loc [1]]) (live:=[2,3,29,30]) ah ai (α:=Nat) (fun x=>⟨bX 51 [(2,.ptr (.loc [0]) 0),(3,.ptr (.loc [1]) 0),(29,.t (.int .i64 ((os.length:Nat):Int))),(30,.t (.int .i64 ((x:Nat):Int)))],[(.loc [0],.cells 38 [.t (.int .u8 k),.t (.str s),.t (.sl os),.t (.sl bs)]),(.loc [1],.cells 38 [.t (.int .u8 k2),.t (.str s2),.t (.sl dN),.t (.sl dB)])],2⟩) (fun x=>(x≤os.length)∧(∀j,j<x→os[j]?=dN[j]?)) (fun x=>os.length - x) 0 (iF (Tryz.f8.body.getD .skip) 4) [oB hg1,oB hg1,oB hg1,oB hg1,oB hg1,oB hg1,oB hg2,oB hg2,oB hg2,oB hg2,oB hg2,oB hg2,oB hg2,oB hg2,oB bF] (by kernel_rfl) ⟨Nat.zero_le _,fun j hj=>absurd hj (Nat.not_lt_zero j)⟩ (fun x hok=> ?_)
     obtain⟨QY,k3⟩:∃y,y=x:=⟨x,rfl⟩
     subst k3
     replace hok:(QY≤os.length)∧(∀j,j<QY→os[j]?=dN[j]?):=hok
     obtain⟨agF,NV⟩:=hok
     rcases aL (decide (((QY:Nat):Int)<((os.length:Nat):Int))) with jX|jX
     ·
      have wG:=of_decide_eq_true jX
      obtain⟨e6,G7⟩:∃e,os[QY]?=some e:=⟨os[QY]'(by first|omega|(simp;omega)),List.getElem?_eq_getElem _⟩
      have Mi:=ho e6 (List.mem_of_getElem? G7)
      obtain⟨Y3,Y4,JL,JM,rfl,aja,ajb⟩:=hform _ (Mi)
      obtain⟨e8,Ez⟩:∃e,dN[QY]?=some e:=⟨dN[QY]'(by first|omega|(simp;omega)),List.getElem?_eq_getElem _⟩
      have aa7:=zH e8 (List.mem_of_getElem? Ez)
      obtain⟨k_9,Iq,aa8,aa9,rfl,alq,alr⟩:=hform _ (aa7)
      rcases aL ((!(same (.agg [.int .u8 Y3,.str Y4,.sl JL,.sl JM]) (.agg [.int .u8 k_9,.str Iq,.sl aa8,.sl aa9])))) with k4|k4
      ·
       refine kO ah ai [oB jX,oE G7,oE Ez,oC (dr G6 (x:=.agg [.int .u8 Y3,.str Y4,.sl JL,.sl JM]) (y:=.agg [.int .u8 k_9,.str Iq,.sl aa8,.sl aa9]) ⟨Mi,aa7⟩),oB k4] (by kernel_rfl) ?_
       exact⟨(),(by rw[show same (aC k s os bs) (aC k2 s2 dN dB)=false from uy (JN (.inr (.inr (.inl (Tv G7 Ez (Ai (eT k4)))))))];exact kF ah ai [] (by kernel_rfl))⟩
      ·
       exact⟨.inl ⟨QY+1,⟨⟨(by show(QY+1)≤os.length;omega),(FB G7 Ez (Ah (dm k4)) NV)⟩,(by show(os.length - (QY+1))<(os.length - QY);omega)⟩⟩,bS (f:=0) (n:=3000) (once:=[]) (k:=51) (T:=2) (S:=[.loc [0],.loc [1]]) (ks:=[.loc [0],.loc [1]]) (live:=[2,3,29,30]) ah ai [oB jX,oE G7,oE Ez,oC (dr G6 (x:=.agg [.int .u8 Y3,.str Y4,.sl JL,.sl JM]) (y:=.agg [.int .u8 k_9,.str Iq,.sl aa8,.sl aa9]) ⟨Mi,aa7⟩),oB k4,oI (QY) (by omega)] (by kernel_rfl)⟩
     ·
      have wG:=of_decide_eq_false jX
      refine kO ah ai [oB jX] (by kernel_rfl) ?_
      have he:os=dN:=NU (by have:=av bF;omega) (fun j hj=>NV j (by omega))
      have hw:same (aC k s os bs) (aC k2 s2 dN dB)=same (.sl bs) (.sl dB):=by
        cases hq:same (.sl bs) (.sl dB) with
        |true=>exact Dl (mk_eq (av hg1) (eq_of_beq (dm hg2)) he (Ah hq))
        |false=>exact uy (JN (.inr (.inr (.inr (Ai hq)))))
      exact⟨(),(by rw[hw];exact kF ah ai [oC (dr ajd (x:=.sl bs) (y:=.sl dB) ⟨hb,YF⟩)] (by kernel_rfl))⟩
theorem Dp.NW (n:Nat):Form (Dp n):=fun x h=>h.form
def Step (D:Tree→Prop)(x:Tree):Prop:=∃k s os bs,x=aC k s os bs∧os.length≤4194304∧bs.length≤4194304∧(∀o∈os,D o)∧QX D bs
theorem FC (m:Int)(D:Tree→Prop)(hform:Form D)(hS:∀x y,D x∧D y→R2 (cf m) 8 x y (.bool (same x y)))(x y:Tree)(hx:Step D x)(hy:Step D y):R2 (cf m) 8 x y (.bool (same x y)):=by
 obtain⟨k,s,os,bs,rfl,l1,l2,h1,h2⟩:=hx
 obtain⟨k2,s2,dN,dB,rfl,l3,l4,h3,h4⟩:=hy
 exact JO m D hform hS (fun x y ⟨⟨l,e,hl,h⟩,⟨l2,e2,hl2,h2⟩⟩=>by subst e;subst e2;exact G5 m D hform hS l l2 hl hl2 h h2) k s os bs k2 s2 dN dB l1 l3 h1 h3 ⟨_,rfl,l2,h2⟩ ⟨_,rfl,l4,h4⟩
theorem step0:Step (fun _=>False) ei:=⟨0,[],[],[],rfl,by simp,by simp,by simp,fun e h=>by simp at h⟩
theorem Tz:Form (fun _=>False):=fun x h=>h.elim
theorem NX (m:Int):∀n x y,Dp n x∧Dp n y→R2 (cf m) 8 x y (.bool (same x y))
 |0,x,y,⟨hx,hy⟩=>by
  subst hx;subst hy
  exact FC m _ Tz (fun x y h=>h.1.elim) ei ei step0 step0
 |n+1,x,y,⟨hx,hy⟩=>FC m (Dp n) (Dp.NW n) (NX m n) x y hx hy
end
end Go.Proofs.YtijfhoelihclbaaGreatDoor.w

namespace Go.Proofs.YtijfhoelihclbaaGreatDoor.w
open Go Go.Abs Go.Abs.Ty
set_option linter.unusedVariables false
set_option maxRecDepth 100000
set_option maxHeartbeats 2000000
noncomputable section
theorem TA {m:Int}{ev:aS}(ai:aF (cf m) ev):ay (cf m) 64 [.t (.sl [])] [] (.ret (.t (.sl [])) [] []):=by
 refine mD 8 1 Tryz.func64 rfl (by decide) rfl rfl (by decide) ?_
 refine AW.seq ?_
 refine AW.region ?_
 refine eH.go (f:=0) ai (by first|exact fE rfl|exact aj rfl) ?_
 refine eH.nil ?_
 refine AW.seq ?_
 refine AW.seq ?_
 refine AW.region ?_
 refine eH.go (f:=0) ai (by first|exact kz rfl|exact ak rfl) ?_
 refine eH.PJ rfl rfl ig rfl (fun b hb=> ?_)
 refine eH.nil ?_
 refine AW.cond rfl (fun h4=> ?_) (fun h4=> ?_)
 ·
  refine AW.seq ?_
  refine AW.region ?_
  refine eH.go (f:=0) ai (by first|exact fE rfl|exact aj rfl) ?_
  refine eH.nil ?_
  refine AW.ret ?_
  exact .inl rfl
 ·
  refine AW.skip ?_
  refine AW.seq ?_
  refine AW.region ?_
  refine eH.go (f:=0) ai (z8 rfl ig rfl dW rfl rfl) ?_
  refine eH.go (f:=0) ai (by first|exact kz rfl|exact ak rfl) ?_
  refine eH.go (f:=0) ai (Ls SC rfl rfl (.inl (.inl rfl)) (.inr (.inr ⟨_,rfl⟩))) ?_
  refine eH.go (f:=0) ai (by first|exact fE rfl|exact aj rfl) ?_
  refine eH.nil ?_
  refine AW.ret ?_
  exact .inl rfl
theorem TB {m:Int}{ev:aS}(ai:aF (cf m) ev)(es:List Tree)(hne:es≠ [])(hu:fA true 4 es)(hl:es.length≤4194304):
  ay (cf m) 64 [.t (.sl es)] [] (.ret (.ref (.loc [5]) 0 es.length) [] [(.loc [5],.arr (38,true) 4 false ((flat es).map .t))]):=by
 refine mD 8 1 Tryz.func64 rfl (by decide) rfl rfl (by decide) ?_
 refine AW.seq ?_
 refine AW.region ?_
 refine eH.go (f:=0) ai (by first|exact fE rfl|exact aj rfl) ?_
 refine eH.nil ?_
 refine AW.seq ?_
 refine AW.seq ?_
 refine AW.region ?_
 refine eH.go (f:=0) ai (by first|exact kz rfl|exact ak rfl) ?_
 refine eH.PJ rfl rfl ig rfl (fun b hb=> ?_)
 have hb:=hb hne
 subst hb
 refine eH.nil ?_
 refine AW.cond rfl (fun h=>absurd h (by decide)) (fun h=> ?_)
 refine AW.skip ?_
 refine AW.seq ?_
 refine AW.region ?_
 refine eH.go (f:=0) ai (z8 rfl ig rfl dW rfl rfl) ?_
 refine eH.go (f:=0) ai (by first|exact kz rfl|exact ak rfl) ?_
 refine eH.go (f:=0) ai (Lr SC rfl rfl (.inl rfl) hu hne (by show es.length*72≤70368744177664;omega)) ?_
 refine eH.go (f:=0) ai (by first|exact fE rfl|exact aj rfl) ?_
 refine eH.nil ?_
 refine AW.ret ?_
 exact .inr (Nr rfl rfl rfl)
def kf:List TV→List aQ→Option bG:=fun as' os=>match as',os with
 | [.t (.sl [])],[]=>some (.ret (.t (.sl [])) [] [])
 | [.t (.sl (e::es))],[]=> @ite _ (fA true 4 (e::es)∧(e::es).length≤4194304) (Classical.propDecidable _) (some (.ret (.ref (.loc [5]) 0 (e::es).length) [] [(.loc [5],.arr (38,true) 4 false ((flat (e::es)).map .t))])) none
 |_,_=>none
theorem kT (m:Int):j7 (cf m) 64 kf:=fun args aR r h=>by
  unfold kf at h
  split at h
  · cases h;exact TA aH
  · split at h
    · rename_i hc;cases h;exact TB aH _ (by simp) hc.1 hc.2
    · cases h
  · cases h
theorem uz {ev:aS}(h:Has ev 64 kf){es:List Tree}(hne:es≠ [])(hu:fA true 4 es)(hl:es.length≤4194304):ev 64 [.t (.sl es)] []=some (.ret (.ref (.loc [5]) 0 es.length) [] [(.loc [5],.arr (38,true) 4 false ((flat es).map .t))]):=by
 cases es with
 |nil=>exact absurd rfl hne
 |cons e es=>exact h _ _ _ (by unfold kf;exact if_pos ⟨hu,hl⟩)
theorem TC {m:Int}{ev:aS}(ai:aF (cf m) ev):ay (cf m) 65 [.t (.sl [])] [] (.ret (.t (.sl [])) [] []):=by
 refine mD 8 1 Tryz.func65 rfl (by decide) rfl rfl (by decide) ?_
 refine AW.seq ?_
 refine AW.region ?_
 refine eH.go (f:=0) ai (by first|exact fE rfl|exact aj rfl) ?_
 refine eH.nil ?_
 refine AW.seq ?_
 refine AW.seq ?_
 refine AW.region ?_
 refine eH.go (f:=0) ai (by first|exact kz rfl|exact ak rfl) ?_
 refine eH.PJ rfl rfl gK rfl (fun b hb=> ?_)
 refine eH.nil ?_
 refine AW.cond rfl (fun h4=> ?_) (fun h4=> ?_)
 ·
  refine AW.seq ?_
  refine AW.region ?_
  refine eH.go (f:=0) ai (by first|exact fE rfl|exact aj rfl) ?_
  refine eH.nil ?_
  refine AW.ret ?_
  exact .inl rfl
 ·
  refine AW.skip ?_
  refine AW.seq ?_
  refine AW.region ?_
  refine eH.go (f:=0) ai (z8 rfl gK rfl sJ rfl rfl) ?_
  refine eH.go (f:=0) ai (by first|exact kz rfl|exact ak rfl) ?_
  refine eH.go (f:=0) ai (Ls YY rfl rfl (.inl (.inl rfl)) (.inr (.inr ⟨_,rfl⟩))) ?_
  refine eH.go (f:=0) ai (by first|exact fE rfl|exact aj rfl) ?_
  refine eH.nil ?_
  refine AW.ret ?_
  exact .inl rfl
theorem TD {m:Int}{ev:aS}(ai:aF (cf m) ev)(es:List Tree)(hne:es≠ [])(hu:fA true 5 es)(hl:es.length≤4194304):
  ay (cf m) 65 [.t (.sl es)] [] (.ret (.ref (.loc [5]) 0 es.length) [] [(.loc [5],.arr (45,true) 5 false ((flat es).map .t))]):=by
 refine mD 8 1 Tryz.func65 rfl (by decide) rfl rfl (by decide) ?_
 refine AW.seq ?_
 refine AW.region ?_
 refine eH.go (f:=0) ai (by first|exact fE rfl|exact aj rfl) ?_
 refine eH.nil ?_
 refine AW.seq ?_
 refine AW.seq ?_
 refine AW.region ?_
 refine eH.go (f:=0) ai (by first|exact kz rfl|exact ak rfl) ?_
 refine eH.PJ rfl rfl gK rfl (fun b hb=> ?_)
 have hb:=hb hne
 subst hb
 refine eH.nil ?_
 refine AW.cond rfl (fun h=>absurd h (by decide)) (fun h=> ?_)
 refine AW.skip ?_
 refine AW.seq ?_
 refine AW.region ?_
 refine eH.go (f:=0) ai (z8 rfl gK rfl sJ rfl rfl) ?_
 refine eH.go (f:=0) ai (by first|exact kz rfl|exact ak rfl) ?_
 refine eH.go (f:=0) ai (Lr YY rfl rfl (.inl rfl) hu hne (by show es.length*88≤70368744177664;omega)) ?_
 refine eH.go (f:=0) ai (by first|exact fE rfl|exact aj rfl) ?_
 refine eH.nil ?_
 refine AW.ret ?_
 exact .inr (Nr rfl rfl rfl)
def kg:List TV→List aQ→Option bG:=fun as' os=>match as',os with
 | [.t (.sl [])],[]=>some (.ret (.t (.sl [])) [] [])
 | [.t (.sl (e::es))],[]=> @ite _ (fA true 5 (e::es)∧(e::es).length≤4194304) (Classical.propDecidable _) (some (.ret (.ref (.loc [5]) 0 (e::es).length) [] [(.loc [5],.arr (45,true) 5 false ((flat (e::es)).map .t))])) none
 |_,_=>none
theorem kU (m:Int):j7 (cf m) 65 kg:=fun args aR r h=>by
  unfold kg at h
  split at h
  · cases h;exact TC aH
  · split at h
    · rename_i hc;cases h;exact TD aH _ (by simp) hc.1 hc.2
    · cases h
  · cases h
theorem uA {ev:aS}(h:Has ev 65 kg){es:List Tree}(hne:es≠ [])(hu:fA true 5 es)(hl:es.length≤4194304):ev 65 [.t (.sl es)] []=some (.ret (.ref (.loc [5]) 0 es.length) [] [(.loc [5],.arr (45,true) 5 false ((flat es).map .t))]):=by
 cases es with
 |nil=>exact absurd rfl hne
 |cons e es=>exact h _ _ _ (by unfold kg;exact if_pos ⟨hu,hl⟩)
theorem abb (m:Int)(D:Tree→Prop)(hform:Form D)(hO:∀x,D x→R1 (cf m) 20 x x)(k:Int)(s:List UInt8):R1 (cf m) 20 (aC k s [] []) (aC k s [] []):=by
 obtain⟨ev,ai,iG,iH⟩:∃ev,aF (cf m) ev∧Has ev 64 kf∧Has ev 65 kg:=⟨_,(ax (kT m) (ax (kU m) aH)),az,(aq rfl az)⟩
 refine ay.gL ?_
 refine AX.start 50 1 Tryz.func20 rfl (by decide) rfl rfl (by decide) ?_
 refine AX.frames ?_
 exact⟨(),Qa (f:=0) (n:=3000) (once:=[3,8]) ah ai [oC (show ev 64 [.t (.sl [])] []=some (bG.ret (.t (.sl [])) [] []) from(iG _ _ _ rfl)),oC (show ev 65 [.t (.sl [])] []=some (bG.ret (.t (.sl [])) [] []) from(iH _ _ _ rfl)),oF,oF] (by kernel_rfl)⟩
theorem abd (m:Int)(D:Tree→Prop)(hform:Form D)(hO:∀x,D x→R1 (cf m) 20 x x)(k:Int)(s:List UInt8)(bs:List Tree)(aje:bs≠ [])(lb:bs.length≤4194304)(hb:QX D bs)(EZ:fA true 5 bs):R1 (cf m) 20 (aC k s [] bs) (aC k s [] bs):=by
  obtain⟨ev,ai,iG,iH,rK⟩:∃ev,aF (cf m) ev∧Has ev 64 kf∧Has ev 65 kg∧Has ev 20 (kY D (fun x=>x)):=⟨_,(ax (kT m) (ax (kU m) (ax (bD hO) aH))),az,(aq rfl az),(aq rfl (aq rfl az))⟩
  refine ay.gL ?_
  refine AX.start 50 1 Tryz.func20 rfl (by decide) rfl rfl (by decide) ?_
  refine AX.frames ?_
  refine Io (f:=0) (n:=3000) (once:=[]) (k:=50) (T:=2) (S:=[.loc [0],.loc [1]]) (ks:=[.loc [0],.loc [1]]) (live:=[1,2]) ah ai (Tryz.f20.body.getD .skip) 1 rfl (⟨bX 50 [(1,.ptr (.loc [0]) 0),(2,.ptr (.loc [1]) 0)],[(.loc [0],.cells 38 [.t (.int .u8 k),.t (.str s),.t (.sl []),.t (.sl bs)]),(.loc [1],.cells 38 [.t (.int .u8 0),.t (.str []),.bl,.bl])],2⟩) [] (by kernel_rfl) ?_
  refine AX.draw (f:=0) ah ai ?_
  refine aJ.go rfl (aD rfl kE rfl) ?_
  refine aJ.go rfl (bg rfl (ld ig rfl rfl)) ?_
  refine aJ.go rfl (bU (tJ rfl) (iG _ _ _ rfl)) ?_
  refine aJ.go rfl (aD rfl gQ rfl) ?_
  refine aJ.go rfl (bg rfl (ld gK rfl rfl)) ?_
  refine aJ.go rfl (uW (tJ rfl) (uA iH (by assumption) EZ (by assumption)) rfl q9) ?_
  refine aJ.go rfl (aD rfl kE rfl) ?_
  refine aJ.qd rfl (bT rfl rfl (sx ig rfl rfl)) ?_
  refine aJ.go rfl (aD rfl gQ rfl) ?_
  refine aJ.qd rfl (bT rfl rfl (sx gK rfl rfl)) ?_
  refine aJ.nil (dP rfl rfl ?_)
  refine eF (f:=0) (n:=3000) (once:=[3]) (k:=50) (T:=3) (S:=[.loc [0],.loc [1],.loc [7,5]]) (ks:=[.loc [0],.loc [1],.loc [7,5]]) (live:=[1,2,32,33]) ah ai (α:=Nat) (fun x=>⟨bX 50 [(1,.ptr (.loc [0]) 0),(2,.ptr (.loc [1]) 0),(32,.t (.int .i64 ((bs.length:Nat):Int))),(33,.t (.int .i64 ((x:Nat):Int)))],[(.loc [0],.cells 38 [.t (.int .u8 k),.t (.str s),.t (.sl []),.ref (.loc [2]) 0 bs.length]),(.loc [1],.cells 38 [.t (.int .u8 0),.t (.str []),.bl,.bl]),(.loc [2],.arr (45,true) 5 false ((flat bs).map .t))],3⟩) (fun x=>(x≤bs.length)) (fun x=>bs.length - x) 0 (iF (Tryz.f20.body.getD .skip) 8) [oF,oN (o:=.arr (45,true) 5 false ((flat bs).map .t)) (fun _=>eB)] (by kernel_rfl) (by show(0≤bs.length);first|trivial|omega|(refine⟨?_, ?_⟩<;>first|omega|exact SM.nil)|simp) (fun x hok=> ?_)
  obtain⟨i_1,k3⟩:∃y,y=x:=⟨x,rfl⟩
  subst k3
  replace hok:(i_1≤bs.length):=hok
  have jR:=hok
  rcases aL (decide (((i_1:Nat):Int)<((bs.length:Nat):Int))) with bE|bE
  ·
   have gR:=of_decide_eq_true bE
   obtain⟨e3,iD⟩:∃e,bs[i_1]?=some e:=⟨bs[i_1]'(by first|omega|(simp;omega)),List.getElem?_eq_getElem _⟩
   obtain⟨als,r_4,rfl,JP⟩:=hb e3 (List.mem_of_getElem? iD)
   obtain⟨k_4,NY,Qk,Ql,ajf,aed,aee⟩:=hform _ JP
   obtain rfl:r_4=[.int .u8 k_4,.str NY,.sl Qk,.sl Ql]:=Tree.agg.inj ajf
   exact⟨.inl ⟨i_1+1,⟨(by show(i_1+1)≤bs.length;omega),(by show(bs.length - (i_1+1))<(bs.length - i_1);omega)⟩⟩,bS (f:=0) (n:=3000) (once:=[3]) (k:=50) (T:=3) (S:=[.loc [0],.loc [1],.loc [2]]) (ks:=[.loc [0],.loc [1],.loc [2]]) (live:=[1,2,32,33]) ah ai [oB bE,oW true 5 bs EZ,oH iD,oQ bs,oQ bs,oO (q7 (m:=4) (i:=i_1) (j:=1) (fA.lens EZ) iD (by decide)),oC (bk rK (x:=.agg [.int .u8 k_4,.str NY,.sl Qk,.sl Ql]) JP),oW true 5 bs EZ,oH iD,oQ bs,oQ bs,oR _ _ (Fy (j:=1) (m:=4) (fA.lens EZ) iD (by decide)),oK (uU (j:=1) (m:=4) (fA.lens EZ) iD (by decide)),oI (i_1) (by omega),oN (o:=.arr (45,true) 5 false ((flat bs).map .t)) (fun _=>eB)] (by kernel_rfl)⟩
  ·
   have gR:=of_decide_eq_false bE
   refine ad5 (f:=0) (n:=3000) (once:=[3]) ah ai [oB bE] (by kernel_rfl) ?_
   exact⟨(),Qa (f:=0) (n:=3000) (once:=[3]) ah ai [oW true 5 bs EZ] (by kernel_rfl)⟩
theorem abe (m:Int)(D:Tree→Prop)(hform:Form D)(hO:∀x,D x→R1 (cf m) 20 x x)(k:Int)(s:List UInt8)(os:List Tree)(ajg:os≠ [])(lo:os.length≤4194304)(ho:∀o∈os,D o)(Mj:fA true 4 os):R1 (cf m) 20 (aC k s os []) (aC k s os []):=by
  obtain⟨ev,ai,iG,iH,rK⟩:∃ev,aF (cf m) ev∧Has ev 64 kf∧Has ev 65 kg∧Has ev 20 (kY D (fun x=>x)):=⟨_,(ax (kT m) (ax (kU m) (ax (bD hO) aH))),az,(aq rfl az),(aq rfl (aq rfl az))⟩
  refine ay.gL ?_
  refine AX.start 50 1 Tryz.func20 rfl (by decide) rfl rfl (by decide) ?_
  refine AX.frames ?_
  refine Io (f:=0) (n:=3000) (once:=[]) (k:=50) (T:=2) (S:=[.loc [0],.loc [1]]) (ks:=[.loc [0],.loc [1]]) (live:=[1,2]) ah ai (Tryz.f20.body.getD .skip) 1 rfl (⟨bX 50 [(1,.ptr (.loc [0]) 0),(2,.ptr (.loc [1]) 0)],[(.loc [0],.cells 38 [.t (.int .u8 k),.t (.str s),.t (.sl os),.t (.sl [])]),(.loc [1],.cells 38 [.t (.int .u8 0),.t (.str []),.bl,.bl])],2⟩) [] (by kernel_rfl) ?_
  refine AX.draw (f:=0) ah ai ?_
  refine aJ.go rfl (aD rfl kE rfl) ?_
  refine aJ.go rfl (bg rfl (ld ig rfl rfl)) ?_
  refine aJ.go rfl (uW (tJ rfl) (uz iG (by assumption) Mj (by assumption)) rfl q9) ?_
  refine aJ.go rfl (aD rfl gQ rfl) ?_
  refine aJ.go rfl (bg rfl (ld gK rfl rfl)) ?_
  refine aJ.go rfl (bU (tJ rfl) (iH _ _ _ rfl)) ?_
  refine aJ.go rfl (aD rfl kE rfl) ?_
  refine aJ.qd rfl (bT rfl rfl (sx ig rfl rfl)) ?_
  refine aJ.go rfl (aD rfl gQ rfl) ?_
  refine aJ.qd rfl (bT rfl rfl (sx gK rfl rfl)) ?_
  refine aJ.nil (dP rfl rfl ?_)
  refine eF (f:=0) (n:=3000) (once:=[]) (k:=50) (T:=3) (S:=[.loc [0],.loc [1],.loc [4,5]]) (ks:=[.loc [0],.loc [1],.loc [4,5]]) (live:=[1,2,15,16]) ah ai (α:=Nat) (fun x=>⟨bX 50 [(1,.ptr (.loc [0]) 0),(2,.ptr (.loc [1]) 0),(15,.t (.int .i64 ((os.length:Nat):Int))),(16,.t (.int .i64 ((x:Nat):Int)))],[(.loc [0],.cells 38 [.t (.int .u8 k),.t (.str s),.ref (.loc [2]) 0 os.length,.t (.sl [])]),(.loc [1],.cells 38 [.t (.int .u8 0),.t (.str []),.bl,.bl]),(.loc [2],.arr (38,true) 4 false ((flat os).map .t))],3⟩) (fun x=>(x≤os.length)) (fun x=>os.length - x) 0 (iF (Tryz.f20.body.getD .skip) 3) [oN (o:=.arr (38,true) 4 false ((flat os).map .t)) (fun _=>eB)] (by kernel_rfl) (by show(0≤os.length);first|trivial|omega|(refine⟨?_, ?_⟩<;>first|omega|exact SM.nil)|simp) (fun x hok=> ?_)
  obtain⟨i_1,k3⟩:∃y,y=x:=⟨x,rfl⟩
  subst k3
  replace hok:(i_1≤os.length):=hok
  have jR:=hok
  rcases aL (decide (((i_1:Nat):Int)<((os.length:Nat):Int))) with bE|bE
  ·
   have gR:=of_decide_eq_true bE
   obtain⟨e3,iD⟩:∃e,os[i_1]?=some e:=⟨os[i_1]'(by first|omega|(simp;omega)),List.getElem?_eq_getElem _⟩
   have JP:=ho e3 (List.mem_of_getElem? iD)
   obtain⟨k_4,NY,Qk,Ql,rfl,aed,aee⟩:=hform _ (JP)
   exact⟨.inl ⟨i_1+1,⟨(by show(i_1+1)≤os.length;omega),(by show(os.length - (i_1+1))<(os.length - i_1);omega)⟩⟩,bS (f:=0) (n:=3000) (once:=[]) (k:=50) (T:=3) (S:=[.loc [0],.loc [1],.loc [2]]) (ks:=[.loc [0],.loc [1],.loc [2]]) (live:=[1,2,15,16]) ah ai [oB bE,oW true 4 os Mj,oH iD,oQ os,oO (q7 (m:=4) (i:=i_1) (j:=0) (fA.lens Mj) iD (by decide)),oC (bk rK (x:=.agg [.int .u8 k_4,.str NY,.sl Qk,.sl Ql]) JP),oW true 4 os Mj,oH iD,oQ os,oR _ _ (Fy (j:=0) (m:=4) (fA.lens Mj) iD (by decide)),oK (uU (j:=0) (m:=4) (fA.lens Mj) iD (by decide)),oI (i_1) (by omega),oN (o:=.arr (38,true) 4 false ((flat os).map .t)) (fun _=>eB)] (by kernel_rfl)⟩
  ·
   have gR:=of_decide_eq_false bE
   refine kO ah ai [oB bE] (by kernel_rfl) ?_
   exact⟨(),Qa (f:=0) (n:=3000) (once:=[8]) ah ai [oF,oW true 4 os Mj] (by kernel_rfl)⟩
theorem abf (m:Int)(D:Tree→Prop)(hform:Form D)(hO:∀x,D x→R1 (cf m) 20 x x)(k:Int)(s:List UInt8)(os:List Tree)(ajg:os≠ [])(lo:os.length≤4194304)(ho:∀o∈os,D o)(Mj:fA true 4 os)(bs:List Tree)(aje:bs≠ [])(lb:bs.length≤4194304)(hb:QX D bs)(EZ:fA true 5 bs):R1 (cf m) 20 (aC k s os bs) (aC k s os bs):=by
  obtain⟨ev,ai,iG,iH,rK⟩:∃ev,aF (cf m) ev∧Has ev 64 kf∧Has ev 65 kg∧Has ev 20 (kY D (fun x=>x)):=⟨_,(ax (kT m) (ax (kU m) (ax (bD hO) aH))),az,(aq rfl az),(aq rfl (aq rfl az))⟩
  refine ay.gL ?_
  refine AX.start 50 1 Tryz.func20 rfl (by decide) rfl rfl (by decide) ?_
  refine AX.frames ?_
  refine Io (f:=0) (n:=3000) (once:=[]) (k:=50) (T:=2) (S:=[.loc [0],.loc [1]]) (ks:=[.loc [0],.loc [1]]) (live:=[1,2]) ah ai (Tryz.f20.body.getD .skip) 1 rfl (⟨bX 50 [(1,.ptr (.loc [0]) 0),(2,.ptr (.loc [1]) 0)],[(.loc [0],.cells 38 [.t (.int .u8 k),.t (.str s),.t (.sl os),.t (.sl bs)]),(.loc [1],.cells 38 [.t (.int .u8 0),.t (.str []),.bl,.bl])],2⟩) [] (by kernel_rfl) ?_
  refine AX.draw (f:=0) ah ai ?_
  refine aJ.go rfl (aD rfl kE rfl) ?_
  refine aJ.go rfl (bg rfl (ld ig rfl rfl)) ?_
  refine aJ.go rfl (uW (tJ rfl) (uz iG (by assumption) Mj (by assumption)) rfl q9) ?_
  refine aJ.go rfl (aD rfl gQ rfl) ?_
  refine aJ.go rfl (bg rfl (ld gK rfl rfl)) ?_
  refine aJ.go rfl (uW (tJ rfl) (uA iH (by assumption) EZ (by assumption)) rfl q9) ?_
  refine aJ.go rfl (aD rfl kE rfl) ?_
  refine aJ.qd rfl (bT rfl rfl (sx ig rfl rfl)) ?_
  refine aJ.go rfl (aD rfl gQ rfl) ?_
  refine aJ.qd rfl (bT rfl rfl (sx gK rfl rfl)) ?_
  refine aJ.nil (dP rfl rfl ?_)
  refine eF (f:=0) (n:=3000) (once:=[]) (k:=50) (T:=4) (S:=[.loc [0],.loc [1],.loc [4,5],.loc [7,5]]) (ks:=[.loc [0],.loc [1],.loc [4,5],.loc [7,5]]) (live:=[1,2,15,16]) ah ai (α:=Nat) (fun x=>⟨bX 50 [(1,.ptr (.loc [0]) 0),(2,.ptr (.loc [1]) 0),(15,.t (.int .i64 ((os.length:Nat):Int))),(16,.t (.int .i64 ((x:Nat):Int)))],[(.loc [0],.cells 38 [.t (.int .u8 k),.t (.str s),.ref (.loc [2]) 0 os.length,.ref (.loc [3]) 0 bs.length]),(.loc [1],.cells 38 [.t (.int .u8 0),.t (.str []),.bl,.bl]),(.loc [2],.arr (38,true) 4 false ((flat os).map .t)),(.loc [3],.arr (45,true) 5 false ((flat bs).map .t))],4⟩) (fun x=>(x≤os.length)) (fun x=>os.length - x) 0 (iF (Tryz.f20.body.getD .skip) 3) [oN (o:=.arr (38,true) 4 false ((flat os).map .t)) (fun _=>eB),oN (o:=.arr (45,true) 5 false ((flat bs).map .t)) (fun _=>eB)] (by kernel_rfl) (by show(0≤os.length);first|trivial|omega|(refine⟨?_, ?_⟩<;>first|omega|exact SM.nil)|simp) (fun x hok=> ?_)
  obtain⟨i_1,k3⟩:∃y,y=x:=⟨x,rfl⟩
  subst k3
  replace hok:(i_1≤os.length):=hok
  have jR:=hok
  rcases aL (decide (((i_1:Nat):Int)<((os.length:Nat):Int))) with bE|bE
  ·
   have gR:=of_decide_eq_true bE
   obtain⟨e3,iD⟩:∃e,os[i_1]?=some e:=⟨os[i_1]'(by first|omega|(simp;omega)),List.getElem?_eq_getElem _⟩
   have JP:=ho e3 (List.mem_of_getElem? iD)
   obtain⟨k_4,NY,Qk,Ql,rfl,aed,aee⟩:=hform _ (JP)
   exact⟨.inl ⟨i_1+1,⟨(by show(i_1+1)≤os.length;omega),(by show(os.length - (i_1+1))<(os.length - i_1);omega)⟩⟩,bS (f:=0) (n:=3000) (once:=[]) (k:=50) (T:=4) (S:=[.loc [0],.loc [1],.loc [2],.loc [3]]) (ks:=[.loc [0],.loc [1],.loc [2],.loc [3]]) (live:=[1,2,15,16]) ah ai [oB bE,oW true 4 os Mj,oH iD,oQ os,oO (q7 (m:=4) (i:=i_1) (j:=0) (fA.lens Mj) iD (by decide)),oC (bk rK (x:=.agg [.int .u8 k_4,.str NY,.sl Qk,.sl Ql]) JP),oW true 4 os Mj,oH iD,oQ os,oR _ _ (Fy (j:=0) (m:=4) (fA.lens Mj) iD (by decide)),oK (uU (j:=0) (m:=4) (fA.lens Mj) iD (by decide)),oI (i_1) (by omega),oN (o:=.arr (38,true) 4 false ((flat os).map .t)) (fun _=>eB),oN (o:=.arr (45,true) 5 false ((flat bs).map .t)) (fun _=>eB)] (by kernel_rfl)⟩
  ·
   have gR:=of_decide_eq_false bE
   refine kO ah ai [oB bE] (by kernel_rfl) ?_
   refine eF (f:=0) (n:=3000) (once:=[]) (k:=50) (T:=4) (S:=[.loc [0],.loc [1],.loc [2],.loc [3]]) (ks:=[.loc [0],.loc [1],.loc [2],.loc [3]]) (live:=[1,2,32,33]) ah ai (α:=Nat) (fun x=>⟨bX 50 [(1,.ptr (.loc [0]) 0),(2,.ptr (.loc [1]) 0),(32,.t (.int .i64 ((bs.length:Nat):Int))),(33,.t (.int .i64 ((x:Nat):Int)))],[(.loc [0],.cells 38 [.t (.int .u8 k),.t (.str s),.ref (.loc [2]) 0 os.length,.ref (.loc [3]) 0 bs.length]),(.loc [1],.cells 38 [.t (.int .u8 0),.t (.str []),.bl,.bl]),(.loc [2],.arr (38,true) 4 false ((flat os).map .t)),(.loc [3],.arr (45,true) 5 false ((flat bs).map .t))],4⟩) (fun x=>(x≤bs.length)) (fun x=>bs.length - x) 0 (iF (Tryz.f20.body.getD .skip) 8) [oN (o:=.arr (38,true) 4 false ((flat os).map .t)) (fun _=>eB),oN (o:=.arr (45,true) 5 false ((flat bs).map .t)) (fun _=>eB)] (by kernel_rfl) (by show(0≤bs.length);first|trivial|omega|(refine⟨?_, ?_⟩<;>first|omega|exact SM.nil)|simp) (fun x hok=> ?_)
   obtain⟨Wp,k3⟩:∃y,y=x:=⟨x,rfl⟩
   subst k3
   replace hok:(Wp≤bs.length):=hok
   have agG:=hok
   rcases aL (decide (((Wp:Nat):Int)<((bs.length:Nat):Int))) with qu|qu
   ·
    have G9:=of_decide_eq_true qu
    obtain⟨e7,he7⟩:∃e,bs[Wp]?=some e:=⟨bs[Wp]'(by first|omega|(simp;omega)),List.getElem?_eq_getElem _⟩
    obtain⟨alu,r_8,rfl,aef⟩:=hb e7 (List.mem_of_getElem? he7)
    obtain⟨k_8,s_8,aeg,aeh,ajh,alv,alw⟩:=hform _ aef
    obtain rfl:r_8=[.int .u8 k_8,.str s_8,.sl aeg,.sl aeh]:=Tree.agg.inj ajh
    exact⟨.inl ⟨Wp+1,⟨(by show(Wp+1)≤bs.length;omega),(by show(bs.length - (Wp+1))<(bs.length - Wp);omega)⟩⟩,bS (f:=0) (n:=3000) (once:=[]) (k:=50) (T:=4) (S:=[.loc [0],.loc [1],.loc [2],.loc [3]]) (ks:=[.loc [0],.loc [1],.loc [2],.loc [3]]) (live:=[1,2,32,33]) ah ai [oB qu,oW true 5 bs EZ,oH he7,oQ bs,oQ bs,oO (q7 (m:=4) (i:=Wp) (j:=1) (fA.lens EZ) he7 (by decide)),oC (bk rK (x:=.agg [.int .u8 k_8,.str s_8,.sl aeg,.sl aeh]) aef),oW true 5 bs EZ,oH he7,oQ bs,oQ bs,oR _ _ (Fy (j:=1) (m:=4) (fA.lens EZ) he7 (by decide)),oK (uU (j:=1) (m:=4) (fA.lens EZ) he7 (by decide)),oI (Wp) (by omega),oN (o:=.arr (38,true) 4 false ((flat os).map .t)) (fun _=>eB),oN (o:=.arr (45,true) 5 false ((flat bs).map .t)) (fun _=>eB)] (by kernel_rfl)⟩
   ·
    have G9:=of_decide_eq_false qu
    refine kO ah ai [oB qu] (by kernel_rfl) ?_
    exact⟨(),kF ah ai [oW true 4 os Mj,oW true 5 bs EZ] (by kernel_rfl)⟩
end
end Go.Proofs.YtijfhoelihclbaaGreatDoor.w

namespace Go.Proofs.YtijfhoelihclbaaGreatDoor.w
open Go Go.Abs Go.Abs.Ty
set_option linter.unusedVariables false
set_option maxRecDepth 100000
set_option maxHeartbeats 2000000
noncomputable section
theorem TE {D:Tree→Prop}(hform:Form D){os:List Tree}(h:∀o∈os,D o):fA true 4 os:=fun o ho=>by
 obtain⟨k,s,o1,b1,rfl,_⟩:=hform o (h o ho)
 exact⟨rfl,rfl,rfl⟩
theorem abg {D:Tree→Prop}(hform:Form D){bs:List Tree}(h:QX D bs):fA true 5 bs:=fun e he=>by
 obtain⟨nm,r,rfl,hd⟩:=h e he
 obtain⟨k,s,o1,b1,er,_⟩:=hform _ hd
 obtain rfl:=Tree.agg.inj er
 exact⟨rfl,rfl,rfl⟩
theorem JQ (m:Int)(D:Tree→Prop)(hform:Form D)(hO:∀x,D x→R1 (cf m) 20 x x)(x:Tree)(hx:Step D x):R1 (cf m) 20 x x:=by
 obtain⟨k,s,os,bs,rfl,l1,l2,h1,h2⟩:=hx
 have u1:=TE hform h1
 have u2:=abg hform h2
 rcases os with _|⟨o,os⟩<;>rcases bs with _|⟨b,bs⟩
 · exact abb m D hform hO k s
 · exact abd m D hform hO k s _ (by simp) l2 h2 u2
 · exact abe m D hform hO k s _ (by simp) l1 h1 u1
 · exact abf m D hform hO k s _ (by simp) l1 h1 u1 _ (by simp) l2 h2 u2
theorem Mk (m:Int):∀n x,Dp n x→R1 (cf m) 20 x x
 |0,x,hx=>by subst hx;exact JQ m _ Tz (fun x h=>h.elim) ei step0
 |n+1,x,hx=>JQ m (Dp n) (Dp.NW n) (Mk m n) x hx
theorem A6 {J:Tree→Tree→Tree×Int}:∀{xs ys l:List Tree} {x y:Tree},xs.length=ys.length→cO J xs ys=some l→cO J (xs++[x]) (ys++[y])=if(J (zI x) (zI y)).2=0∧tj x=tj y then some (l++[Im (tj x) (J (zI x) (zI y)).1]) else none
  | [],[],l,x,y,_,h=>by
    simp only[cO,Option.some.injEq] at h
    subst h
    simp only[List.nil_append,cO]
    split<;>rfl
  | a ::xs,b::ys,l,x,y,hl,h=>by
    simp only[cO] at h
    split at h
    · rename_i hc
      cases hr:cO J xs ys with
      |none=>rw[hr] at h;simp at h
      | some l'=>
        rw[hr] at h
        simp only[Option.map_some,Option.some.injEq] at h
        subst h
        have ih:=A6 (x:=x) (y:=y) (by simpa using hl) hr
        simp only[List.cons_append,cO,if_pos hc,ih]
        split<;>rfl
    · simp at h
  | [],_::_,_,_,_,hl,_=>by simp at hl
  |_::_,[],_,_,_,hl,_=>by simp at hl
theorem yC {J:Tree→Tree→Tree×Int}:∀{xs ys:List Tree} {n:Nat},xs.length=ys.length→cO J (xs.take n) (ys.take n)=none→cO J xs ys=none
  | [],[],n,_,h=>by simp[cO] at h
  |a::xs,b::ys,0,_,h=>by simp[cO] at h
  | a ::xs,b::ys,n+1,hl,h=>by
    simp only[List.take_succ_cons,cO] at h ⊢
    split at h
    · rename_i hc
      rw[if_pos hc]
      cases hr:cO J (xs.take n) (ys.take n) with
      |some l=>rw[hr] at h;simp at h
      |none=>rw[yC (by simpa using hl) hr];rfl
    · rename_i hc;rw[if_neg hc]
  | [],_::_,_,hl,_=>by simp at hl
  |_::_,[],_,hl,_=>by simp at hl
theorem A7 {J:Tree→Tree→Tree×Int}{xs ys acc:List Tree}{i:Nat}{x y:Tree}(hl:xs.length=ys.length)(hx:xs[i]?=some x)(hy:ys[i]?=some y)(h:cO J (xs.take i) (ys.take i)=some acc):
  cO J (xs.take (i+1)) (ys.take (i+1))=if(J (zI x) (zI y)).2=0∧tj x=tj y then some (acc++[Im (tj x) (J (zI x) (zI y)).1]) else none:=by
 rw[q8 hx,q8 hy]
 exact A6 (by simp[hl]) h
theorem A8 {J:Tree→Tree→Tree×Int}{xs ys acc:List Tree}{i:Nat}{n n2:List UInt8}{r r2 cs:List Tree}(hl:xs.length=ys.length)(hx:xs[i]?=some (.agg (.str n::r)))(hy:ys[i]?=some (.agg (.str n2::r2)))(h:cO J (xs.take i) (ys.take i)=some acc)
  (hw:(J (.agg r) (.agg r2)).2=0)(hn:n=n2)(e:(J (.agg r) (.agg r2)).1=.agg cs):cO J (xs.take (i+1)) (ys.take (i+1))=some (acc++[.agg (.str n::cs)]):=by
 rw[A7 hl hx hy h]
 have:(J (zI (.agg (.str n::r))) (zI (.agg (.str n2::r2)))).2=0∧tj (.agg (.str n::r))=tj (.agg (.str n2::r2)):=⟨hw,hn⟩
 rw[if_pos this]
 show some (acc++[Im n (J (.agg r) (.agg r2)).1])=_
 rw[e];rfl
theorem sM {J:Tree→Tree→Tree×Int}{xs ys acc:List Tree}{i:Nat}{n n2:List UInt8}{r r2:List Tree}(hl:xs.length=ys.length)(hx:xs[i]?=some (.agg (.str n::r)))(hy:ys[i]?=some (.agg (.str n2::r2)))(h:cO J (xs.take i) (ys.take i)=some acc)
  (hw:(J (.agg r) (.agg r2)).2≠0∨n≠n2):cO J xs ys=none:=yC (n:=i+1) hl (by
 rw[A7 hl hx hy h]
 have:¬((J (zI (.agg (.str n::r))) (zI (.agg (.str n2::r2)))).2=0∧tj (.agg (.str n::r))=tj (.agg (.str n2::r2))):=fun q=>hw.elim (fun h=>h q.1) (fun h=>h q.2)
 rw[if_neg this])
theorem yD {J:Tree→Tree→Tree×Int}{xs ys acc:List Tree}{i:Nat}(hl:xs.length=ys.length)(hi:i=xs.length)(h:cO J (xs.take i) (ys.take i)=some acc):cO J xs ys=some acc:=by
 subst hi
 rwa [List.take_length,hl,List.take_length] at h
theorem XD      (m:Int)(D SD:Tree→Prop)(J:Tree→Tree→Tree×Int)(hform:Form D)(hJ:∀x y,D x→D y→R2 (cf m) 12 x y (.bN [(J x y).1,.int .i64 (J x y).2]))(hJf:∀x y,D x→D y→∃k s os bs,(J x y).1=aC k s os bs)
    (hO:∀x,SD x→R1 (cf m) 20 x x)(hOf:∀x,SD x→R1 (cf m) 46 x (pZ x))(k:Int)(s:List UInt8)(os bs:List Tree)(k2:Int)(s2:List UInt8)(dN dB:List Tree)(hs1:SD (aC k s os bs))(hs2:SD (aC k2 s2 dN dB))(RB:D (pZ (aC k s os bs)))(zH:D (pZ (aC k2 s2 dN dB)))
    (lb:bs.length≤4194304)(lb2:dB.length≤4194304)(hb:QX D bs)(YF:QX D dB):R2 (cf m) 12 (aC k s os bs) (aC k2 s2 dN dB) (.bN [(bB J (aC k s os bs) (aC k2 s2 dN dB)).1,.int .i64 (bB J (aC k s os bs) (aC k2 s2 dN dB)).2]):=by
  obtain⟨ev,ai,rK,EA,uB⟩:∃ev,aF (cf m) ev∧Has ev 20 (kY SD (fun x=>x))∧Has ev 46 (kY SD pZ)∧Has ev 12 (rD (fun x y=>D x∧D y) fun x y=>.bN [(J x y).1,.int .i64 (J x y).2]):=⟨_,(ax (bD hO) (ax (bD hOf) (ax (dn fun x y h=>hJ x y h.1 h.2) aH))),az,(aq rfl az),(aq rfl (aq rfl az))⟩
  refine ay.gL ?_
  refine AX.start 129 2 Tryz.func12 rfl (by decide) rfl rfl (by decide) ?_
  refine AX.frames ?_
  rcases aL ((k2==0)) with hc1|hc1
  ·
   have Aj:=eq_of_beq hc1
   rcases aL ((k==0)) with bE|bE
   ·
    have gR:=eq_of_beq bE
    have hres:bB J (aC k s os bs) (aC k2 s2 dN dB)=(.agg [.int .u8 0,.str [],.sl [],.sl []],0):=by
      rw[cI]
      rw[if_pos (eq_of_beq hc1)]
      rw[if_pos (eq_of_beq bE)]
      rfl
    show ∃_:Unit,KE (cf m) (cv (cf m) _ 0 (.ret (.t (.bN [(bB J (aC k s os bs) (aC k2 s2 dN dB)).1,.int .i64 (bB J (aC k s os bs) (aC k2 s2 dN dB)).2])) [] [])) _ _ _
    rw[hres]
    exact⟨(),kF ah ai [oB hc1,oB bE] (by kernel_rfl)⟩
   ·
    have gR:=ne_of_beq_false bE
    have hres:bB J (aC k s os bs) (aC k2 s2 dN dB)=(.agg [.int .u8 k,.str s,.sl os,.sl bs],0):=by
      rw[cI]
      rw[if_pos (eq_of_beq hc1)]
      rw[if_neg (ne_of_beq_false bE)]
      rfl
    show ∃_:Unit,KE (cf m) (cv (cf m) _ 0 (.ret (.t (.bN [(bB J (aC k s os bs) (aC k2 s2 dN dB)).1,.int .i64 (bB J (aC k s os bs) (aC k2 s2 dN dB)).2])) [] [])) _ _ _
    rw[hres]
    exact⟨(),kF ah ai [oB hc1,oB bE,oB hc1,oC (bk rK (x:=.agg [.int .u8 k,.str s,.sl os,.sl bs]) hs1)] (by kernel_rfl)⟩
  ·
   have Aj:=ne_of_beq_false hc1
   rcases aL ((k==0)) with bF|bF
   ·
    have kH:=eq_of_beq bF
    have hres:bB J (aC k s os bs) (aC k2 s2 dN dB)=(.agg [.int .u8 k2,.str s2,.sl dN,.sl dB],0):=by
      rw[cI]
      rw[if_neg (ne_of_beq_false hc1)]
      rw[if_pos (eq_of_beq bF)]
      rfl
    show ∃_:Unit,KE (cf m) (cv (cf m) _ 0 (.ret (.t (.bN [(bB J (aC k s os bs) (aC k2 s2 dN dB)).1,.int .i64 (bB J (aC k s os bs) (aC k2 s2 dN dB)).2])) [] [])) _ _ _
    rw[hres]
    exact⟨(),kF ah ai [oB hc1,oB hc1,oB bF,oC (bk rK (x:=.agg [.int .u8 k2,.str s2,.sl dN,.sl dB]) hs2)] (by kernel_rfl)⟩
   ·
    have kH:=ne_of_beq_false bF
    rcases aL ((k != k2)) with hg4|hg4
    ·
     have Ml:=aA hg4
     have hres:bB J (aC k s os bs) (aC k2 s2 dN dB)=(.agg [.int .u8 0,.str [],.sl [],.sl []],7):=by
       rw[cI]
       rw[if_neg (ne_of_beq_false hc1)]
       rw[if_neg (ne_of_beq_false bF)]
       rw[dH]
       rw[if_pos (.inl (aA hg4))]
       rfl
     show ∃_:Unit,KE (cf m) (cv (cf m) _ 0 (.ret (.t (.bN [(bB J (aC k s os bs) (aC k2 s2 dN dB)).1,.int .i64 (bB J (aC k s os bs) (aC k2 s2 dN dB)).2])) [] [])) _ _ _
     rw[hres]
     exact⟨(),kF ah ai [oB hc1,oB hc1,oB bF,oB hg4,oB hg4,oB hg4,oB hg4,oT,oT,oT,oT,oT,oT,oT,oT,oT,oT,oT] (by kernel_rfl)⟩
    ·
     have Ml:=av hg4
     rcases aL (decide (k≥7)) with bw|bw
     ·
      have He:=of_decide_eq_true bw
      have hres:bB J (aC k s os bs) (aC k2 s2 dN dB)=(.agg [.int .u8 0,.str [],.sl [],.sl []],7):=by
        rw[cI]
        rw[if_neg (ne_of_beq_false hc1)]
        rw[if_neg (ne_of_beq_false bF)]
        rw[dH]
        rw[if_pos (.inr (.inl (of_decide_eq_true bw)))]
        rfl
      show ∃_:Unit,KE (cf m) (cv (cf m) _ 0 (.ret (.t (.bN [(bB J (aC k s os bs) (aC k2 s2 dN dB)).1,.int .i64 (bB J (aC k s os bs) (aC k2 s2 dN dB)).2])) [] [])) _ _ _
      rw[hres]
      exact⟨(),kF ah ai [oB hc1,oB hc1,oB bF,oB hg4,oB hg4,oB hg4,oB hg4,oB bw,oB bw,oB bw,oB bw,oB bw,oB bw,oB bw,oB bw,oB bw,oB bw,oT] (by kernel_rfl)⟩
     ·
      have He:=of_decide_eq_false bw
      rcases aL ((((bs.length:Nat):Int) !=((dB.length:Nat):Int))) with fB|fB
      ·
       have abh:=aA fB
       rcases aL ((k==6)) with qv|qv
       ·
        have Hf:=eq_of_beq qv
        have hres:bB J (aC k s os bs) (aC k2 s2 dN dB)=(.agg [.int .u8 0,.str [],.sl [],.sl []],7):=by
          rw[cI]
          rw[if_neg (ne_of_beq_false hc1)]
          rw[if_neg (ne_of_beq_false bF)]
          rw[dH]
          rw[if_pos (.inr (.inr ⟨fun e=>aA fB (by rw[e]),eq_of_beq qv⟩))]
          rfl
        show ∃_:Unit,KE (cf m) (cv (cf m) _ 0 (.ret (.t (.bN [(bB J (aC k s os bs) (aC k2 s2 dN dB)).1,.int .i64 (bB J (aC k s os bs) (aC k2 s2 dN dB)).2])) [] [])) _ _ _
        rw[hres]
        exact⟨(),kF ah ai [oB hc1,oB hc1,oB bF,oB hg4,oB hg4,oB hg4,oB hg4,oB bw,oB bw,oB bw,oB bw,oB bw,oB bw,oB bw,oB bw,oB fB,oB fB,oB fB,oB bw,oB fB,oB bw,oB qv] (by kernel_rfl)⟩
       ·
        have Hf:=ne_of_beq_false qv
        rcases aL ((k==4)) with fF|fF
        ·
         have wH:=eq_of_beq fF
         rcases aL ((s==s2)) with vM|vM
         ·
          have Mm:=eq_of_beq vM
          have hres:bB J (aC k s os bs) (aC k2 s2 dN dB)=(.agg [.int .u8 k,.str s,.sl [],.sl []],0):=by
            rw[cI]
            rw[if_neg (ne_of_beq_false hc1)]
            rw[if_neg (ne_of_beq_false bF)]
            rw[dH]
            rw[if_neg (fun h=>h.elim (fun h=>h (av hg4)) (fun h=>h.elim (fun h=>of_decide_eq_false bw h) (fun h=>ne_of_beq_false qv h.2)))]
            rw[if_pos (eq_of_beq fF),if_pos (eq_of_beq vM)]
            rw[eq_of_beq fF];rfl
          show ∃_:Unit,KE (cf m) (cv (cf m) _ 0 (.ret (.t (.bN [(bB J (aC k s os bs) (aC k2 s2 dN dB)).1,.int .i64 (bB J (aC k s os bs) (aC k2 s2 dN dB)).2])) [] [])) _ _ _
          rw[hres]
          exact⟨(),kF ah ai [oB hc1,oB hc1,oB bF,oB hg4,oB hg4,oB hg4,oB hg4,oB bw,oB bw,oB bw,oB bw,oB bw,oB bw,oB bw,oB bw,oB fB,oB fB,oB fB,oB bw,oB fB,oB bw,oB qv,oB fF,oB vM] (by kernel_rfl)⟩
         ·
          have Mm:=ne_of_beq_false vM
          have hres:bB J (aC k s os bs) (aC k2 s2 dN dB)=(.agg [.int .u8 k,.str [],.sl [],.sl []],0):=by
            rw[cI]
            rw[if_neg (ne_of_beq_false hc1)]
            rw[if_neg (ne_of_beq_false bF)]
            rw[dH]
            rw[if_neg (fun h=>h.elim (fun h=>h (av hg4)) (fun h=>h.elim (fun h=>of_decide_eq_false bw h) (fun h=>ne_of_beq_false qv h.2)))]
            rw[if_pos (eq_of_beq fF),if_neg (ne_of_beq_false vM)]
            rw[eq_of_beq fF];rfl
          show ∃_:Unit,KE (cf m) (cv (cf m) _ 0 (.ret (.t (.bN [(bB J (aC k s os bs) (aC k2 s2 dN dB)).1,.int .i64 (bB J (aC k s os bs) (aC k2 s2 dN dB)).2])) [] [])) _ _ _
          rw[hres]
          exact⟨(),kF ah ai [oB hc1,oB hc1,oB bF,oB hg4,oB hg4,oB hg4,oB hg4,oB bw,oB bw,oB bw,oB bw,oB bw,oB bw,oB bw,oB bw,oB fB,oB fB,oB fB,oB bw,oB fB,oB bw,oB qv,oB fF,oB vM] (by kernel_rfl)⟩
        ·
         have wH:=ne_of_beq_false fF
         rcases aL ((k==5)) with k4|k4
         ·
          have TF:=eq_of_beq k4
          obtain⟨aei,aej,Y5,Y6,aek⟩:=hJf _ _ RB zH
          have Y7:(J (pZ (.agg [.int .u8 k,.str s,.sl os,.sl bs])) (pZ (.agg [.int .u8 k2,.str s2,.sl dN,.sl dB]))).1=.agg [.int .u8 aei,.str aej,.sl Y5,.sl Y6]:=aek
          obtain⟨ael,NZ⟩:∃w,(J (pZ (.agg [.int .u8 k,.str s,.sl os,.sl bs])) (pZ (.agg [.int .u8 k2,.str s2,.sl dN,.sl dB]))).2=w:=⟨_,rfl⟩
          have TG:=dr uB (x:=(pZ (.agg [.int .u8 k,.str s,.sl os,.sl bs]))) (y:=(pZ (.agg [.int .u8 k2,.str s2,.sl dN,.sl dB]))) ⟨RB,zH⟩
          rw[Y7,NZ] at TG
          rcases aL ((ael != 0)) with jv|jv
          ·
           have uC:=aA jv
           have hres:bB J (aC k s os bs) (aC k2 s2 dN dB)=(.agg [.int .u8 0,.str [],.sl [],.sl []],ael):=by
             rw[cI]
             rw[if_neg (ne_of_beq_false hc1)]
             rw[if_neg (ne_of_beq_false bF)]
             rw[dH]
             rw[if_neg (fun h=>h.elim (fun h=>h (av hg4)) (fun h=>h.elim (fun h=>of_decide_eq_false bw h) (fun h=>ne_of_beq_false qv h.2)))]
             rw[if_neg (ne_of_beq_false fF),if_pos (eq_of_beq k4)]
             exact(if_neg (fun h=>aA jv (NZ.symm.trans h))).trans (congrArg (fun z=>(ei,z)) NZ)
           show ∃_:Unit,KE (cf m) (cv (cf m) _ 0 (.ret (.t (.bN [(bB J (aC k s os bs) (aC k2 s2 dN dB)).1,.int .i64 (bB J (aC k s os bs) (aC k2 s2 dN dB)).2])) [] [])) _ _ _
           rw[hres]
           exact⟨(),kF ah ai [oB hc1,oB hc1,oB bF,oB hg4,oB hg4,oB hg4,oB hg4,oB bw,oB bw,oB bw,oB bw,oB bw,oB bw,oB bw,oB bw,oB fB,oB fB,oB fB,oB bw,oB fB,oB bw,oB qv,oB fF,oB k4,oC (bk EA (x:=.agg [.int .u8 k,.str s,.sl os,.sl bs]) hs1),oC (bk EA (x:=.agg [.int .u8 k2,.str s2,.sl dN,.sl dB]) hs2),oC TG,oB jv] (by kernel_rfl)⟩
          ·
           have uC:=av jv
           have hres:bB J (aC k s os bs) (aC k2 s2 dN dB)=(.agg [.int .u8 k,.str [],.sl [.agg [.int .u8 aei,.str aej,.sl Y5,.sl Y6]],.sl []],0):=by
             rw[cI]
             rw[if_neg (ne_of_beq_false hc1)]
             rw[if_neg (ne_of_beq_false bF)]
             rw[dH]
             rw[if_neg (fun h=>h.elim (fun h=>h (av hg4)) (fun h=>h.elim (fun h=>of_decide_eq_false bw h) (fun h=>ne_of_beq_false qv h.2)))]
             rw[if_neg (ne_of_beq_false fF),if_pos (eq_of_beq k4)]
             refine(if_pos (NZ.trans (av jv))).trans ?_;rw[show(J (pZ (aC k s os bs)) (pZ (aC k2 s2 dN dB))).1=_ from Y7,eq_of_beq k4];rfl
           show ∃_:Unit,KE (cf m) (cv (cf m) _ 0 (.ret (.t (.bN [(bB J (aC k s os bs) (aC k2 s2 dN dB)).1,.int .i64 (bB J (aC k s os bs) (aC k2 s2 dN dB)).2])) [] [])) _ _ _
           rw[hres]
           exact⟨(),kF ah ai [oB hc1,oB hc1,oB bF,oB hg4,oB hg4,oB hg4,oB hg4,oB bw,oB bw,oB bw,oB bw,oB bw,oB bw,oB bw,oB bw,oB fB,oB fB,oB fB,oB bw,oB fB,oB bw,oB qv,oB fF,oB k4,oC (bk EA (x:=.agg [.int .u8 k,.str s,.sl os,.sl bs]) hs1),oC (bk EA (x:=.agg [.int .u8 k2,.str s2,.sl dN,.sl dB]) hs2),oC TG,oB jv] (by kernel_rfl)⟩
         ·
          have TF:=ne_of_beq_false k4
          have hres:bB J (aC k s os bs) (aC k2 s2 dN dB)=(.agg [.int .u8 k,.str [],.sl [],.sl []],0):=by
            rw[cI]
            rw[if_neg (ne_of_beq_false hc1)]
            rw[if_neg (ne_of_beq_false bF)]
            rw[dH]
            rw[if_neg (fun h=>h.elim (fun h=>h (av hg4)) (fun h=>h.elim (fun h=>of_decide_eq_false bw h) (fun h=>ne_of_beq_false qv h.2)))]
            rw[if_neg (ne_of_beq_false fF),if_neg (ne_of_beq_false k4),if_neg (ne_of_beq_false qv)];rfl
          show ∃_:Unit,KE (cf m) (cv (cf m) _ 0 (.ret (.t (.bN [(bB J (aC k s os bs) (aC k2 s2 dN dB)).1,.int .i64 (bB J (aC k s os bs) (aC k2 s2 dN dB)).2])) [] [])) _ _ _
          rw[hres]
          exact⟨(),kF ah ai [oB hc1,oB hc1,oB bF,oB hg4,oB hg4,oB hg4,oB hg4,oB bw,oB bw,oB bw,oB bw,oB bw,oB bw,oB bw,oB bw,oB fB,oB fB,oB fB,oB bw,oB fB,oB bw,oB qv,oB fF,oB k4,oB qv] (by kernel_rfl)⟩
      ·
       have abh:=av fB
       have hlen:bs.length=dB.length:=by have:=av fB;omega
       rcases aL ((k==4)) with iI|iI
       ·
        have Dm:=eq_of_beq iI
        rcases aL ((s==s2)) with pK|pK
        ·
         have JR:=eq_of_beq pK
         have hres:bB J (aC k s os bs) (aC k2 s2 dN dB)=(.agg [.int .u8 k,.str s,.sl [],.sl []],0):=by
           rw[cI]
           rw[if_neg (ne_of_beq_false hc1)]
           rw[if_neg (ne_of_beq_false bF)]
           rw[dH]
           rw[if_neg (fun h=>h.elim (fun h=>h (av hg4)) (fun h=>h.elim (fun h=>of_decide_eq_false bw h) (fun h=>h.1 (by have:=av fB;omega))))]
           rw[if_pos (eq_of_beq iI),if_pos (eq_of_beq pK)]
           rw[eq_of_beq iI];rfl
         show ∃_:Unit,KE (cf m) (cv (cf m) _ 0 (.ret (.t (.bN [(bB J (aC k s os bs) (aC k2 s2 dN dB)).1,.int .i64 (bB J (aC k s os bs) (aC k2 s2 dN dB)).2])) [] [])) _ _ _
         rw[hres]
         exact⟨(),kF ah ai [oB hc1,oB hc1,oB bF,oB hg4,oB hg4,oB hg4,oB hg4,oB bw,oB bw,oB bw,oB bw,oB bw,oB bw,oB bw,oB bw,oB fB,oB fB,oB fB,oB bw,oB fB,oB bw,oF,oB iI,oB pK] (by kernel_rfl)⟩
        ·
         have JR:=ne_of_beq_false pK
         have hres:bB J (aC k s os bs) (aC k2 s2 dN dB)=(.agg [.int .u8 k,.str [],.sl [],.sl []],0):=by
           rw[cI]
           rw[if_neg (ne_of_beq_false hc1)]
           rw[if_neg (ne_of_beq_false bF)]
           rw[dH]
           rw[if_neg (fun h=>h.elim (fun h=>h (av hg4)) (fun h=>h.elim (fun h=>of_decide_eq_false bw h) (fun h=>h.1 (by have:=av fB;omega))))]
           rw[if_pos (eq_of_beq iI),if_neg (ne_of_beq_false pK)]
           rw[eq_of_beq iI];rfl
         show ∃_:Unit,KE (cf m) (cv (cf m) _ 0 (.ret (.t (.bN [(bB J (aC k s os bs) (aC k2 s2 dN dB)).1,.int .i64 (bB J (aC k s os bs) (aC k2 s2 dN dB)).2])) [] [])) _ _ _
         rw[hres]
         exact⟨(),kF ah ai [oB hc1,oB hc1,oB bF,oB hg4,oB hg4,oB hg4,oB hg4,oB bw,oB bw,oB bw,oB bw,oB bw,oB bw,oB bw,oB bw,oB fB,oB fB,oB fB,oB bw,oB fB,oB bw,oF,oB iI,oB pK] (by kernel_rfl)⟩
       ·
        have Dm:=ne_of_beq_false iI
        rcases aL ((k==5)) with eL|eL
        ·
         have TH:=eq_of_beq eL
         obtain⟨aem,aen,Y8,Y9,aeo⟩:=hJf _ _ RB zH
         have Za:(J (pZ (.agg [.int .u8 k,.str s,.sl os,.sl bs])) (pZ (.agg [.int .u8 k2,.str s2,.sl dN,.sl dB]))).1=.agg [.int .u8 aem,.str aen,.sl Y8,.sl Y9]:=aeo
         obtain⟨aep,N1⟩:∃w,(J (pZ (.agg [.int .u8 k,.str s,.sl os,.sl bs])) (pZ (.agg [.int .u8 k2,.str s2,.sl dN,.sl dB]))).2=w:=⟨_,rfl⟩
         have TJ:=dr uB (x:=(pZ (.agg [.int .u8 k,.str s,.sl os,.sl bs]))) (y:=(pZ (.agg [.int .u8 k2,.str s2,.sl dN,.sl dB]))) ⟨RB,zH⟩
         rw[Za,N1] at TJ
         rcases aL ((aep != 0)) with yE|yE
         ·
          have TK:=aA yE
          have hres:bB J (aC k s os bs) (aC k2 s2 dN dB)=(.agg [.int .u8 0,.str [],.sl [],.sl []],aep):=by
            rw[cI]
            rw[if_neg (ne_of_beq_false hc1)]
            rw[if_neg (ne_of_beq_false bF)]
            rw[dH]
            rw[if_neg (fun h=>h.elim (fun h=>h (av hg4)) (fun h=>h.elim (fun h=>of_decide_eq_false bw h) (fun h=>h.1 (by have:=av fB;omega))))]
            rw[if_neg (ne_of_beq_false iI),if_pos (eq_of_beq eL)]
            exact(if_neg (fun h=>aA yE (N1.symm.trans h))).trans (congrArg (fun z=>(ei,z)) N1)
          show ∃_:Unit,KE (cf m) (cv (cf m) _ 0 (.ret (.t (.bN [(bB J (aC k s os bs) (aC k2 s2 dN dB)).1,.int .i64 (bB J (aC k s os bs) (aC k2 s2 dN dB)).2])) [] [])) _ _ _
          rw[hres]
          exact⟨(),kF ah ai [oB hc1,oB hc1,oB bF,oB hg4,oB hg4,oB hg4,oB hg4,oB bw,oB bw,oB bw,oB bw,oB bw,oB bw,oB bw,oB bw,oB fB,oB fB,oB fB,oB bw,oB fB,oB bw,oF,oB iI,oB eL,oC (bk EA (x:=.agg [.int .u8 k,.str s,.sl os,.sl bs]) hs1),oC (bk EA (x:=.agg [.int .u8 k2,.str s2,.sl dN,.sl dB]) hs2),oC TJ,oB yE] (by kernel_rfl)⟩
         ·
          have TK:=av yE
          have hres:bB J (aC k s os bs) (aC k2 s2 dN dB)=(.agg [.int .u8 k,.str [],.sl [.agg [.int .u8 aem,.str aen,.sl Y8,.sl Y9]],.sl []],0):=by
            rw[cI]
            rw[if_neg (ne_of_beq_false hc1)]
            rw[if_neg (ne_of_beq_false bF)]
            rw[dH]
            rw[if_neg (fun h=>h.elim (fun h=>h (av hg4)) (fun h=>h.elim (fun h=>of_decide_eq_false bw h) (fun h=>h.1 (by have:=av fB;omega))))]
            rw[if_neg (ne_of_beq_false iI),if_pos (eq_of_beq eL)]
            refine(if_pos (N1.trans (av yE))).trans ?_;rw[show(J (pZ (aC k s os bs)) (pZ (aC k2 s2 dN dB))).1=_ from Za,eq_of_beq eL];rfl
          show ∃_:Unit,KE (cf m) (cv (cf m) _ 0 (.ret (.t (.bN [(bB J (aC k s os bs) (aC k2 s2 dN dB)).1,.int .i64 (bB J (aC k s os bs) (aC k2 s2 dN dB)).2])) [] [])) _ _ _
          rw[hres]
          exact⟨(),kF ah ai [oB hc1,oB hc1,oB bF,oB hg4,oB hg4,oB hg4,oB hg4,oB bw,oB bw,oB bw,oB bw,oB bw,oB bw,oB bw,oB bw,oB fB,oB fB,oB fB,oB bw,oB fB,oB bw,oF,oB iI,oB eL,oC (bk EA (x:=.agg [.int .u8 k,.str s,.sl os,.sl bs]) hs1),oC (bk EA (x:=.agg [.int .u8 k2,.str s2,.sl dN,.sl dB]) hs2),oC TJ,oB yE] (by kernel_rfl)⟩
        ·
         have TH:=ne_of_beq_false eL
         rcases aL ((k==6)) with ki|ki
         ·
          have Dn:=eq_of_beq ki
          refine eF (f:=0) (n:=3000) (once:=[]) (k:=129) (T:=3) (S:=[.loc [1],.loc [2],.loc [16]]) (ks:=[.loc [1],.loc [2],.loc [16]]) (live:=[3,4,6,88,89,90]) ah ai (α:=Nat×List Tree) (fun x=>(match x.2 with| []=>⟨bX 129 [(3,.ptr (.loc [0]) 0),(4,.ptr (.loc [1]) 0),(6,.ptr (.loc [2]) 0),(88,.t (.sl bs)),(89,.t (.int .i64 ((bs.length:Nat):Int))),(90,.t (.int .i64 ((x.1:Nat):Int)))],[(.loc [0],.cells 38 [.t (.int .u8 k2),.t (.str s2),.t (.sl dN),.t (.sl dB)]),(.loc [1],.cells 38 [.t (.int .u8 0),.t (.str []),.bl,.bl]),(.loc [2],.cells 38 [.t (.int .u8 k),.t (.str []),.bl,.bl])],3⟩|_::_=>⟨bX 129 [(3,.ptr (.loc [0]) 0),(4,.ptr (.loc [1]) 0),(6,.ptr (.loc [2]) 0),(88,.t (.sl bs)),(89,.t (.int .i64 ((bs.length:Nat):Int))),(90,.t (.int .i64 ((x.1:Nat):Int)))],[(.loc [0],.cells 38 [.t (.int .u8 k2),.t (.str s2),.t (.sl dN),.t (.sl dB)]),(.loc [1],.cells 38 [.t (.int .u8 0),.t (.str []),.bl,.bl]),(.loc [2],.cells 38 [.t (.int .u8 k),.t (.str []),.bl,.ref (.loc [3]) 0 x.2.length]),(.loc [3],.arr (45,true) 5 false ((flat x.2).map .t))],4⟩)) (fun x=>(x.1≤bs.length)∧(cO J (bs.take x.1) (dB.take x.1)=some x.2)∧(fA true 5 x.2)∧(x.2.length≤x.1)) (fun x=>bs.length - x.1) (⟨0,[]⟩) (iF (Tryz.f12.body.getD .skip) 21) [oB hc1,oB hc1,oB bF,oB hg4,oB hg4,oB hg4,oB hg4,oB bw,oB bw,oB bw,oB bw,oB bw,oB bw,oB bw,oB bw,oB fB,oB fB,oB fB,oB bw,oB fB,oB bw,oF,oB iI,oB eL,oB ki] (by kernel_rfl) ⟨Nat.zero_le _,rfl,fA.nil,Nat.le_refl _⟩ (fun x hok=> ?_)
          obtain⟨ni,Hg⟩:=x
          replace hok:(ni≤bs.length)∧(cO J (bs.take ni) (dB.take ni)=some Hg)∧(fA true 5 Hg)∧(Hg.length≤ni):=hok
          obtain⟨aeq,nj,Dq,aer⟩:=hok
          rcases Hg with _|⟨Dr,Ds⟩
          ·
           rcases aL (decide (((ni:Nat):Int)<((bs.length:Nat):Int))) with Mn|Mn
           ·
            have aes:=of_decide_eq_true Mn
            obtain⟨e21,Mp⟩:∃e,bs[ni]?=some e:=⟨bs[ni]'(by first|omega|(simp;omega)),List.getElem?_eq_getElem _⟩
            obtain⟨FD,aji,rfl,TL⟩:=hb e21 (List.mem_of_getElem? Mp)
            obtain⟨XE,XF,N2,N3,aet,ak1,ak2⟩:=hform _ TL
            obtain rfl:aji=[.int .u8 XE,.str XF,.sl N2,.sl N3]:=Tree.agg.inj aet
            obtain⟨e23,pL⟩:∃e,dB[ni]?=some e:=⟨dB[ni]'(by first|omega|(simp;omega)),List.getElem?_eq_getElem _⟩
            obtain⟨aeu,ajj,rfl,Dt⟩:=YF e23 (List.mem_of_getElem? pL)
            obtain⟨Mq,uD,Du,Dv,aev,aew,aex⟩:=hform _ Dt
            obtain rfl:ajj=[.int .u8 Mq,.str uD,.sl Du,.sl Dv]:=Tree.agg.inj aev
            obtain⟨Qm,Qn,FE,FH,aey⟩:=hJf _ _ TL Dt
            have Zb:(J (.agg [.int .u8 XE,.str XF,.sl N2,.sl N3]) (.agg [.int .u8 Mq,.str uD,.sl Du,.sl Dv])).1=.agg [.int .u8 Qm,.str Qn,.sl FE,.sl FH]:=aey
            obtain⟨ajk,TM⟩:∃w,(J (.agg [.int .u8 XE,.str XF,.sl N2,.sl N3]) (.agg [.int .u8 Mq,.str uD,.sl Du,.sl Dv])).2=w:=⟨_,rfl⟩
            have N4:=dr uB (x:=(.agg [.int .u8 XE,.str XF,.sl N2,.sl N3])) (y:=(.agg [.int .u8 Mq,.str uD,.sl Du,.sl Dv])) ⟨TL,Dt⟩
            rw[Zb,TM] at N4
            rcases aL ((ajk != 0)) with ja|ja
            ·
             have TN:=aA ja
             refine kO ah ai [oB Mn,oE Mp,oE pL,oC N4,oB ja,oB ja,oB ja,oB ja,oB ja,oB ja,oT] (by kernel_rfl) ?_
             have hres:bB J (aC k s os bs) (aC k2 s2 dN dB)=(.agg [.int .u8 0,.str [],.sl [],.sl []],7):=by
               rw[cI]
               rw[if_neg (ne_of_beq_false hc1)]
               rw[if_neg (ne_of_beq_false bF)]
               rw[dH]
               rw[if_neg (fun h=>h.elim (fun h=>h (av hg4)) (fun h=>h.elim (fun h=>of_decide_eq_false bw h) (fun h=>h.1 (by have:=av fB;omega))))]
               rw[if_neg (ne_of_beq_false iI),if_neg (ne_of_beq_false eL),if_pos (eq_of_beq ki)]
               rw[sM hlen Mp pL nj (.inl (fun h=>aA ja (TM.symm.trans h)))];rfl
             show ∃_:Unit,KE (cf m) (cv (cf m) _ 0 (.ret (.t (.bN [(bB J (aC k s os bs) (aC k2 s2 dN dB)).1,.int .i64 (bB J (aC k s os bs) (aC k2 s2 dN dB)).2])) [] [])) _ _ _
             rw[hres]
             exact⟨(),kF ah ai [] (by kernel_rfl)⟩
            ·
             have TN:=av ja
             rcases aL ((!(FD==aeu))) with tG|tG
             ·
              have JS:=ne_of_beq_false (eT tG)
              refine kO ah ai [oB Mn,oE Mp,oE pL,oC N4,oB ja,oB ja,oB ja,oB ja,oB ja,oB ja,oB tG] (by kernel_rfl) ?_
              have hres:bB J (aC k s os bs) (aC k2 s2 dN dB)=(.agg [.int .u8 0,.str [],.sl [],.sl []],7):=by
                rw[cI]
                rw[if_neg (ne_of_beq_false hc1)]
                rw[if_neg (ne_of_beq_false bF)]
                rw[dH]
                rw[if_neg (fun h=>h.elim (fun h=>h (av hg4)) (fun h=>h.elim (fun h=>of_decide_eq_false bw h) (fun h=>h.1 (by have:=av fB;omega))))]
                rw[if_neg (ne_of_beq_false iI),if_neg (ne_of_beq_false eL),if_pos (eq_of_beq ki)]
                rw[sM hlen Mp pL nj (.inr (ne_of_beq_false (eT tG)))];rfl
              show ∃_:Unit,KE (cf m) (cv (cf m) _ 0 (.ret (.t (.bN [(bB J (aC k s os bs) (aC k2 s2 dN dB)).1,.int .i64 (bB J (aC k s os bs) (aC k2 s2 dN dB)).2])) [] [])) _ _ _
              rw[hres]
              exact⟨(),kF ah ai [] (by kernel_rfl)⟩
             ·
              have JS:=eq_of_beq (dm tG)
              exact⟨.inl ⟨⟨ni+1,([.agg [.str FD,.int .u8 Qm,.str Qn,.sl FE,.sl FH]]:List Tree)⟩,⟨⟨(by show(ni+1)≤bs.length;omega),(A8 hlen Mp pL nj (TM.trans (av ja)) (eq_of_beq (dm tG)) Zb),(by exact(fA.cons ⟨rfl,rfl,rfl⟩ .nil)),(by show([.agg [.str FD,.int .u8 Qm,.str Qn,.sl FE,.sl FH]]:List Tree).length≤(ni+1);first|omega|(simp only[List.length_append,List.length_cons,List.length_nil,List.length_singleton] at*;omega)|(simp;done)|(simp;omega))⟩,(by show(bs.length - (ni+1))<(bs.length - ni);omega)⟩⟩,bS (f:=0) (n:=3000) (once:=[]) (k:=129) (T:=4) (S:=[.loc [0],.loc [1],.loc [2],.loc [44]]) (ks:=[.loc [0],.loc [1],.loc [2],.loc [44]]) (live:=[3,4,6,88,89,90]) ah ai [oB Mn,oE Mp,oE pL,oC N4,oB ja,oB ja,oB ja,oB ja,oB ja,oB ja,oB tG,oU true 5 ([.agg [.str FD,.int .u8 Qm,.str Qn,.sl FE,.sl FH]]:List Tree) (fA.cons ⟨rfl,rfl,rfl⟩ fA.nil) (by simp),oA (([.agg [.str FD,.int .u8 Qm,.str Qn,.sl FE,.sl FH]]:List Tree).length*88) (by first|omega|(simp only[List.length_append,List.length_cons,List.length_nil,List.length_singleton] at*;omega)|(simp;done)|(simp;omega)),oI (ni) (by omega),oN (o:=.arr (45,true) 5 false ((flat ([.agg [.str FD,.int .u8 Qm,.str Qn,.sl FE,.sl FH]]:List Tree)).map .t)) (fun _=>eB)] (by kernel_rfl)⟩
           ·
            have aes:=of_decide_eq_false Mn
            refine kO ah ai [oB Mn] (by kernel_rfl) ?_
            have hres:bB J (aC k s os bs) (aC k2 s2 dN dB)=(.agg [.int .u8 k,.str [],.sl [],.sl []],0):=by
              rw[cI]
              rw[if_neg (ne_of_beq_false hc1)]
              rw[if_neg (ne_of_beq_false bF)]
              rw[dH]
              rw[if_neg (fun h=>h.elim (fun h=>h (av hg4)) (fun h=>h.elim (fun h=>of_decide_eq_false bw h) (fun h=>h.1 (by have:=av fB;omega))))]
              rw[if_neg (ne_of_beq_false iI),if_neg (ne_of_beq_false eL),if_pos (eq_of_beq ki)]
              rw[yD hlen (by omega) nj,eq_of_beq ki];rfl
            show ∃_:Unit,KE (cf m) (cv (cf m) _ 0 (.ret (.t (.bN [(bB J (aC k s os bs) (aC k2 s2 dN dB)).1,.int .i64 (bB J (aC k s os bs) (aC k2 s2 dN dB)).2])) [] [])) _ _ _
            rw[hres]
            exact⟨(),kF ah ai [] (by kernel_rfl)⟩
          ·
           rcases aL (decide (((ni:Nat):Int)<((bs.length:Nat):Int))) with iB|iB
           ·
            have JU:=of_decide_eq_true iB
            obtain⟨e29,Ak⟩:∃e,bs[ni]?=some e:=⟨bs[ni]'(by first|omega|(simp;omega)),List.getElem?_eq_getElem _⟩
            obtain⟨FI,ajl,rfl,TP⟩:=hb e29 (List.mem_of_getElem? Ak)
            obtain⟨XG,XH,N5,N6,aez,ak3,ak4⟩:=hform _ TP
            obtain rfl:ajl=[.int .u8 XG,.str XH,.sl N5,.sl N6]:=Tree.agg.inj aez
            obtain⟨e31,Dw⟩:∃e,dB[ni]?=some e:=⟨dB[ni]'(by first|omega|(simp;omega)),List.getElem?_eq_getElem _⟩
            obtain⟨aeA,ajm,rfl,TQ⟩:=YF e31 (List.mem_of_getElem? Dw)
            obtain⟨XI,XJ,N7,N8,aeB,ak5,ak6⟩:=hform _ TQ
            obtain rfl:ajm=[.int .u8 XI,.str XJ,.sl N7,.sl N8]:=Tree.agg.inj aeB
            obtain⟨Hh,Hj,yF,yG,aeC⟩:=hJf _ _ TP TQ
            have Zc:(J (.agg [.int .u8 XG,.str XH,.sl N5,.sl N6]) (.agg [.int .u8 XI,.str XJ,.sl N7,.sl N8])).1=.agg [.int .u8 Hh,.str Hj,.sl yF,.sl yG]:=aeC
            obtain⟨ajn,TR⟩:∃w,(J (.agg [.int .u8 XG,.str XH,.sl N5,.sl N6]) (.agg [.int .u8 XI,.str XJ,.sl N7,.sl N8])).2=w:=⟨_,rfl⟩
            have N9:=dr uB (x:=(.agg [.int .u8 XG,.str XH,.sl N5,.sl N6])) (y:=(.agg [.int .u8 XI,.str XJ,.sl N7,.sl N8])) ⟨TP,TQ⟩
            rw[Zc,TR] at N9
            rcases aL ((ajn != 0)) with pM|pM
            ·
             have aeD:=aA pM
             refine kO ah ai [oB iB,oE Ak,oE Dw,oC N9,oB pM,oB pM,oB pM,oB pM,oB pM,oB pM,oT] (by kernel_rfl) ?_
             have hres:bB J (aC k s os bs) (aC k2 s2 dN dB)=(.agg [.int .u8 0,.str [],.sl [],.sl []],7):=by
               rw[cI]
               rw[if_neg (ne_of_beq_false hc1)]
               rw[if_neg (ne_of_beq_false bF)]
               rw[dH]
               rw[if_neg (fun h=>h.elim (fun h=>h (av hg4)) (fun h=>h.elim (fun h=>of_decide_eq_false bw h) (fun h=>h.1 (by have:=av fB;omega))))]
               rw[if_neg (ne_of_beq_false iI),if_neg (ne_of_beq_false eL),if_pos (eq_of_beq ki)]
               rw[sM hlen Ak Dw nj (.inl (fun h=>aA pM (TR.symm.trans h)))];rfl
             show ∃_:Unit,KE (cf m) (cv (cf m) _ 0 (.ret (.t (.bN [(bB J (aC k s os bs) (aC k2 s2 dN dB)).1,.int .i64 (bB J (aC k s os bs) (aC k2 s2 dN dB)).2])) [] [])) _ _ _
             rw[hres]
             exact⟨(),kF ah ai [] (by kernel_rfl)⟩
            ·
             have aeD:=av pM
             rcases aL ((!(FI==aeA))) with Dy|Dy
             ·
              have TS:=ne_of_beq_false (eT Dy)
              refine kO ah ai [oB iB,oE Ak,oE Dw,oC N9,oB pM,oB pM,oB pM,oB pM,oB pM,oB pM,oB Dy] (by kernel_rfl) ?_
              have hres:bB J (aC k s os bs) (aC k2 s2 dN dB)=(.agg [.int .u8 0,.str [],.sl [],.sl []],7):=by
                rw[cI]
                rw[if_neg (ne_of_beq_false hc1)]
                rw[if_neg (ne_of_beq_false bF)]
                rw[dH]
                rw[if_neg (fun h=>h.elim (fun h=>h (av hg4)) (fun h=>h.elim (fun h=>of_decide_eq_false bw h) (fun h=>h.1 (by have:=av fB;omega))))]
                rw[if_neg (ne_of_beq_false iI),if_neg (ne_of_beq_false eL),if_pos (eq_of_beq ki)]
                rw[sM hlen Ak Dw nj (.inr (ne_of_beq_false (eT Dy)))];rfl
              show ∃_:Unit,KE (cf m) (cv (cf m) _ 0 (.ret (.t (.bN [(bB J (aC k s os bs) (aC k2 s2 dN dB)).1,.int .i64 (bB J (aC k s os bs) (aC k2 s2 dN dB)).2])) [] [])) _ _ _
              rw[hres]
              exact⟨(),kF ah ai [] (by kernel_rfl)⟩
             ·
              have TS:=eq_of_beq (dm Dy)
              exact⟨.inl ⟨⟨ni+1,(Dr::Ds)++([.agg [.str FI,.int .u8 Hh,.str Hj,.sl yF,.sl yG]]:List Tree)⟩,⟨⟨(by show(ni+1)≤bs.length;omega),(A8 hlen Ak Dw nj (TR.trans (av pM)) (eq_of_beq (dm Dy)) Zc),(by exact Dq.append (fA.cons ⟨rfl,rfl,rfl⟩ .nil)),(by show((Dr::Ds)++([.agg [.str FI,.int .u8 Hh,.str Hj,.sl yF,.sl yG]]:List Tree)).length≤(ni+1);first|omega|(simp only[List.length_append,List.length_cons,List.length_nil,List.length_singleton] at*;omega)|(simp;done)|(simp;omega))⟩,(by show(bs.length - (ni+1))<(bs.length - ni);omega)⟩⟩,bS (f:=0) (n:=3000) (once:=[]) (k:=129) (T:=4) (S:=[.loc [0],.loc [1],.loc [2],.loc [3]]) (ks:=[.loc [0],.loc [1],.loc [2],.loc [3]]) (live:=[3,4,6,88,89,90]) ah ai [oB iB,oE Ak,oE Dw,oC N9,oB pM,oB pM,oB pM,oB pM,oB pM,oB pM,oB Dy,oU true 5 ([.agg [.str FI,.int .u8 Hh,.str Hj,.sl yF,.sl yG]]:List Tree) (fA.cons ⟨rfl,rfl,rfl⟩ fA.nil) (by simp),oW true 5 (Dr::Ds) Dq,oA (((Dr::Ds).length+([.agg [.str FI,.int .u8 Hh,.str Hj,.sl yF,.sl yG]]:List Tree).length) *88) (by first|omega|(simp only[List.length_append,List.length_cons,List.length_nil,List.length_singleton] at*;omega)|(simp;done)|(simp;omega)),oI (ni) (by omega),oN (o:=.arr (45,true) 5 false ((flat ((Dr::Ds)++([.agg [.str FI,.int .u8 Hh,.str Hj,.sl yF,.sl yG]]:List Tree))).map .t)) (fun _=>eB)] (by kernel_rfl)⟩
           ·
            have JU:=of_decide_eq_false iB
            refine kO ah ai [oB iB] (by kernel_rfl) ?_
            have hres:bB J (aC k s os bs) (aC k2 s2 dN dB)=(.agg [.int .u8 k,.str [],.sl [],.sl (Dr::Ds)],0):=by
              rw[cI]
              rw[if_neg (ne_of_beq_false hc1)]
              rw[if_neg (ne_of_beq_false bF)]
              rw[dH]
              rw[if_neg (fun h=>h.elim (fun h=>h (av hg4)) (fun h=>h.elim (fun h=>of_decide_eq_false bw h) (fun h=>h.1 (by have:=av fB;omega))))]
              rw[if_neg (ne_of_beq_false iI),if_neg (ne_of_beq_false eL),if_pos (eq_of_beq ki)]
              rw[yD hlen (by omega) nj,eq_of_beq ki];rfl
            show ∃_:Unit,KE (cf m) (cv (cf m) _ 0 (.ret (.t (.bN [(bB J (aC k s os bs) (aC k2 s2 dN dB)).1,.int .i64 (bB J (aC k s os bs) (aC k2 s2 dN dB)).2])) [] [])) _ _ _
            rw[hres]
            exact⟨(),kF ah ai [oW true 5 (Dr::Ds) Dq] (by kernel_rfl)⟩
         ·
          have Dn:=ne_of_beq_false ki
          have hres:bB J (aC k s os bs) (aC k2 s2 dN dB)=(.agg [.int .u8 k,.str [],.sl [],.sl []],0):=by
            rw[cI]
            rw[if_neg (ne_of_beq_false hc1)]
            rw[if_neg (ne_of_beq_false bF)]
            rw[dH]
            rw[if_neg (fun h=>h.elim (fun h=>h (av hg4)) (fun h=>h.elim (fun h=>of_decide_eq_false bw h) (fun h=>h.1 (by have:=av fB;omega))))]
            rw[if_neg (ne_of_beq_false iI),if_neg (ne_of_beq_false eL),if_neg (ne_of_beq_false ki)];rfl
          show ∃_:Unit,KE (cf m) (cv (cf m) _ 0 (.ret (.t (.bN [(bB J (aC k s os bs) (aC k2 s2 dN dB)).1,.int .i64 (bB J (aC k s os bs) (aC k2 s2 dN dB)).2])) [] [])) _ _ _
          rw[hres]
          exact⟨(),kF ah ai [oB hc1,oB hc1,oB bF,oB hg4,oB hg4,oB hg4,oB hg4,oB bw,oB bw,oB bw,oB bw,oB bw,oB bw,oB bw,oB bw,oB fB,oB fB,oB fB,oB bw,oB fB,oB bw,oF,oB iI,oB eL,oB ki] (by kernel_rfl)⟩
end
end Go.Proofs.YtijfhoelihclbaaGreatDoor.w

namespace Go.Proofs.YtijfhoelihclbaaGreatDoor.w
open Go Go.Abs Go.Abs.Ty
set_option linter.unusedVariables false
set_option maxRecDepth 100000
set_option maxHeartbeats 2000000
noncomputable section
theorem XK (m:Int):sH (.bN [ei,.int .i64 0]) (eA (live.cfg m) (live.jG m) 300 12 [.t ei,.t ei] [])=true:=by kernel_rfl
theorem Mr (n:Nat)(a b:Tree)(ha:Dp n a)(hb:Dp n b):∃k s os bs,(eW n a b).1=aC k s os bs:=by
 obtain⟨k,s,os,bs,e,_⟩:=(xV n a b ha hb).form
 exact⟨k,s,os,bs,e⟩
theorem Oa (m:Int):∀n x y,Dp n x→Dp n y→R2 (cf m) 12 x y (.bN [(eW n x y).1,.int .i64 (eW n x y).2])
 |0,x,y,hx,hy=>by
  subst hx;subst hy
  have hr:=mF (XK m)
  rw[pF] at hr
  exact fun G w vs hw hg ha hh hv=>pn (live.ah m) (live.yg m) 300 12 [.t ei,.t ei] [] _ hr G w vs hw hg ha hh hv
 |n+1,x,y,hx,hy=>by
  have hx0:=hx;have hy0:=hy
  obtain⟨k,s,os,bs,rfl,l1,l2,h1,h2⟩:=hx
  obtain⟨k2,s2,dN,dB,rfl,l3,l4,h3,h4⟩:=hy
  exact XD m (Dp n) (Dp (n+1)) (eW n) (Dp.NW n) (Oa m n) (Mr n) (fun x h=>Mk m (n+1) x h) (fun x h=>(Y2 m n x h).1) k s os bs k2 s2 dN dB hx0 hy0 hx0.of hy0.of l2 l4 h2 h4
def kI:Tree→List Tree
 |.sl l=>l
 |_=>[]
end
end Go.Proofs.YtijfhoelihclbaaGreatDoor.w

namespace Go.Proofs.YtijfhoelihclbaaGreatDoor.w
open Go Go.Abs Go.Abs.Ty
set_option linter.unusedVariables false
set_option maxRecDepth 100000
set_option maxHeartbeats 2000000
noncomputable section
end
end Go.Proofs.YtijfhoelihclbaaGreatDoor.w
