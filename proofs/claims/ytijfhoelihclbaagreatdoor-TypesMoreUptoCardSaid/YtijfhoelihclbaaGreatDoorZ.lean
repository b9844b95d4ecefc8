/- The shapes of arguments. -/
import Derived.Test.YtijfhoelihclbaaGreatDoorQ
import Derived.Test.YtijfhoelihclbaaGreatDoorT
import Derived.Test.YtijfhoelihclbaaGreatDoorG
import Derived.Test.YtijfhoelihclbaaGreatDoorY
import Derived.Test.YtijfhoelihclbaaGreatDoorX
namespace Go.Proofs.YtijfhoelihclbaaGreatDoor.w
open Go Go.Abs
set_option linter.unusedVariables false
inductive K where
 |D3
 |string
inductive T:K→Tree→Prop
 |D3 (kind:Int) (b_:Bool) (n:Int) (s:List UInt8) (t_:List UInt8) (names:List Tree) (list:List Tree) (h0:names.length≤4194304) (h1:∀y∈names,T .string y) (h2:list.length≤4194304) (h3:∀y∈list,T .D3 y):T .D3 (.agg [.int .u8 kind,.bool b_,.int .i64 n,.str s,.str t_,.sl names,.sl list])
 |string (v:List UInt8):T .string (.str v)
theorem T.cT {x:Tree}(h:T .string x):∃(v:List UInt8),x=.str v:=by
 cases h with
 |string v=>exact⟨v,rfl⟩
end Go.Proofs.YtijfhoelihclbaaGreatDoor.w

namespace Go.Proofs.YtijfhoelihclbaaGreatDoor.w
open Go Go.Abs Go.Abs.Ty
set_option linter.unusedVariables false
set_option maxRecDepth 100000
set_option maxHeartbeats 2000000
noncomputable section
theorem ajW (m:Int)(k:Int)(s:List UInt8)(os bs:List Tree):R1 (cf m) 46 (aG k s [] bs) (s4 (aG k s [] bs)):=by
 obtain⟨ev,ai⟩:∃ev,aF (cf m) ev:=⟨_,aH⟩
 refine ay.fu ?_
 refine AX.start 12 1 Tryz.func46 rfl (by decide) rfl rfl (by decide) ?_
 refine AX.frames ?_
 exact⟨(),kF ah ai [oT] (by kernel_rfl)⟩
theorem ajX (m:Int)(k:Int)(s:List UInt8)(os bs:List Tree)(k2:Int)(s2:List UInt8)(eR ey:List Tree):R1 (cf m) 46 (aG k s (aG k2 s2 eR ey::os) bs) (s4 (aG k s (aG k2 s2 eR ey::os) bs)):=by
 obtain⟨ev,ai⟩:∃ev,aF (cf m) ev:=⟨_,aH⟩
 refine ay.fu ?_
 refine AX.start 12 1 Tryz.func46 rfl (by decide) rfl rfl (by decide) ?_
 refine AX.frames ?_
 exact⟨(),kF ah ai [oB (show(((((aG k2 s2 eR ey::os).length:Nat):Int)==0))=false from(by simp;omega)),oE (show((aG k2 s2 eR ey::os):List Tree)[0]?=some (.agg [.int .u8 k2,.str s2,.sl eR,.sl ey]) from rfl)] (by kernel_rfl)⟩
theorem aac (m:Int)(n:Nat)(x:Tree)(h:Dp (n+1) x):R1 (cf m) 46 x (s4 x)∧Dp n (s4 x):=by
 obtain⟨k,s,os,bs,rfl,_,_,ho,_⟩:=h
 cases os with
 |nil=>exact⟨ajW m k s [] bs,Dp.gi n⟩
 |cons o os=>
  have h1:=ho o List.mem_cons_self
  obtain⟨k2,s2,eR,ey,rfl,_,_⟩:=h1.form
  exact⟨ajX m k s os bs k2 s2 eR ey,h1⟩
def same (a b:Tree):Bool:= @decide (a=b) (Classical.propDecidable _)
theorem HP {a b:Tree}(h:a=b):same a b=true:= @decide_eq_true _ (Classical.propDecidable _) h
theorem vH {a b:Tree}(h:a≠b):same a b=false:= @decide_eq_false _ (Classical.propDecidable _) h
theorem Bd {a b:Tree}(h:same a b=true):a=b:= @of_decide_eq_true _ (Classical.propDecidable _) h
theorem nK {a b:Tree}(h:same a b=false):a≠b:= @of_decide_eq_false _ (Classical.propDecidable _) h
def Form (D:Tree→Prop):Prop:=∀x,D x→∃k s os bs,x=aG k s os bs∧os.length≤4194304∧bs.length≤4194304
def RL (D:Tree→Prop)(l:List Tree):Prop:=∀e∈l,∃nm r,e=.agg (.str nm::r)∧D (.agg r)
theorem afj {a b:List Tree}(hl:a.length=b.length)(h:∀(j:Nat) x y,j<a.length→a[j]?=some x→b[j]?=some y→x=y):a=b:=by
  refine List.ext_getElem? fun j=> ?_
  by_cases hj:j<a.length
  · rw[List.getElem?_eq_getElem hj,List.getElem?_eq_getElem (by omega)]
    exact congrArg some (h j _ _ hj (List.getElem?_eq_getElem hj) (List.getElem?_eq_getElem (by omega)))
  · rw[List.getElem?_eq_none (by omega),List.getElem?_eq_none (by omega)]
theorem Uf {a b:List Tree}{j:Nat}{x y:Tree}(h1:a[j]?=some x)(h2:b[j]?=some y)(h:x≠y):a≠b:=fun e=>by
 subst e;rw[h1] at h2;exact h (Option.some.inj h2)
theorem Gg {a b:List Tree}{i:Nat}{x y:Tree}(hx:a[i]?=some x)(hy:b[i]?=some y)(e:x=y)(h:∀j,j<i→a[j]?=b[j]?):∀j,j<i+1→a[j]?=b[j]?:=fun j hj=>by
  by_cases h1:j<i
  · exact h j h1
  · obtain rfl:j=i:=by omega
    rw[hx,hy,e]
theorem OG {a b:List Tree}(hl:a.length=b.length)(h:∀j,j<a.length→a[j]?=b[j]?):a=b:=List.ext_getElem? fun j=>by
 by_cases hj:j<a.length
 · exact h j hj
 · rw[List.getElem?_eq_none (by omega),List.getElem?_eq_none (by omega)]
theorem afk {n n2:List UInt8}{r r2:List Tree}(h:n=n2)(e:Tree.agg r=.agg r2):Tree.agg (.str n::r)=.agg (.str n2::r2):=by
 subst h;cases e;rfl
theorem ab6 {n n2:List UInt8}{r r2:List Tree}(h:n≠n2):Tree.agg (.str n::r)≠ .agg (.str n2::r2):=fun e=>h (by injection e with e;injection e with e;injection e)
theorem ab7 {n n2:List UInt8}{r r2:List Tree}(h:Tree.agg r≠ .agg r2):Tree.agg (.str n::r)≠ .agg (.str n2::r2):=fun e=>h (by injection e with e;injection e with _ e;rw[e])
theorem Ug {a b:List Tree}(h:a≠b):Tree.sl a≠ .sl b:=fun e=>h (Tree.sl.inj e)
theorem Uh {a b:List Tree}(h:((a.length:Nat):Int)≠((b.length:Nat):Int)):a≠b:=fun e=>h (by rw[e])
theorem HQ (m:Int)(D:Tree→Prop)(hform:Form D)(hS:∀x y,D x∧D y→R2 (cf m) 8 x y (.bool (same x y)))(a b:List Tree)(la:a.length≤4194304)(lb:b.length≤4194304)(ha:(RL D a))(hb:(RL D b)):R2 (cf m) 21 (.sl a) (.sl b) (.bool (same (.sl a) (.sl b))):=by
  obtain⟨ev,ai,vI⟩:∃ev,aF (cf m) ev∧Has ev 8 (r7 (fun x y=>D x∧D y) (fun x y=>.bool (same x y))):=⟨_,(ax (dH (fun x y h=>hS x y h)) aH),az⟩
  refine ay.fu ?_
  refine AX.start 42 2 Tryz.func21 rfl (by decide) rfl rfl (by decide) ?_
  refine AX.frames ?_
  rcases aK ((((a.length:Nat):Int) !=((b.length:Nat):Int))) with hc1|hc1
  ·
   have Be:=aA hc1
   exact⟨(),(by rw[show same (.sl a) (.sl b)=false from vH (Ug (Uh (aA hc1)))];exact kF ah ai [oB hc1] (by kernel_rfl))⟩
  ·
   have Be:=aq hc1
   refine eo (f:=0) (n:=3000) (once:=[]) (k:=42) (T:=0) (S:=[]) (ks:=[]) (live:=[0,1,12,13]) ah ai (α:=Nat) (fun x=>⟨bH 42 [(0,.t (.sl a)),(1,.t (.sl b)),(12,.t (.int .i64 ((a.length:Nat):Int))),(13,.t (.int .i64 ((x:Nat):Int)))],[],0⟩) (fun x=>(x≤a.length)∧(∀j,j<x→a[j]?=b[j]?)) (fun x=>a.length - x) 0 (iA (Tryz.f21.body.getD .skip) 4) [oB hc1] (by kernel_rfl) ⟨Nat.zero_le _,fun j hj=>absurd hj (Nat.not_lt_zero j)⟩ (fun x hok=> ?_)
   obtain⟨i_2,mJ⟩:∃y,y=x:=⟨x,rfl⟩
   subst mJ
   replace hok:(i_2≤a.length)∧(∀j,j<i_2→a[j]?=b[j]?):=hok
   obtain⟨pH,iW⟩:=hok
   rcases aK (decide (((i_2:Nat):Int)<((a.length:Nat):Int))) with bM|bM
   ·
    have lF:=of_decide_eq_true bM
    obtain⟨e4,qU⟩:∃e,a[i_2]?=some e:=⟨a[i_2]'(by first|omega|(simp;omega)),List.getElem?_eq_getElem _⟩
    obtain⟨ajY,r_5,rfl,ab8⟩:=ha e4 (List.mem_of_getElem? qU)
    obtain⟨k_5,s_5,Yy,Yz,ajZ,al8,al9⟩:=hform _ ab8
    obtain rfl:r_5=[.int .u8 k_5,.str s_5,.sl Yy,.sl Yz]:=Tree.agg.inj ajZ
    obtain⟨e6,zA⟩:∃e,b[i_2]?=some e:=⟨b[i_2]'(by first|omega|(simp;omega)),List.getElem?_eq_getElem _⟩
    obtain⟨aj0,r_7,rfl,M0⟩:=hb e6 (List.mem_of_getElem? zA)
    obtain⟨k_7,s_7,Kq,Kr,aj1,aj2,aj3⟩:=hform _ M0
    obtain rfl:r_7=[.int .u8 k_7,.str s_7,.sl Kq,.sl Kr]:=Tree.agg.inj aj1
    rcases aK ((!(ajY==aj0))) with rM|rM
    ·
     have aj4:=ne_of_beq_false (fJ rM)
     refine kO ah ai [oB bM,oE qU,oE zA,oB rM,oB rM,oB rM,oB rM,oB rM,oB rM,oB rM,oB rM,oB rM,oB rM,oB rM,oB rM,oB rM,oT] (by kernel_rfl) ?_
     exact⟨(),(by rw[show same (.sl a) (.sl b)=false from vH (Ug (Uf qU zA (ab6 (ne_of_beq_false (fJ rM)))))];exact kF ah ai [] (by kernel_rfl))⟩
    ·
     have aj4:=eq_of_beq (dJ rM)
     rcases aK ((!(same (.agg [.int .u8 k_5,.str s_5,.sl Yy,.sl Yz]) (.agg [.int .u8 k_7,.str s_7,.sl Kq,.sl Kr])))) with rN|rN
     ·
      refine kO ah ai [oB bM,oE qU,oE zA,oB rM,oB rM,oB rM,oE qU,oB rM,oB rM,oB rM,oB rM,oB rM,oE zA,oB rM,oB rM,oB rM,oC (dm vI (x:=.agg [.int .u8 k_5,.str s_5,.sl Yy,.sl Yz]) (y:=.agg [.int .u8 k_7,.str s_7,.sl Kq,.sl Kr]) ⟨ab8,M0⟩),oB rM,oB rM,oB rN] (by kernel_rfl) ?_
      exact⟨(),(by rw[show same (.sl a) (.sl b)=false from vH (Ug (Uf qU zA (ab7 (nK (fJ rN)))))];exact kF ah ai [] (by kernel_rfl))⟩
     ·
      exact⟨.inl ⟨i_2+1,⟨⟨(by show(i_2+1)≤a.length;omega),(Gg qU zA (afk (eq_of_beq (dJ rM)) (Bd (dJ rN))) iW)⟩,(by show(a.length - (i_2+1))<(a.length - i_2);omega)⟩⟩,bB (f:=0) (n:=3000) (once:=[]) (k:=42) (T:=0) (S:=[]) (ks:=[]) (live:=[0,1,12,13]) ah ai [oB bM,oE qU,oE zA,oB rM,oB rM,oB rM,oE qU,oB rM,oB rM,oB rM,oB rM,oB rM,oE zA,oB rM,oB rM,oB rM,oC (dm vI (x:=.agg [.int .u8 k_5,.str s_5,.sl Yy,.sl Yz]) (y:=.agg [.int .u8 k_7,.str s_7,.sl Kq,.sl Kr]) ⟨ab8,M0⟩),oB rM,oB rM,oB rN,oI (i_2) (by omega)] (by kernel_rfl)⟩
   ·
    have lF:=of_decide_eq_false bM
    refine kO ah ai [oB bM] (by kernel_rfl) ?_
    have hie:i_2=a.length:=by omega
    skip
    exact⟨(),(by rw[show same (.sl a) (.sl b)=true from HP (congrArg Tree.sl (OG (by have:=aq hc1;omega) (fun j hj=>iW j (by omega))))];exact kF ah ai [] (by kernel_rfl))⟩
def Q5 (D:Tree→Prop)(x:Tree):Prop:=∃l,x=.sl l∧l.length≤4194304∧RL D l
theorem Ks {k k2:Int}{s s2:List UInt8}{os eR bs ey:List Tree}(h:k≠k2∨s≠s2∨os≠eR∨Tree.sl bs≠ .sl ey):aG k s os bs≠aG k2 s2 eR ey:=fun e=>by
 simp only[aG,Tree.agg.injEq,List.cons.injEq,Tree.int.injEq,Tree.str.injEq,Tree.sl.injEq,true_and,and_true] at e
 obtain⟨rfl,rfl,rfl,rfl⟩:=e
 simp at h
theorem mk_eq {k k2:Int}{s s2:List UInt8}{os eR bs ey:List Tree}(h1:k=k2)(h2:s=s2)(h3:os=eR)(h4:Tree.sl bs=.sl ey):aG k s os bs=aG k2 s2 eR ey:=by
 cases h4;subst h1;subst h2;subst h3;rfl
theorem Kt (m:Int)(D:Tree→Prop)(hform:Form D)(hS:∀x y,D x∧D y→R2 (cf m) 8 x y (.bool (same x y)))(hA:∀x y,Q5 D x∧Q5 D y→R2 (cf m) 21 x y (.bool (same x y)))(k:Int)(s:List UInt8)(os bs:List Tree)(k2:Int)(s2:List UInt8)(eR ey:List Tree)(lo:os.length≤4194304)(lo2:eR.length≤4194304)(ho:∀o∈os,D o)(BB:∀o∈eR,D o)(hb:Q5 D (.sl bs))(ZN:Q5 D (.sl ey)):R2 (cf m) 8 (aG k s os bs) (aG k2 s2 eR ey) (.bool (same (aG k s os bs) (aG k2 s2 eR ey))):=by
  obtain⟨ev,ai,vI,aj5⟩:∃ev,aF (cf m) ev∧Has ev 8 (r7 (fun x y=>D x∧D y) (fun x y=>.bool (same x y)))∧Has ev 21 (r7 (fun x y=>Q5 D x∧Q5 D y) (fun x y=>.bool (same x y))):=⟨_,(ax (dH (fun x y h=>hS x y h)) (ax (dH (fun x y h=>hA x y h)) aH)),az,(aj rfl az)⟩
  refine ay.fu ?_
  refine AX.start 51 2 Tryz.func8 rfl (by decide) rfl rfl (by decide) ?_
  refine AX.frames ?_
  rcases aK ((k != k2)) with hg1|hg1
  ·
   have ab9:=aA hg1
   exact⟨(),(by rw[show same (aG k s os bs) (aG k2 s2 eR ey)=false from vH (Ks (.inl (aA hg1)))];exact kF ah ai [oB hg1,oB hg1,oB hg1,oB hg1,oB hg1,oB hg1,oT,oT,oT,oT,oT,oT,oT,oT,oT] (by kernel_rfl))⟩
  ·
   have ab9:=aq hg1
   rcases aK ((!(s==s2))) with hg2|hg2
   ·
    have HT:=ne_of_beq_false (fJ hg2)
    exact⟨(),(by rw[show same (aG k s os bs) (aG k2 s2 eR ey)=false from vH (Ks (.inr (.inl (ne_of_beq_false (fJ hg2)))))];exact kF ah ai [oB hg1,oB hg1,oB hg1,oB hg1,oB hg1,oB hg1,oB hg2,oB hg2,oB hg2,oB hg2,oB hg2,oB hg2,oB hg2,oB hg2,oT] (by kernel_rfl))⟩
   ·
    have HT:=eq_of_beq (dJ hg2)
    rcases aK ((((os.length:Nat):Int) !=((eR.length:Nat):Int))) with bM|bM
    ·
     have lF:=aA bM
     exact⟨(),(by rw[show same (aG k s os bs) (aG k2 s2 eR ey)=false from vH (Ks (.inr (.inr (.inl (Uh (aA bM))))))];exact kF ah ai [oB hg1,oB hg1,oB hg1,oB hg1,oB hg1,oB hg1,oB hg2,oB hg2,oB hg2,oB hg2,oB hg2,oB hg2,oB hg2,oB hg2,oB bM] (by kernel_rfl))⟩
    ·
     have lF:=aq bM
     refine eo (f:=0) (n:=3000) (once:=[]) (k:=51) (T:=2) (S:=[.loc [0],.loc [1]]) (ks:=[.loc [0],.loc [1]]) (live:=[2,3,29,30]) ah ai (α:=Nat) (fun x=>⟨bH 51 [(2,.ptr (.loc [0]) 0),(3,.ptr (.loc [1]) 0),(29,.t (.int .i64 ((os.length:Nat):Int))),(30,.t (.int .i64 ((x:Nat):Int)))],[(.loc [0],.cells 38 [.t (.int .u8 k),.t (.str s),.t (.sl os),.t (.sl bs)]),(.loc [1],.cells 38 [.t (.int .u8 k2),.t (.str s2),.t (.sl eR),.t (.sl ey)])],2⟩) (fun x=>(x≤os.length)∧(∀j,j<x→os[j]?=eR[j]?)) (fun x=>os.length - x) 0 (iA (Tryz.f8.body.getD .skip) 4) [oB hg1,oB hg1,oB hg1,oB hg1,oB hg1,oB hg1,oB hg2,oB hg2,oB hg2,oB hg2,oB hg2,oB hg2,oB hg2,oB hg2,oB bM] (by kernel_rfl) ⟨Nat.zero_le _,fun j hj=>absurd hj (Nat.not_lt_zero j)⟩ (fun x hok=> ?_)
     obtain⟨RN,mJ⟩:∃y,y=x:=⟨x,rfl⟩
     subst mJ
     replace hok:(RN≤os.length)∧(∀j,j<RN→os[j]?=eR[j]?):=hok
     obtain⟨ahM,OH⟩:=hok
     rcases aK (decide (((RN:Nat):Int)<((os.length:Nat):Int))) with kC|kC
     ·
      have vJ:=of_decide_eq_true kC
      obtain⟨e6,zA⟩:∃e,os[RN]?=some e:=⟨os[RN]'(by first|omega|(simp;omega)),List.getElem?_eq_getElem _⟩
      have M0:=ho e6 (List.mem_of_getElem? zA)
      obtain⟨k_7,s_7,Kq,Kr,rfl,aj2,aj3⟩:=hform _ (M0)
      obtain⟨e8,Ku⟩:∃e,eR[RN]?=some e:=⟨eR[RN]'(by first|omega|(simp;omega)),List.getElem?_eq_getElem _⟩
      have acd:=BB e8 (List.mem_of_getElem? Ku)
      obtain⟨k_9,Q6,ace,acf,rfl,ama,amb⟩:=hform _ (acd)
      rcases aK ((!(same (.agg [.int .u8 k_7,.str s_7,.sl Kq,.sl Kr]) (.agg [.int .u8 k_9,.str Q6,.sl ace,.sl acf])))) with l6|l6
      ·
       refine kO ah ai [oB kC,oE zA,oE Ku,oC (dm vI (x:=.agg [.int .u8 k_7,.str s_7,.sl Kq,.sl Kr]) (y:=.agg [.int .u8 k_9,.str Q6,.sl ace,.sl acf]) ⟨M0,acd⟩),oB l6] (by kernel_rfl) ?_
       exact⟨(),(by rw[show same (aG k s os bs) (aG k2 s2 eR ey)=false from vH (Ks (.inr (.inr (.inl (Uf zA Ku (nK (fJ l6)))))))];exact kF ah ai [] (by kernel_rfl))⟩
      ·
       exact⟨.inl ⟨RN+1,⟨⟨(by show(RN+1)≤os.length;omega),(Gg zA Ku (Bd (dJ l6)) OH)⟩,(by show(os.length - (RN+1))<(os.length - RN);omega)⟩⟩,bB (f:=0) (n:=3000) (once:=[]) (k:=51) (T:=2) (S:=[.loc [0],.loc [1]]) (ks:=[.loc [0],.loc [1]]) (live:=[2,3,29,30]) ah ai [oB kC,oE zA,oE Ku,oC (dm vI (x:=.agg [.int .u8 k_7,.str s_7,.sl Kq,.sl Kr]) (y:=.agg [.int .u8 k_9,.str Q6,.sl ace,.sl acf]) ⟨M0,acd⟩),oB l6,oI (RN) (by omega)] (by kernel_rfl)⟩
     ·
      have vJ:=of_decide_eq_false kC
      refine kO ah ai [oB kC] (by kernel_rfl) ?_
      have he:os=eR:=OG (by have:=aq bM;omega) (fun j hj=>OH j (by omega))
      have hw:same (aG k s os bs) (aG k2 s2 eR ey)=same (.sl bs) (.sl ey):=by
        cases hq:same (.sl bs) (.sl ey) with
        |true=>exact HP (mk_eq (aq hg1) (eq_of_beq (dJ hg2)) he (Bd hq))
        |false=>exact vH (Ks (.inr (.inr (.inr (nK hq)))))
      exact⟨(),(by rw[hw];exact kF ah ai [oC (dm aj5 (x:=.sl bs) (y:=.sl ey) ⟨hb,ZN⟩)] (by kernel_rfl))⟩
theorem Dp.OI (n:Nat):Form (Dp n):=fun x h=>h.form
def Step (D:Tree→Prop)(x:Tree):Prop:=∃k s os bs,x=aG k s os bs∧os.length≤4194304∧bs.length≤4194304∧(∀o∈os,D o)∧RL D bs
theorem Gi (m:Int)(D:Tree→Prop)(hform:Form D)(hS:∀x y,D x∧D y→R2 (cf m) 8 x y (.bool (same x y)))(x y:Tree)(hx:Step D x)(hy:Step D y):R2 (cf m) 8 x y (.bool (same x y)):=by
 obtain⟨k,s,os,bs,rfl,l1,l2,h1,h2⟩:=hx
 obtain⟨k2,s2,eR,ey,rfl,l3,l4,h3,h4⟩:=hy
 exact Kt m D hform hS (fun x y ⟨⟨l,e,hl,h⟩,⟨l2,e2,hl2,h2⟩⟩=>by subst e;subst e2;exact HQ m D hform hS l l2 hl hl2 h h2) k s os bs k2 s2 eR ey l1 l3 h1 h3 ⟨_,rfl,l2,h2⟩ ⟨_,rfl,l4,h4⟩
theorem step0:Step (fun _=>False) gi:=⟨0,[],[],[],rfl,by simp,by simp,by simp,fun e h=>by simp at h⟩
theorem Ui:Form (fun _=>False):=fun x h=>h.elim
theorem OJ (m:Int):∀n x y,Dp n x∧Dp n y→R2 (cf m) 8 x y (.bool (same x y))
 |0,x,y,⟨hx,hy⟩=>by
  subst hx;subst hy
  exact Gi m _ Ui (fun x y h=>h.1.elim) gi gi step0 step0
 |n+1,x,y,⟨hx,hy⟩=>Gi m (Dp n) (Dp.OI n) (OJ m n) x y hx hy
end
end Go.Proofs.YtijfhoelihclbaaGreatDoor.w

namespace Go.Proofs.YtijfhoelihclbaaGreatDoor.w
open Go Go.Abs Go.Abs.Ty
set_option linter.unusedVariables false
set_option maxRecDepth 100000
set_option maxHeartbeats 2000000
noncomputable section
theorem Uj {m:Int}{ev:aW}(ai:aF (cf m) ev):ay (cf m) 64 [.t (.sl [])] [] (.ret (.t (.sl [])) [] []):=by
 refine nD 8 1 Tryz.func64 rfl (by decide) rfl rfl (by decide) ?_
 refine AW.seq ?_
 refine AW.region ?_
 refine fC.go (f:=0) ai (by first|exact gj rfl|exact au rfl) ?_
 refine fC.nil ?_
 refine AW.seq ?_
 refine AW.seq ?_
 refine AW.region ?_
 refine fC.go (f:=0) ai (by first|exact lp rfl|exact av rfl) ?_
 refine fC.Qx rfl rfl iU rfl (fun b hb=> ?_)
 refine fC.nil ?_
 refine AW.cond rfl (fun h4=> ?_) (fun h4=> ?_)
 ·
  refine AW.seq ?_
  refine AW.region ?_
  refine fC.go (f:=0) ai (by first|exact gj rfl|exact au rfl) ?_
  refine fC.nil ?_
  refine AW.ret ?_
  exact .inl rfl
 ·
  refine AW.skip ?_
  refine AW.seq ?_
  refine AW.region ?_
  refine fC.go (f:=0) ai (qw rfl iU rfl eu rfl rfl) ?_
  refine fC.go (f:=0) ai (by first|exact lp rfl|exact av rfl) ?_
  refine fC.go (f:=0) ai (vw Tm rfl rfl (.inl (.inl rfl)) (.inr (.inr ⟨_,rfl⟩))) ?_
  refine fC.go (f:=0) ai (by first|exact gj rfl|exact au rfl) ?_
  refine fC.nil ?_
  refine AW.ret ?_
  exact .inl rfl
theorem Uk {m:Int}{ev:aW}(ai:aF (cf m) ev)(es:List Tree)(hne:es≠ [])(hu:cu true 4 es)(hl:es.length≤4194304):
  ay (cf m) 64 [.t (.sl es)] [] (.ret (.ref (.loc [5]) 0 es.length) [] [(.loc [5],.arr (38,true) 4 false ((flat es).map .t))]):=by
 refine nD 8 1 Tryz.func64 rfl (by decide) rfl rfl (by decide) ?_
 refine AW.seq ?_
 refine AW.region ?_
 refine fC.go (f:=0) ai (by first|exact gj rfl|exact au rfl) ?_
 refine fC.nil ?_
 refine AW.seq ?_
 refine AW.seq ?_
 refine AW.region ?_
 refine fC.go (f:=0) ai (by first|exact lp rfl|exact av rfl) ?_
 refine fC.Qx rfl rfl iU rfl (fun b hb=> ?_)
 have hb:=hb hne
 subst hb
 refine fC.nil ?_
 refine AW.cond rfl (fun h=>absurd h (by decide)) (fun h=> ?_)
 refine AW.skip ?_
 refine AW.seq ?_
 refine AW.region ?_
 refine fC.go (f:=0) ai (qw rfl iU rfl eu rfl rfl) ?_
 refine fC.go (f:=0) ai (by first|exact lp rfl|exact av rfl) ?_
 refine fC.go (f:=0) ai (Mr Tm rfl rfl (.inl rfl) hu hne (by show es.length*72≤70368744177664;omega)) ?_
 refine fC.go (f:=0) ai (by first|exact gj rfl|exact au rfl) ?_
 refine fC.nil ?_
 refine AW.ret ?_
 exact .inr (N9 rfl rfl rfl)
def k4:List TV→List aV→Option bG:=fun as' os=>match as',os with
 | [.t (.sl [])],[]=>some (.ret (.t (.sl [])) [] [])
 | [.t (.sl (e::es))],[]=> @ite _ (cu true 4 (e::es)∧(e::es).length≤4194304) (Classical.propDecidable _) (some (.ret (.ref (.loc [5]) 0 (e::es).length) [] [(.loc [5],.arr (38,true) 4 false ((flat (e::es)).map .t))])) none
 |_,_=>none
theorem lU (m:Int):kY (cf m) 64 k4:=fun args aX r h=>by
  unfold k4 at h
  split at h
  · cases h;exact Uj aH
  · split at h
    · rename_i hc;cases h;exact Uk aH _ (by simp) hc.1 hc.2
    · cases h
  · cases h
theorem vK {ev:aW}(h:Has ev 64 k4){es:List Tree}(hne:es≠ [])(hu:cu true 4 es)(hl:es.length≤4194304):ev 64 [.t (.sl es)] []=some (.ret (.ref (.loc [5]) 0 es.length) [] [(.loc [5],.arr (38,true) 4 false ((flat es).map .t))]):=by
 cases es with
 |nil=>exact absurd rfl hne
 |cons e es=>exact h _ _ _ (by unfold k4;exact if_pos ⟨hu,hl⟩)
theorem Ul {m:Int}{ev:aW}(ai:aF (cf m) ev):ay (cf m) 65 [.t (.sl [])] [] (.ret (.t (.sl [])) [] []):=by
 refine nD 8 1 Tryz.func65 rfl (by decide) rfl rfl (by decide) ?_
 refine AW.seq ?_
 refine AW.region ?_
 refine fC.go (f:=0) ai (by first|exact gj rfl|exact au rfl) ?_
 refine fC.nil ?_
 refine AW.seq ?_
 refine AW.seq ?_
 refine AW.region ?_
 refine fC.go (f:=0) ai (by first|exact lp rfl|exact av rfl) ?_
 refine fC.Qx rfl rfl iH rfl (fun b hb=> ?_)
 refine fC.nil ?_
 refine AW.cond rfl (fun h4=> ?_) (fun h4=> ?_)
 ·
  refine AW.seq ?_
  refine AW.region ?_
  refine fC.go (f:=0) ai (by first|exact gj rfl|exact au rfl) ?_
  refine fC.nil ?_
  refine AW.ret ?_
  exact .inl rfl
 ·
  refine AW.skip ?_
  refine AW.seq ?_
  refine AW.region ?_
  refine fC.go (f:=0) ai (qw rfl iH rfl tN rfl rfl) ?_
  refine fC.go (f:=0) ai (by first|exact lp rfl|exact av rfl) ?_
  refine fC.go (f:=0) ai (vw Z6 rfl rfl (.inl (.inl rfl)) (.inr (.inr ⟨_,rfl⟩))) ?_
  refine fC.go (f:=0) ai (by first|exact gj rfl|exact au rfl) ?_
  refine fC.nil ?_
  refine AW.ret ?_
  exact .inl rfl
theorem Um {m:Int}{ev:aW}(ai:aF (cf m) ev)(es:List Tree)(hne:es≠ [])(hu:cu true 5 es)(hl:es.length≤4194304):
  ay (cf m) 65 [.t (.sl es)] [] (.ret (.ref (.loc [5]) 0 es.length) [] [(.loc [5],.arr (45,true) 5 false ((flat es).map .t))]):=by
 refine nD 8 1 Tryz.func65 rfl (by decide) rfl rfl (by decide) ?_
 refine AW.seq ?_
 refine AW.region ?_
 refine fC.go (f:=0) ai (by first|exact gj rfl|exact au rfl) ?_
 refine fC.nil ?_
 refine AW.seq ?_
 refine AW.seq ?_
 refine AW.region ?_
 refine fC.go (f:=0) ai (by first|exact lp rfl|exact av rfl) ?_
 refine fC.Qx rfl rfl iH rfl (fun b hb=> ?_)
 have hb:=hb hne
 subst hb
 refine fC.nil ?_
 refine AW.cond rfl (fun h=>absurd h (by decide)) (fun h=> ?_)
 refine AW.skip ?_
 refine AW.seq ?_
 refine AW.region ?_
 refine fC.go (f:=0) ai (qw rfl iH rfl tN rfl rfl) ?_
 refine fC.go (f:=0) ai (by first|exact lp rfl|exact av rfl) ?_
 refine fC.go (f:=0) ai (Mr Z6 rfl rfl (.inl rfl) hu hne (by show es.length*88≤70368744177664;omega)) ?_
 refine fC.go (f:=0) ai (by first|exact gj rfl|exact au rfl) ?_
 refine fC.nil ?_
 refine AW.ret ?_
 exact .inr (N9 rfl rfl rfl)
def k5:List TV→List aV→Option bG:=fun as' os=>match as',os with
 | [.t (.sl [])],[]=>some (.ret (.t (.sl [])) [] [])
 | [.t (.sl (e::es))],[]=> @ite _ (cu true 5 (e::es)∧(e::es).length≤4194304) (Classical.propDecidable _) (some (.ret (.ref (.loc [5]) 0 (e::es).length) [] [(.loc [5],.arr (45,true) 5 false ((flat (e::es)).map .t))])) none
 |_,_=>none
theorem lV (m:Int):kY (cf m) 65 k5:=fun args aX r h=>by
  unfold k5 at h
  split at h
  · cases h;exact Ul aH
  · split at h
    · rename_i hc;cases h;exact Um aH _ (by simp) hc.1 hc.2
    · cases h
  · cases h
theorem vL {ev:aW}(h:Has ev 65 k5){es:List Tree}(hne:es≠ [])(hu:cu true 5 es)(hl:es.length≤4194304):ev 65 [.t (.sl es)] []=some (.ret (.ref (.loc [5]) 0 es.length) [] [(.loc [5],.arr (45,true) 5 false ((flat es).map .t))]):=by
 cases es with
 |nil=>exact absurd rfl hne
 |cons e es=>exact h _ _ _ (by unfold k5;exact if_pos ⟨hu,hl⟩)
theorem acg (m:Int)(D:Tree→Prop)(hform:Form D)(hO:∀x,D x→R1 (cf m) 20 x x)(k:Int)(s:List UInt8):R1 (cf m) 20 (aG k s [] []) (aG k s [] []):=by
 obtain⟨ev,ai,jh,ji⟩:∃ev,aF (cf m) ev∧Has ev 64 k4∧Has ev 65 k5:=⟨_,(ax (lU m) (ax (lV m) aH)),az,(aj rfl az)⟩
 refine ay.fu ?_
 refine AX.start 50 1 Tryz.func20 rfl (by decide) rfl rfl (by decide) ?_
 refine AX.frames ?_
 exact⟨(),QS (f:=0) (n:=3000) (once:=[3,8]) ah ai [oC (show ev 64 [.t (.sl [])] []=some (bG.ret (.t (.sl [])) [] []) from(jh _ _ _ rfl)),oC (show ev 65 [.t (.sl [])] []=some (bG.ret (.t (.sl [])) [] []) from(ji _ _ _ rfl)),oF,oF] (by kernel_rfl)⟩
theorem ach (m:Int)(D:Tree→Prop)(hform:Form D)(hO:∀x,D x→R1 (cf m) 20 x x)(k:Int)(s:List UInt8)(bs:List Tree)(aj6:bs≠ [])(lb:bs.length≤4194304)(hb:RL D bs)(FB:cu true 5 bs):R1 (cf m) 20 (aG k s [] bs) (aG k s [] bs):=by
  obtain⟨ev,ai,jh,ji,sQ⟩:∃ev,aF (cf m) ev∧Has ev 64 k4∧Has ev 65 k5∧Has ev 20 (jP D (fun x=>x)):=⟨_,(ax (lU m) (ax (lV m) (ax (bp hO) aH))),az,(aj rfl az),(aj rfl (aj rfl az))⟩
  refine ay.fu ?_
  refine AX.start 50 1 Tryz.func20 rfl (by decide) rfl rfl (by decide) ?_
  refine AX.frames ?_
  refine uR (f:=0) (n:=3000) (once:=[]) (k:=50) (T:=2) (S:=[.loc [0],.loc [1]]) (ks:=[.loc [0],.loc [1]]) (live:=[1,2]) ah ai (Tryz.f20.body.getD .skip) 1 rfl (⟨bH 50 [(1,.ptr (.loc [0]) 0),(2,.ptr (.loc [1]) 0)],[(.loc [0],.cells 38 [.t (.int .u8 k),.t (.str s),.t (.sl []),.t (.sl bs)]),(.loc [1],.cells 38 [.t (.int .u8 0),.t (.str []),.aL,.aL])],2⟩) [] (by kernel_rfl) ?_
  refine AX.draw (f:=0) ah ai ?_
  refine aJ.go rfl (aB rfl lB rfl) ?_
  refine aJ.go rfl (aS rfl (ld iU rfl rfl)) ?_
  refine aJ.go rfl (bU (uQ rfl) (jh _ _ _ rfl)) ?_
  refine aJ.go rfl (aB rfl iM rfl) ?_
  refine aJ.go rfl (aS rfl (ld iH rfl rfl)) ?_
  refine aJ.go rfl (wC (uQ rfl) (vL ji (by assumption) FB (by assumption)) rfl sD) ?_
  refine aJ.go rfl (aB rfl lB rfl) ?_
  refine aJ.lQ rfl (br rfl rfl (mX iU rfl rfl)) ?_
  refine aJ.go rfl (aB rfl iM rfl) ?_
  refine aJ.lQ rfl (br rfl rfl (mX iH rfl rfl)) ?_
  refine aJ.nil (eE rfl rfl ?_)
  refine eo (f:=0) (n:=3000) (once:=[3]) (k:=50) (T:=3) (S:=[.loc [0],.loc [1],.loc [7,5]]) (ks:=[.loc [0],.loc [1],.loc [7,5]]) (live:=[1,2,32,33]) ah ai (α:=Nat) (fun x=>⟨bH 50 [(1,.ptr (.loc [0]) 0),(2,.ptr (.loc [1]) 0),(32,.t (.int .i64 ((bs.length:Nat):Int))),(33,.t (.int .i64 ((x:Nat):Int)))],[(.loc [0],.cells 38 [.t (.int .u8 k),.t (.str s),.t (.sl []),.ref (.loc [2]) 0 bs.length]),(.loc [1],.cells 38 [.t (.int .u8 0),.t (.str []),.aL,.aL]),(.loc [2],.arr (45,true) 5 false ((flat bs).map .t))],3⟩) (fun x=>(x≤bs.length)) (fun x=>bs.length - x) 0 (iA (Tryz.f20.body.getD .skip) 8) [oF,oN (o:=.arr (45,true) 5 false ((flat bs).map .t)) (fun _=>bw)] (by kernel_rfl) (by show(0≤bs.length);first|trivial|omega|(refine⟨?_, ?_⟩<;>first|omega|exact SM.nil)|simp) (fun x hok=> ?_)
  obtain⟨i_1,mJ⟩:∃y,y=x:=⟨x,rfl⟩
  subst mJ
  replace hok:(i_1≤bs.length):=hok
  have iX:=hok
  rcases aK (decide (((i_1:Nat):Int)<((bs.length:Nat):Int))) with bD|bD
  ·
   have gM:=of_decide_eq_true bD
   obtain⟨e3,gY⟩:∃e,bs[i_1]?=some e:=⟨bs[i_1]'(by first|omega|(simp;omega)),List.getElem?_eq_getElem _⟩
   obtain⟨amc,r_4,rfl,Kv⟩:=hb e3 (List.mem_of_getElem? gY)
   obtain⟨k_4,OL,Q7,Q8,aj7,afl,afm⟩:=hform _ Kv
   obtain rfl:r_4=[.int .u8 k_4,.str OL,.sl Q7,.sl Q8]:=Tree.agg.inj aj7
   exact⟨.inl ⟨i_1+1,⟨(by show(i_1+1)≤bs.length;omega),(by show(bs.length - (i_1+1))<(bs.length - i_1);omega)⟩⟩,bB (f:=0) (n:=3000) (once:=[3]) (k:=50) (T:=3) (S:=[.loc [0],.loc [1],.loc [2]]) (ks:=[.loc [0],.loc [1],.loc [2]]) (live:=[1,2,32,33]) ah ai [oB bD,oW true 5 bs FB,oH gY,oQ bs,oQ bs,oO (sC (m:=4) (i:=i_1) (j:=1) (cu.lens FB) gY (by decide)),oC (bf sQ (x:=.agg [.int .u8 k_4,.str OL,.sl Q7,.sl Q8]) Kv),oW true 5 bs FB,oH gY,oQ bs,oQ bs,oR _ _ (Gb (j:=1) (m:=4) (cu.lens FB) gY (by decide)),oK (wB (j:=1) (m:=4) (cu.lens FB) gY (by decide)),oI (i_1) (by omega),oN (o:=.arr (45,true) 5 false ((flat bs).map .t)) (fun _=>bw)] (by kernel_rfl)⟩
  ·
   have gM:=of_decide_eq_false bD
   refine afd (f:=0) (n:=3000) (once:=[3]) ah ai [oB bD] (by kernel_rfl) ?_
   exact⟨(),QS (f:=0) (n:=3000) (once:=[3]) ah ai [oW true 5 bs FB] (by kernel_rfl)⟩
theorem aci (m:Int)(D:Tree→Prop)(hform:Form D)(hO:∀x,D x→R1 (cf m) 20 x x)(k:Int)(s:List UInt8)(os:List Tree)(aj8:os≠ [])(lo:os.length≤4194304)(ho:∀o∈os,D o)(M1:cu true 4 os):R1 (cf m) 20 (aG k s os []) (aG k s os []):=by
  obtain⟨ev,ai,jh,ji,sQ⟩:∃ev,aF (cf m) ev∧Has ev 64 k4∧Has ev 65 k5∧Has ev 20 (jP D (fun x=>x)):=⟨_,(ax (lU m) (ax (lV m) (ax (bp hO) aH))),az,(aj rfl az),(aj rfl (aj rfl az))⟩
  refine ay.fu ?_
  refine AX.start 50 1 Tryz.func20 rfl (by decide) rfl rfl (by decide) ?_
  refine AX.frames ?_
  refine uR (f:=0) (n:=3000) (once:=[]) (k:=50) (T:=2) (S:=[.loc [0],.loc [1]]) (ks:=[.loc [0],.loc [1]]) (live:=[1,2]) ah ai (Tryz.f20.body.getD .skip) 1 rfl (⟨bH 50 [(1,.ptr (.loc [0]) 0),(2,.ptr (.loc [1]) 0)],[(.loc [0],.cells 38 [.t (.int .u8 k),.t (.str s),.t (.sl os),.t (.sl [])]),(.loc [1],.cells 38 [.t (.int .u8 0),.t (.str []),.aL,.aL])],2⟩) [] (by kernel_rfl) ?_
  refine AX.draw (f:=0) ah ai ?_
  refine aJ.go rfl (aB rfl lB rfl) ?_
  refine aJ.go rfl (aS rfl (ld iU rfl rfl)) ?_
  refine aJ.go rfl (wC (uQ rfl) (vK jh (by assumption) M1 (by assumption)) rfl sD) ?_
  refine aJ.go rfl (aB rfl iM rfl) ?_
  refine aJ.go rfl (aS rfl (ld iH rfl rfl)) ?_
  refine aJ.go rfl (bU (uQ rfl) (ji _ _ _ rfl)) ?_
  refine aJ.go rfl (aB rfl lB rfl) ?_
  refine aJ.lQ rfl (br rfl rfl (mX iU rfl rfl)) ?_
  refine aJ.go rfl (aB rfl iM rfl) ?_
  refine aJ.lQ rfl (br rfl rfl (mX iH rfl rfl)) ?_
  refine aJ.nil (eE rfl rfl ?_)
  refine eo (f:=0) (n:=3000) (once:=[]) (k:=50) (T:=3) (S:=[.loc [0],.loc [1],.loc [4,5]]) (ks:=[.loc [0],.loc [1],.loc [4,5]]) (live:=[1,2,15,16]) ah ai (α:=Nat) (fun x=>⟨bH 50 [(1,.ptr (.loc [0]) 0),(2,.ptr (.loc [1]) 0),(15,.t (.int .i64 ((os.length:Nat):Int))),(16,.t (.int .i64 ((x:Nat):Int)))],[(.loc [0],.cells 38 [.t (.int .u8 k),.t (.str s),.ref (.loc [2]) 0 os.length,.t (.sl [])]),(.loc [1],.cells 38 [.t (.int .u8 0),.t (.str []),.aL,.aL]),(.loc [2],.arr (38,true) 4 false ((flat os).map .t))],3⟩) (fun x=>(x≤os.length)) (fun x=>os.length - x) 0 (iA (Tryz.f20.body.getD .skip) 3) [oN (o:=.arr (38,true) 4 false ((flat os).map .t)) (fun _=>bw)] (by kernel_rfl) (by show(0≤os.length);first|trivial|omega|(refine⟨?_, ?_⟩<;>first|omega|exact SM.nil)|simp) (fun x hok=> ?_)
  obtain⟨i_1,mJ⟩:∃y,y=x:=⟨x,rfl⟩
  subst mJ
  replace hok:(i_1≤os.length):=hok
  have iX:=hok
  rcases aK (decide (((i_1:Nat):Int)<((os.length:Nat):Int))) with bD|bD
  ·
   have gM:=of_decide_eq_true bD
   obtain⟨e3,gY⟩:∃e,os[i_1]?=some e:=⟨os[i_1]'(by first|omega|(simp;omega)),List.getElem?_eq_getElem _⟩
   have Kv:=ho e3 (List.mem_of_getElem? gY)
   obtain⟨k_4,OL,Q7,Q8,rfl,afl,afm⟩:=hform _ (Kv)
   exact⟨.inl ⟨i_1+1,⟨(by show(i_1+1)≤os.length;omega),(by show(os.length - (i_1+1))<(os.length - i_1);omega)⟩⟩,bB (f:=0) (n:=3000) (once:=[]) (k:=50) (T:=3) (S:=[.loc [0],.loc [1],.loc [2]]) (ks:=[.loc [0],.loc [1],.loc [2]]) (live:=[1,2,15,16]) ah ai [oB bD,oW true 4 os M1,oH gY,oQ os,oO (sC (m:=4) (i:=i_1) (j:=0) (cu.lens M1) gY (by decide)),oC (bf sQ (x:=.agg [.int .u8 k_4,.str OL,.sl Q7,.sl Q8]) Kv),oW true 4 os M1,oH gY,oQ os,oR _ _ (Gb (j:=0) (m:=4) (cu.lens M1) gY (by decide)),oK (wB (j:=0) (m:=4) (cu.lens M1) gY (by decide)),oI (i_1) (by omega),oN (o:=.arr (38,true) 4 false ((flat os).map .t)) (fun _=>bw)] (by kernel_rfl)⟩
  ·
   have gM:=of_decide_eq_false bD
   refine kO ah ai [oB bD] (by kernel_rfl) ?_
   exact⟨(),QS (f:=0) (n:=3000) (once:=[8]) ah ai [oF,oW true 4 os M1] (by kernel_rfl)⟩
theorem acj (m:Int)(D:Tree→Prop)(hform:Form D)(hO:∀x,D x→R1 (cf m) 20 x x)(k:Int)(s:List UInt8)(os:List Tree)(aj8:os≠ [])(lo:os.length≤4194304)(ho:∀o∈os,D o)(M1:cu true 4 os)(bs:List Tree)(aj6:bs≠ [])(lb:bs.length≤4194304)(hb:RL D bs)(FB:cu true 5 bs):R1 (cf m) 20 (aG k s os bs) (aG k s os bs):=by
  obtain⟨ev,ai,jh,ji,sQ⟩:∃ev,aF (cf m) ev∧Has ev 64 k4∧Has ev 65 k5∧Has ev 20 (jP D (fun x=>x)):=⟨_,(ax (lU m) (ax (lV m) (ax (bp hO) aH))),az,(aj rfl az),(aj rfl (aj rfl az))⟩
  refine ay.fu ?_
  refine AX.start 50 1 Tryz.func20 rfl (by decide) rfl rfl (by decide) ?_
  refine AX.frames ?_
  refine uR (f:=0) (n:=3000) (once:=[]) (k:=50) (T:=2) (S:=[.loc [0],.loc [1]]) (ks:=[.loc [0],.loc [1]]) (live:=[1,2]) ah ai (Tryz.f20.body.getD .skip) 1 rfl (⟨bH 50 [(1,.ptr (.loc [0]) 0),(2,.ptr (.loc [1]) 0)],[(.loc [0],.cells 38 [.t (.int .u8 k),.t (.str s),.t (.sl os),.t (.sl bs)]),(.loc [1],.cells 38 [.t (.int .u8 0),.t (.str []),.aL,.aL])],2⟩) [] (by kernel_rfl) ?_
  refine AX.draw (f:=0) ah ai ?_
  refine aJ.go rfl (aB rfl lB rfl) ?_
  refine aJ.go rfl (aS rfl (ld iU rfl rfl)) ?_
  refine aJ.go rfl (wC (uQ rfl) (vK jh (by assumption) M1 (by assumption)) rfl sD) ?_
  refine aJ.go rfl (aB rfl iM rfl) ?_
  refine aJ.go rfl (aS rfl (ld iH rfl rfl)) ?_
  refine aJ.go rfl (wC (uQ rfl) (vL ji (by assumption) FB (by assumption)) rfl sD) ?_
  refine aJ.go rfl (aB rfl lB rfl) ?_
  refine aJ.lQ rfl (br rfl rfl (mX iU rfl rfl)) ?_
  refine aJ.go rfl (aB rfl iM rfl) ?_
  refine aJ.lQ rfl (br rfl rfl (mX iH rfl rfl)) ?_
  refine aJ.nil (eE rfl rfl ?_)
  refine eo (f:=0) (n:=3000) (once:=[]) (k:=50) (T:=4) (S:=[.loc [0],.loc [1],.loc [4,5],.loc [7,5]]) (ks:=[.loc [0],.loc [1],.loc [4,5],.loc [7,5]]) (live:=[1,2,15,16]) ah ai (α:=Nat) (fun x=>⟨bH 50 [(1,.ptr (.loc [0]) 0),(2,.ptr (.loc [1]) 0),(15,.t (.int .i64 ((os.length:Nat):Int))),(16,.t (.int .i64 ((x:Nat):Int)))],[(.loc [0],.cells 38 [.t (.int .u8 k),.t (.str s),.ref (.loc [2]) 0 os.length,.ref (.loc [3]) 0 bs.length]),(.loc [1],.cells 38 [.t (.int .u8 0),.t (.str []),.aL,.aL]),(.loc [2],.arr (38,true) 4 false ((flat os).map .t)),(.loc [3],.arr (45,true) 5 false ((flat bs).map .t))],4⟩) (fun x=>(x≤os.length)) (fun x=>os.length - x) 0 (iA (Tryz.f20.body.getD .skip) 3) [oN (o:=.arr (38,true) 4 false ((flat os).map .t)) (fun _=>bw),oN (o:=.arr (45,true) 5 false ((flat bs).map .t)) (fun _=>bw)] (by kernel_rfl) (by show(0≤os.length);first|trivial|omega|(refine⟨?_, ?_⟩<;>first|omega|exact SM.nil)|simp) (fun x hok=> ?_)
  obtain⟨i_1,mJ⟩:∃y,y=x:=⟨x,rfl⟩
  subst mJ
  replace hok:(i_1≤os.length):=hok
  have iX:=hok
  rcases aK (decide (((i_1:Nat):Int)<((os.length:Nat):Int))) with bD|bD
  ·
   have gM:=of_decide_eq_true bD
   obtain⟨e3,gY⟩:∃e,os[i_1]?=some e:=⟨os[i_1]'(by first|omega|(simp;omega)),List.getElem?_eq_getElem _⟩
   have Kv:=ho e3 (List.mem_of_getElem? gY)
   obtain⟨k_4,OL,Q7,Q8,rfl,afl,afm⟩:=hform _ (Kv)
   exact⟨.inl ⟨i_1+1,⟨(by show(i_1+1)≤os.length;omega),(by show(os.length - (i_1+1))<(os.length - i_1);omega)⟩⟩,bB (f:=0) (n:=3000) (once:=[]) (k:=50) (T:=4) (S:=[.loc [0],.loc [1],.loc [2],.loc [3]]) (ks:=[.loc [0],.loc [1],.loc [2],.loc [3]]) (live:=[1,2,15,16]) ah ai [oB bD,oW true 4 os M1,oH gY,oQ os,oO (sC (m:=4) (i:=i_1) (j:=0) (cu.lens M1) gY (by decide)),oC (bf sQ (x:=.agg [.int .u8 k_4,.str OL,.sl Q7,.sl Q8]) Kv),oW true 4 os M1,oH gY,oQ os,oR _ _ (Gb (j:=0) (m:=4) (cu.lens M1) gY (by decide)),oK (wB (j:=0) (m:=4) (cu.lens M1) gY (by decide)),oI (i_1) (by omega),oN (o:=.arr (38,true) 4 false ((flat os).map .t)) (fun _=>bw),oN (o:=.arr (45,true) 5 false ((flat bs).map .t)) (fun _=>bw)] (by kernel_rfl)⟩
  ·
   have gM:=of_decide_eq_false bD
   refine kO ah ai [oB bD] (by kernel_rfl) ?_
   refine eo (f:=0) (n:=3000) (once:=[]) (k:=50) (T:=4) (S:=[.loc [0],.loc [1],.loc [2],.loc [3]]) (ks:=[.loc [0],.loc [1],.loc [2],.loc [3]]) (live:=[1,2,32,33]) ah ai (α:=Nat) (fun x=>⟨bH 50 [(1,.ptr (.loc [0]) 0),(2,.ptr (.loc [1]) 0),(32,.t (.int .i64 ((bs.length:Nat):Int))),(33,.t (.int .i64 ((x:Nat):Int)))],[(.loc [0],.cells 38 [.t (.int .u8 k),.t (.str s),.ref (.loc [2]) 0 os.length,.ref (.loc [3]) 0 bs.length]),(.loc [1],.cells 38 [.t (.int .u8 0),.t (.str []),.aL,.aL]),(.loc [2],.arr (38,true) 4 false ((flat os).map .t)),(.loc [3],.arr (45,true) 5 false ((flat bs).map .t))],4⟩) (fun x=>(x≤bs.length)) (fun x=>bs.length - x) 0 (iA (Tryz.f20.body.getD .skip) 8) [oN (o:=.arr (38,true) 4 false ((flat os).map .t)) (fun _=>bw),oN (o:=.arr (45,true) 5 false ((flat bs).map .t)) (fun _=>bw)] (by kernel_rfl) (by show(0≤bs.length);first|trivial|omega|(refine⟨?_, ?_⟩<;>first|omega|exact SM.nil)|simp) (fun x hok=> ?_)
   obtain⟨nV,mJ⟩:∃y,y=x:=⟨x,rfl⟩
   subst mJ
   replace hok:(nV≤bs.length):=hok
   have OM:=hok
   rcases aK (decide (((nV:Nat):Int)<((bs.length:Nat):Int))) with jX|jX
   ·
    have vM:=of_decide_eq_true jX
    obtain⟨e7,OO⟩:∃e,bs[nV]?=some e:=⟨bs[nV]'(by first|omega|(simp;omega)),List.getElem?_eq_getElem _⟩
    obtain⟨amd,r_8,rfl,afn⟩:=hb e7 (List.mem_of_getElem? OO)
    obtain⟨k_8,s_8,afo,afp,aj9,ame,amf⟩:=hform _ afn
    obtain rfl:r_8=[.int .u8 k_8,.str s_8,.sl afo,.sl afp]:=Tree.agg.inj aj9
    exact⟨.inl ⟨nV+1,⟨(by show(nV+1)≤bs.length;omega),(by show(bs.length - (nV+1))<(bs.length - nV);omega)⟩⟩,bB (f:=0) (n:=3000) (once:=[]) (k:=50) (T:=4) (S:=[.loc [0],.loc [1],.loc [2],.loc [3]]) (ks:=[.loc [0],.loc [1],.loc [2],.loc [3]]) (live:=[1,2,32,33]) ah ai [oB jX,oW true 5 bs FB,oH OO,oQ bs,oQ bs,oO (sC (m:=4) (i:=nV) (j:=1) (cu.lens FB) OO (by decide)),oC (bf sQ (x:=.agg [.int .u8 k_8,.str s_8,.sl afo,.sl afp]) afn),oW true 5 bs FB,oH OO,oQ bs,oQ bs,oR _ _ (Gb (j:=1) (m:=4) (cu.lens FB) OO (by decide)),oK (wB (j:=1) (m:=4) (cu.lens FB) OO (by decide)),oI (nV) (by omega),oN (o:=.arr (38,true) 4 false ((flat os).map .t)) (fun _=>bw),oN (o:=.arr (45,true) 5 false ((flat bs).map .t)) (fun _=>bw)] (by kernel_rfl)⟩
   ·
    have vM:=of_decide_eq_false jX
    refine kO ah ai [oB jX] (by kernel_rfl) ?_
    exact⟨(),kF ah ai [oW true 4 os M1,oW true 5 bs FB] (by kernel_rfl)⟩
end
end Go.Proofs.YtijfhoelihclbaaGreatDoor.w

namespace Go.Proofs.YtijfhoelihclbaaGreatDoor.w
open Go Go.Abs Go.Abs.Ty
set_option linter.unusedVariables false
set_option maxRecDepth 100000
set_option maxHeartbeats 2000000
noncomputable section
theorem Un {D:Tree→Prop}(hform:Form D){os:List Tree}(h:∀o∈os,D o):cu true 4 os:=fun o ho=>by
 obtain⟨k,s,o1,b1,rfl,_⟩:=hform o (h o ho)
 exact⟨rfl,rfl,rfl⟩
theorem ack {D:Tree→Prop}(hform:Form D){bs:List Tree}(h:RL D bs):cu true 5 bs:=fun e he=>by
 obtain⟨nm,r,rfl,hd⟩:=h e he
 obtain⟨k,s,o1,b1,er,_⟩:=hform _ hd
 obtain rfl:=Tree.agg.inj er
 exact⟨rfl,rfl,rfl⟩
theorem Kw (m:Int)(D:Tree→Prop)(hform:Form D)(hO:∀x,D x→R1 (cf m) 20 x x)(x:Tree)(hx:Step D x):R1 (cf m) 20 x x:=by
 obtain⟨k,s,os,bs,rfl,l1,l2,h1,h2⟩:=hx
 have u1:=Un hform h1
 have u2:=ack hform h2
 rcases os with _|⟨o,os⟩<;>rcases bs with _|⟨b,bs⟩
 · exact acg m D hform hO k s
 · exact ach m D hform hO k s _ (by simp) l2 h2 u2
 · exact aci m D hform hO k s _ (by simp) l1 h1 u1
 · exact acj m D hform hO k s _ (by simp) l1 h1 u1 _ (by simp) l2 h2 u2
theorem M3 (m:Int):∀n x,Dp n x→R1 (cf m) 20 x x
 |0,x,hx=>by subst hx;exact Kw m _ Ui (fun x h=>h.elim) gi step0
 |n+1,x,hx=>Kw m (Dp n) (Dp.OI n) (M3 m n) x hx
theorem BS {J:Tree→Tree→Tree×Int}:∀{xs ys l:List Tree} {x y:Tree},xs.length=ys.length→fh J xs ys=some l→fh J (xs++[x]) (ys++[y])=if(J (E9 x) (E9 y)).2=0∧uO x=uO y then some (l++[Xr (uO x) (J (E9 x) (E9 y)).1]) else none
  | [],[],l,x,y,_,h=>by
    simp only[fh,Option.some.injEq] at h
    subst h
    simp only[List.nil_append,fh]
    split<;>rfl
  | a ::xs,b::ys,l,x,y,hl,h=>by
    simp only[fh] at h
    split at h
    · rename_i hc
      cases hr:fh J xs ys with
      |none=>rw[hr] at h;simp at h
      | some l'=>
        rw[hr] at h
        simp only[Option.map_some,Option.some.injEq] at h
        subst h
        have ih:=BS (x:=x) (y:=y) (by simpa using hl) hr
        simp only[List.cons_append,fh,if_pos hc,ih]
        split<;>rfl
    · simp at h
  | [],_::_,_,_,_,hl,_=>by simp at hl
  |_::_,[],_,_,_,hl,_=>by simp at hl
theorem zB {J:Tree→Tree→Tree×Int}:∀{xs ys:List Tree} {n:Nat},xs.length=ys.length→fh J (xs.take n) (ys.take n)=none→fh J xs ys=none
  | [],[],n,_,h=>by simp[fh] at h
  |a::xs,b::ys,0,_,h=>by simp[fh] at h
  | a ::xs,b::ys,n+1,hl,h=>by
    simp only[List.take_succ_cons,fh] at h ⊢
    split at h
    · rename_i hc
      rw[if_pos hc]
      cases hr:fh J (xs.take n) (ys.take n) with
      |some l=>rw[hr] at h;simp at h
      |none=>rw[zB (by simpa using hl) hr];rfl
    · rename_i hc;rw[if_neg hc]
  | [],_::_,_,hl,_=>by simp at hl
  |_::_,[],_,hl,_=>by simp at hl
theorem BT {J:Tree→Tree→Tree×Int}{xs ys acc:List Tree}{i:Nat}{x y:Tree}(hl:xs.length=ys.length)(hx:xs[i]?=some x)(hy:ys[i]?=some y)(h:fh J (xs.take i) (ys.take i)=some acc):
  fh J (xs.take (i+1)) (ys.take (i+1))=if(J (E9 x) (E9 y)).2=0∧uO x=uO y then some (acc++[Xr (uO x) (J (E9 x) (E9 y)).1]) else none:=by
 rw[dL hx,dL hy]
 exact BS (by simp[hl]) h
theorem BU {J:Tree→Tree→Tree×Int}{xs ys acc:List Tree}{i:Nat}{n n2:List UInt8}{r r2 cs:List Tree}(hl:xs.length=ys.length)(hx:xs[i]?=some (.agg (.str n::r)))(hy:ys[i]?=some (.agg (.str n2::r2)))(h:fh J (xs.take i) (ys.take i)=some acc)
  (hw:(J (.agg r) (.agg r2)).2=0)(hn:n=n2)(e:(J (.agg r) (.agg r2)).1=.agg cs):fh J (xs.take (i+1)) (ys.take (i+1))=some (acc++[.agg (.str n::cs)]):=by
 rw[BT hl hx hy h]
 have:(J (E9 (.agg (.str n::r))) (E9 (.agg (.str n2::r2)))).2=0∧uO (.agg (.str n::r))=uO (.agg (.str n2::r2)):=⟨hw,hn⟩
 rw[if_pos this]
 show some (acc++[Xr n (J (.agg r) (.agg r2)).1])=_
 rw[e];rfl
theorem tP {J:Tree→Tree→Tree×Int}{xs ys acc:List Tree}{i:Nat}{n n2:List UInt8}{r r2:List Tree}(hl:xs.length=ys.length)(hx:xs[i]?=some (.agg (.str n::r)))(hy:ys[i]?=some (.agg (.str n2::r2)))(h:fh J (xs.take i) (ys.take i)=some acc)
  (hw:(J (.agg r) (.agg r2)).2≠0∨n≠n2):fh J xs ys=none:=zB (n:=i+1) hl (by
 rw[BT hl hx hy h]
 have:¬((J (E9 (.agg (.str n::r))) (E9 (.agg (.str n2::r2)))).2=0∧uO (.agg (.str n::r))=uO (.agg (.str n2::r2))):=fun q=>hw.elim (fun h=>h q.1) (fun h=>h q.2)
 rw[if_neg this])
theorem zC {J:Tree→Tree→Tree×Int}{xs ys acc:List Tree}{i:Nat}(hl:xs.length=ys.length)(hi:i=xs.length)(h:fh J (xs.take i) (ys.take i)=some acc):fh J xs ys=some acc:=by
 subst hi
 rwa [List.take_length,hl,List.take_length] at h
theorem YA      (m:Int)(D SD:Tree→Prop)(J:Tree→Tree→Tree×Int)(hform:Form D)(hJ:∀x y,D x→D y→R2 (cf m) 12 x y (.bX [(J x y).1,.int .i64 (J x y).2]))(hJf:∀x y,D x→D y→∃k s os bs,(J x y).1=aG k s os bs)
    (hO:∀x,SD x→R1 (cf m) 20 x x)(hOf:∀x,SD x→R1 (cf m) 46 x (s4 x))(k:Int)(s:List UInt8)(os bs:List Tree)(k2:Int)(s2:List UInt8)(eR ey:List Tree)(hs1:SD (aG k s os bs))(hs2:SD (aG k2 s2 eR ey))(Sm:D (s4 (aG k s os bs)))(BB:D (s4 (aG k2 s2 eR ey)))
    (lb:bs.length≤4194304)(lb2:ey.length≤4194304)(hb:RL D bs)(ZN:RL D ey):R2 (cf m) 12 (aG k s os bs) (aG k2 s2 eR ey) (.bX [(bQ J (aG k s os bs) (aG k2 s2 eR ey)).1,.int .i64 (bQ J (aG k s os bs) (aG k2 s2 eR ey)).2]):=by
  obtain⟨ev,ai,sQ,Fe,vN⟩:∃ev,aF (cf m) ev∧Has ev 20 (jP SD (fun x=>x))∧Has ev 46 (jP SD s4)∧Has ev 12 (r7 (fun x y=>D x∧D y) fun x y=>.bX [(J x y).1,.int .i64 (J x y).2]):=⟨_,(ax (bp hO) (ax (bp hOf) (ax (dH fun x y h=>hJ x y h.1 h.2) aH))),az,(aj rfl az),(aj rfl (aj rfl az))⟩
  refine ay.fu ?_
  refine AX.start 129 2 Tryz.func12 rfl (by decide) rfl rfl (by decide) ?_
  refine AX.frames ?_
  rcases aK ((k2==0)) with hc1|hc1
  ·
   have Be:=eq_of_beq hc1
   rcases aK ((k==0)) with bD|bD
   ·
    have gM:=eq_of_beq bD
    have hres:bQ J (aG k s os bs) (aG k2 s2 eR ey)=(.agg [.int .u8 0,.str [],.sl [],.sl []],0):=by
      rw[eO]
      rw[if_pos (eq_of_beq hc1)]
      rw[if_pos (eq_of_beq bD)]
      rfl
    show ∃_:Unit,KE (cf m) (cB (cf m) _ 0 (.ret (.t (.bX [(bQ J (aG k s os bs) (aG k2 s2 eR ey)).1,.int .i64 (bQ J (aG k s os bs) (aG k2 s2 eR ey)).2])) [] [])) _ _ _
    rw[hres]
    exact⟨(),kF ah ai [oB hc1,oB bD] (by kernel_rfl)⟩
   ·
    have gM:=ne_of_beq_false bD
    have hres:bQ J (aG k s os bs) (aG k2 s2 eR ey)=(.agg [.int .u8 k,.str s,.sl os,.sl bs],0):=by
      rw[eO]
      rw[if_pos (eq_of_beq hc1)]
      rw[if_neg (ne_of_beq_false bD)]
      rfl
    show ∃_:Unit,KE (cf m) (cB (cf m) _ 0 (.ret (.t (.bX [(bQ J (aG k s os bs) (aG k2 s2 eR ey)).1,.int .i64 (bQ J (aG k s os bs) (aG k2 s2 eR ey)).2])) [] [])) _ _ _
    rw[hres]
    exact⟨(),kF ah ai [oB hc1,oB bD,oB hc1,oC (bf sQ (x:=.agg [.int .u8 k,.str s,.sl os,.sl bs]) hs1)] (by kernel_rfl)⟩
  ·
   have Be:=ne_of_beq_false hc1
   rcases aK ((k==0)) with bM|bM
   ·
    have lF:=eq_of_beq bM
    have hres:bQ J (aG k s os bs) (aG k2 s2 eR ey)=(.agg [.int .u8 k2,.str s2,.sl eR,.sl ey],0):=by
      rw[eO]
      rw[if_neg (ne_of_beq_false hc1)]
      rw[if_pos (eq_of_beq bM)]
      rfl
    show ∃_:Unit,KE (cf m) (cB (cf m) _ 0 (.ret (.t (.bX [(bQ J (aG k s os bs) (aG k2 s2 eR ey)).1,.int .i64 (bQ J (aG k s os bs) (aG k2 s2 eR ey)).2])) [] [])) _ _ _
    rw[hres]
    exact⟨(),kF ah ai [oB hc1,oB hc1,oB bM,oC (bf sQ (x:=.agg [.int .u8 k2,.str s2,.sl eR,.sl ey]) hs2)] (by kernel_rfl)⟩
   ·
    have lF:=ne_of_beq_false bM
    rcases aK ((k != k2)) with hg4|hg4
    ·
     have D4:=aA hg4
     have hres:bQ J (aG k s os bs) (aG k2 s2 eR ey)=(.agg [.int .u8 0,.str [],.sl [],.sl []],7):=by
       rw[eO]
       rw[if_neg (ne_of_beq_false hc1)]
       rw[if_neg (ne_of_beq_false bM)]
       rw[fH]
       rw[if_pos (.inl (aA hg4))]
       rfl
     show ∃_:Unit,KE (cf m) (cB (cf m) _ 0 (.ret (.t (.bX [(bQ J (aG k s os bs) (aG k2 s2 eR ey)).1,.int .i64 (bQ J (aG k s os bs) (aG k2 s2 eR ey)).2])) [] [])) _ _ _
     rw[hres]
     exact⟨(),kF ah ai [oB hc1,oB hc1,oB bM,oB hg4,oB hg4,oB hg4,oB hg4,oT,oT,oT,oT,oT,oT,oT,oT,oT,oT,oT] (by kernel_rfl)⟩
    ·
     have D4:=aq hg4
     rcases aK (decide (k≥7)) with bu|bu
     ·
      have HU:=of_decide_eq_true bu
      have hres:bQ J (aG k s os bs) (aG k2 s2 eR ey)=(.agg [.int .u8 0,.str [],.sl [],.sl []],7):=by
        rw[eO]
        rw[if_neg (ne_of_beq_false hc1)]
        rw[if_neg (ne_of_beq_false bM)]
        rw[fH]
        rw[if_pos (.inr (.inl (of_decide_eq_true bu)))]
        rfl
      show ∃_:Unit,KE (cf m) (cB (cf m) _ 0 (.ret (.t (.bX [(bQ J (aG k s os bs) (aG k2 s2 eR ey)).1,.int .i64 (bQ J (aG k s os bs) (aG k2 s2 eR ey)).2])) [] [])) _ _ _
      rw[hres]
      exact⟨(),kF ah ai [oB hc1,oB hc1,oB bM,oB hg4,oB hg4,oB hg4,oB hg4,oB bu,oB bu,oB bu,oB bu,oB bu,oB bu,oB bu,oB bu,oB bu,oB bu,oT] (by kernel_rfl)⟩
     ·
      have HU:=of_decide_eq_false bu
      rcases aK ((((bs.length:Nat):Int) !=((ey.length:Nat):Int))) with gh|gh
      ·
       have acm:=aA gh
       rcases aK ((k==6)) with uE|uE
       ·
        have M4:=eq_of_beq uE
        have hres:bQ J (aG k s os bs) (aG k2 s2 eR ey)=(.agg [.int .u8 0,.str [],.sl [],.sl []],7):=by
          rw[eO]
          rw[if_neg (ne_of_beq_false hc1)]
          rw[if_neg (ne_of_beq_false bM)]
          rw[fH]
          rw[if_pos (.inr (.inr ⟨fun e=>aA gh (by rw[e]),eq_of_beq uE⟩))]
          rfl
        show ∃_:Unit,KE (cf m) (cB (cf m) _ 0 (.ret (.t (.bX [(bQ J (aG k s os bs) (aG k2 s2 eR ey)).1,.int .i64 (bQ J (aG k s os bs) (aG k2 s2 eR ey)).2])) [] [])) _ _ _
        rw[hres]
        exact⟨(),kF ah ai [oB hc1,oB hc1,oB bM,oB hg4,oB hg4,oB hg4,oB hg4,oB bu,oB bu,oB bu,oB bu,oB bu,oB bu,oB bu,oB bu,oB gh,oB gh,oB gh,oB bu,oB gh,oB bu,oB uE] (by kernel_rfl)⟩
       ·
        have M4:=ne_of_beq_false uE
        rcases aK ((k==4)) with gp|gp
        ·
         have xQ:=eq_of_beq gp
         rcases aK ((s==s2)) with rN|rN
         ·
          have D5:=eq_of_beq rN
          have hres:bQ J (aG k s os bs) (aG k2 s2 eR ey)=(.agg [.int .u8 k,.str s,.sl [],.sl []],0):=by
            rw[eO]
            rw[if_neg (ne_of_beq_false hc1)]
            rw[if_neg (ne_of_beq_false bM)]
            rw[fH]
            rw[if_neg (fun h=>h.elim (fun h=>h (aq hg4)) (fun h=>h.elim (fun h=>of_decide_eq_false bu h) (fun h=>ne_of_beq_false uE h.2)))]
            rw[if_pos (eq_of_beq gp),if_pos (eq_of_beq rN)]
            rw[eq_of_beq gp];rfl
          show ∃_:Unit,KE (cf m) (cB (cf m) _ 0 (.ret (.t (.bX [(bQ J (aG k s os bs) (aG k2 s2 eR ey)).1,.int .i64 (bQ J (aG k s os bs) (aG k2 s2 eR ey)).2])) [] [])) _ _ _
          rw[hres]
          exact⟨(),kF ah ai [oB hc1,oB hc1,oB bM,oB hg4,oB hg4,oB hg4,oB hg4,oB bu,oB bu,oB bu,oB bu,oB bu,oB bu,oB bu,oB bu,oB gh,oB gh,oB gh,oB bu,oB gh,oB bu,oB uE,oB gp,oB rN] (by kernel_rfl)⟩
         ·
          have D5:=ne_of_beq_false rN
          have hres:bQ J (aG k s os bs) (aG k2 s2 eR ey)=(.agg [.int .u8 k,.str [],.sl [],.sl []],0):=by
            rw[eO]
            rw[if_neg (ne_of_beq_false hc1)]
            rw[if_neg (ne_of_beq_false bM)]
            rw[fH]
            rw[if_neg (fun h=>h.elim (fun h=>h (aq hg4)) (fun h=>h.elim (fun h=>of_decide_eq_false bu h) (fun h=>ne_of_beq_false uE h.2)))]
            rw[if_pos (eq_of_beq gp),if_neg (ne_of_beq_false rN)]
            rw[eq_of_beq gp];rfl
          show ∃_:Unit,KE (cf m) (cB (cf m) _ 0 (.ret (.t (.bX [(bQ J (aG k s os bs) (aG k2 s2 eR ey)).1,.int .i64 (bQ J (aG k s os bs) (aG k2 s2 eR ey)).2])) [] [])) _ _ _
          rw[hres]
          exact⟨(),kF ah ai [oB hc1,oB hc1,oB bM,oB hg4,oB hg4,oB hg4,oB hg4,oB bu,oB bu,oB bu,oB bu,oB bu,oB bu,oB bu,oB bu,oB gh,oB gh,oB gh,oB bu,oB gh,oB bu,oB uE,oB gp,oB rN] (by kernel_rfl)⟩
        ·
         have xQ:=ne_of_beq_false gp
         rcases aK ((k==5)) with l6|l6
         ·
          have Uo:=eq_of_beq l6
          obtain⟨afq,afr,aad,aae,afs⟩:=hJf _ _ Sm BB
          have aaf:(J (s4 (.agg [.int .u8 k,.str s,.sl os,.sl bs])) (s4 (.agg [.int .u8 k2,.str s2,.sl eR,.sl ey]))).1=.agg [.int .u8 afq,.str afr,.sl aad,.sl aae]:=afs
          obtain⟨aft,OQ⟩:∃w,(J (s4 (.agg [.int .u8 k,.str s,.sl os,.sl bs])) (s4 (.agg [.int .u8 k2,.str s2,.sl eR,.sl ey]))).2=w:=⟨_,rfl⟩
          have Up:=dm vN (x:=(s4 (.agg [.int .u8 k,.str s,.sl os,.sl bs]))) (y:=(s4 (.agg [.int .u8 k2,.str s2,.sl eR,.sl ey]))) ⟨Sm,BB⟩
          rw[aaf,OQ] at Up
          rcases aK ((aft != 0)) with iB|iB
          ·
           have qD:=aA iB
           have hres:bQ J (aG k s os bs) (aG k2 s2 eR ey)=(.agg [.int .u8 0,.str [],.sl [],.sl []],aft):=by
             rw[eO]
             rw[if_neg (ne_of_beq_false hc1)]
             rw[if_neg (ne_of_beq_false bM)]
             rw[fH]
             rw[if_neg (fun h=>h.elim (fun h=>h (aq hg4)) (fun h=>h.elim (fun h=>of_decide_eq_false bu h) (fun h=>ne_of_beq_false uE h.2)))]
             rw[if_neg (ne_of_beq_false gp),if_pos (eq_of_beq l6)]
             exact(if_neg (fun h=>aA iB (OQ.symm.trans h))).trans (congrArg (fun z=>(gi,z)) OQ)
           show ∃_:Unit,KE (cf m) (cB (cf m) _ 0 (.ret (.t (.bX [(bQ J (aG k s os bs) (aG k2 s2 eR ey)).1,.int .i64 (bQ J (aG k s os bs) (aG k2 s2 eR ey)).2])) [] [])) _ _ _
           rw[hres]
           exact⟨(),kF ah ai [oB hc1,oB hc1,oB bM,oB hg4,oB hg4,oB hg4,oB hg4,oB bu,oB bu,oB bu,oB bu,oB bu,oB bu,oB bu,oB bu,oB gh,oB gh,oB gh,oB bu,oB gh,oB bu,oB uE,oB gp,oB l6,oC (bf Fe (x:=.agg [.int .u8 k,.str s,.sl os,.sl bs]) hs1),oC (bf Fe (x:=.agg [.int .u8 k2,.str s2,.sl eR,.sl ey]) hs2),oC Up,oB iB] (by kernel_rfl)⟩
          ·
           have qD:=aq iB
           have hres:bQ J (aG k s os bs) (aG k2 s2 eR ey)=(.agg [.int .u8 k,.str [],.sl [.agg [.int .u8 afq,.str afr,.sl aad,.sl aae]],.sl []],0):=by
             rw[eO]
             rw[if_neg (ne_of_beq_false hc1)]
             rw[if_neg (ne_of_beq_false bM)]
             rw[fH]
             rw[if_neg (fun h=>h.elim (fun h=>h (aq hg4)) (fun h=>h.elim (fun h=>of_decide_eq_false bu h) (fun h=>ne_of_beq_false uE h.2)))]
             rw[if_neg (ne_of_beq_false gp),if_pos (eq_of_beq l6)]
             refine(if_pos (OQ.trans (aq iB))).trans ?_;rw[show(J (s4 (aG k s os bs)) (s4 (aG k2 s2 eR ey))).1=_ from aaf,eq_of_beq l6];rfl
           show ∃_:Unit,KE (cf m) (cB (cf m) _ 0 (.ret (.t (.bX [(bQ J (aG k s os bs) (aG k2 s2 eR ey)).1,.int .i64 (bQ J (aG k s os bs) (aG k2 s2 eR ey)).2])) [] [])) _ _ _
           rw[hres]
           exact⟨(),kF ah ai [oB hc1,oB hc1,oB bM,oB hg4,oB hg4,oB hg4,oB hg4,oB bu,oB bu,oB bu,oB bu,oB bu,oB bu,oB bu,oB bu,oB gh,oB gh,oB gh,oB bu,oB gh,oB bu,oB uE,oB gp,oB l6,oC (bf Fe (x:=.agg [.int .u8 k,.str s,.sl os,.sl bs]) hs1),oC (bf Fe (x:=.agg [.int .u8 k2,.str s2,.sl eR,.sl ey]) hs2),oC Up,oB iB] (by kernel_rfl)⟩
         ·
          have Uo:=ne_of_beq_false l6
          have hres:bQ J (aG k s os bs) (aG k2 s2 eR ey)=(.agg [.int .u8 k,.str [],.sl [],.sl []],0):=by
            rw[eO]
            rw[if_neg (ne_of_beq_false hc1)]
            rw[if_neg (ne_of_beq_false bM)]
            rw[fH]
            rw[if_neg (fun h=>h.elim (fun h=>h (aq hg4)) (fun h=>h.elim (fun h=>of_decide_eq_false bu h) (fun h=>ne_of_beq_false uE h.2)))]
            rw[if_neg (ne_of_beq_false gp),if_neg (ne_of_beq_false l6),if_neg (ne_of_beq_false uE)];rfl
          show ∃_:Unit,KE (cf m) (cB (cf m) _ 0 (.ret (.t (.bX [(bQ J (aG k s os bs) (aG k2 s2 eR ey)).1,.int .i64 (bQ J (aG k s os bs) (aG k2 s2 eR ey)).2])) [] [])) _ _ _
          rw[hres]
          exact⟨(),kF ah ai [oB hc1,oB hc1,oB bM,oB hg4,oB hg4,oB hg4,oB hg4,oB bu,oB bu,oB bu,oB bu,oB bu,oB bu,oB bu,oB bu,oB gh,oB gh,oB gh,oB bu,oB gh,oB bu,oB uE,oB gp,oB l6,oB uE] (by kernel_rfl)⟩
      ·
       have acm:=aq gh
       have hlen:bs.length=ey.length:=by have:=aq gh;omega
       rcases aK ((k==4)) with jk|jk
       ·
        have D6:=eq_of_beq jk
        rcases aK ((s==s2)) with xR|xR
        ·
         have Uq:=eq_of_beq xR
         have hres:bQ J (aG k s os bs) (aG k2 s2 eR ey)=(.agg [.int .u8 k,.str s,.sl [],.sl []],0):=by
           rw[eO]
           rw[if_neg (ne_of_beq_false hc1)]
           rw[if_neg (ne_of_beq_false bM)]
           rw[fH]
           rw[if_neg (fun h=>h.elim (fun h=>h (aq hg4)) (fun h=>h.elim (fun h=>of_decide_eq_false bu h) (fun h=>h.1 (by have:=aq gh;omega))))]
           rw[if_pos (eq_of_beq jk),if_pos (eq_of_beq xR)]
           rw[eq_of_beq jk];rfl
         show ∃_:Unit,KE (cf m) (cB (cf m) _ 0 (.ret (.t (.bX [(bQ J (aG k s os bs) (aG k2 s2 eR ey)).1,.int .i64 (bQ J (aG k s os bs) (aG k2 s2 eR ey)).2])) [] [])) _ _ _
         rw[hres]
         exact⟨(),kF ah ai [oB hc1,oB hc1,oB bM,oB hg4,oB hg4,oB hg4,oB hg4,oB bu,oB bu,oB bu,oB bu,oB bu,oB bu,oB bu,oB bu,oB gh,oB gh,oB gh,oB bu,oB gh,oB bu,oF,oB jk,oB xR] (by kernel_rfl)⟩
        ·
         have Uq:=ne_of_beq_false xR
         have hres:bQ J (aG k s os bs) (aG k2 s2 eR ey)=(.agg [.int .u8 k,.str [],.sl [],.sl []],0):=by
           rw[eO]
           rw[if_neg (ne_of_beq_false hc1)]
           rw[if_neg (ne_of_beq_false bM)]
           rw[fH]
           rw[if_neg (fun h=>h.elim (fun h=>h (aq hg4)) (fun h=>h.elim (fun h=>of_decide_eq_false bu h) (fun h=>h.1 (by have:=aq gh;omega))))]
           rw[if_pos (eq_of_beq jk),if_neg (ne_of_beq_false xR)]
           rw[eq_of_beq jk];rfl
         show ∃_:Unit,KE (cf m) (cB (cf m) _ 0 (.ret (.t (.bX [(bQ J (aG k s os bs) (aG k2 s2 eR ey)).1,.int .i64 (bQ J (aG k s os bs) (aG k2 s2 eR ey)).2])) [] [])) _ _ _
         rw[hres]
         exact⟨(),kF ah ai [oB hc1,oB hc1,oB bM,oB hg4,oB hg4,oB hg4,oB hg4,oB bu,oB bu,oB bu,oB bu,oB bu,oB bu,oB bu,oB bu,oB gh,oB gh,oB gh,oB bu,oB gh,oB bu,oF,oB jk,oB xR] (by kernel_rfl)⟩
       ·
        have D6:=ne_of_beq_false jk
        rcases aK ((k==5)) with fD|fD
        ·
         have Ur:=eq_of_beq fD
         obtain⟨afu,afv,aag,aah,afw⟩:=hJf _ _ Sm BB
         have aai:(J (s4 (.agg [.int .u8 k,.str s,.sl os,.sl bs])) (s4 (.agg [.int .u8 k2,.str s2,.sl eR,.sl ey]))).1=.agg [.int .u8 afu,.str afv,.sl aag,.sl aah]:=afw
         obtain⟨afx,OS⟩:∃w,(J (s4 (.agg [.int .u8 k,.str s,.sl os,.sl bs])) (s4 (.agg [.int .u8 k2,.str s2,.sl eR,.sl ey]))).2=w:=⟨_,rfl⟩
         have Us:=dm vN (x:=(s4 (.agg [.int .u8 k,.str s,.sl os,.sl bs]))) (y:=(s4 (.agg [.int .u8 k2,.str s2,.sl eR,.sl ey]))) ⟨Sm,BB⟩
         rw[aai,OS] at Us
         rcases aK ((afx != 0)) with zD|zD
         ·
          have Ut:=aA zD
          have hres:bQ J (aG k s os bs) (aG k2 s2 eR ey)=(.agg [.int .u8 0,.str [],.sl [],.sl []],afx):=by
            rw[eO]
            rw[if_neg (ne_of_beq_false hc1)]
            rw[if_neg (ne_of_beq_false bM)]
            rw[fH]
            rw[if_neg (fun h=>h.elim (fun h=>h (aq hg4)) (fun h=>h.elim (fun h=>of_decide_eq_false bu h) (fun h=>h.1 (by have:=aq gh;omega))))]
            rw[if_neg (ne_of_beq_false jk),if_pos (eq_of_beq fD)]
            exact(if_neg (fun h=>aA zD (OS.symm.trans h))).trans (congrArg (fun z=>(gi,z)) OS)
          show ∃_:Unit,KE (cf m) (cB (cf m) _ 0 (.ret (.t (.bX [(bQ J (aG k s os bs) (aG k2 s2 eR ey)).1,.int .i64 (bQ J (aG k s os bs) (aG k2 s2 eR ey)).2])) [] [])) _ _ _
          rw[hres]
          exact⟨(),kF ah ai [oB hc1,oB hc1,oB bM,oB hg4,oB hg4,oB hg4,oB hg4,oB bu,oB bu,oB bu,oB bu,oB bu,oB bu,oB bu,oB bu,oB gh,oB gh,oB gh,oB bu,oB gh,oB bu,oF,oB jk,oB fD,oC (bf Fe (x:=.agg [.int .u8 k,.str s,.sl os,.sl bs]) hs1),oC (bf Fe (x:=.agg [.int .u8 k2,.str s2,.sl eR,.sl ey]) hs2),oC Us,oB zD] (by kernel_rfl)⟩
         ·
          have Ut:=aq zD
          have hres:bQ J (aG k s os bs) (aG k2 s2 eR ey)=(.agg [.int .u8 k,.str [],.sl [.agg [.int .u8 afu,.str afv,.sl aag,.sl aah]],.sl []],0):=by
            rw[eO]
            rw[if_neg (ne_of_beq_false hc1)]
            rw[if_neg (ne_of_beq_false bM)]
            rw[fH]
            rw[if_neg (fun h=>h.elim (fun h=>h (aq hg4)) (fun h=>h.elim (fun h=>of_decide_eq_false bu h) (fun h=>h.1 (by have:=aq gh;omega))))]
            rw[if_neg (ne_of_beq_false jk),if_pos (eq_of_beq fD)]
            refine(if_pos (OS.trans (aq zD))).trans ?_;rw[show(J (s4 (aG k s os bs)) (s4 (aG k2 s2 eR ey))).1=_ from aai,eq_of_beq fD];rfl
          show ∃_:Unit,KE (cf m) (cB (cf m) _ 0 (.ret (.t (.bX [(bQ J (aG k s os bs) (aG k2 s2 eR ey)).1,.int .i64 (bQ J (aG k s os bs) (aG k2 s2 eR ey)).2])) [] [])) _ _ _
          rw[hres]
          exact⟨(),kF ah ai [oB hc1,oB hc1,oB bM,oB hg4,oB hg4,oB hg4,oB hg4,oB bu,oB bu,oB bu,oB bu,oB bu,oB bu,oB bu,oB bu,oB gh,oB gh,oB gh,oB bu,oB gh,oB bu,oF,oB jk,oB fD,oC (bf Fe (x:=.agg [.int .u8 k,.str s,.sl os,.sl bs]) hs1),oC (bf Fe (x:=.agg [.int .u8 k2,.str s2,.sl eR,.sl ey]) hs2),oC Us,oB zD] (by kernel_rfl)⟩
        ·
         have Ur:=ne_of_beq_false fD
         rcases aK ((k==6)) with k6|k6
         ·
          have D7:=eq_of_beq k6
          refine eo (f:=0) (n:=3000) (once:=[]) (k:=129) (T:=3) (S:=[.loc [1],.loc [2],.loc [16]]) (ks:=[.loc [1],.loc [2],.loc [16]]) (live:=[3,4,6,88,89,90]) ah ai (α:=Nat×List Tree) (fun x=>(match x.2 with| []=>⟨bH 129 [(3,.ptr (.loc [0]) 0),(4,.ptr (.loc [1]) 0),(6,.ptr (.loc [2]) 0),(88,.t (.sl bs)),(89,.t (.int .i64 ((bs.length:Nat):Int))),(90,.t (.int .i64 ((x.1:Nat):Int)))],[(.loc [0],.cells 38 [.t (.int .u8 k2),.t (.str s2),.t (.sl eR),.t (.sl ey)]),(.loc [1],.cells 38 [.t (.int .u8 0),.t (.str []),.aL,.aL]),(.loc [2],.cells 38 [.t (.int .u8 k),.t (.str []),.aL,.aL])],3⟩|_::_=>⟨bH 129 [(3,.ptr (.loc [0]) 0),(4,.ptr (.loc [1]) 0),(6,.ptr (.loc [2]) 0),(88,.t (.sl bs)),(89,.t (.int .i64 ((bs.length:Nat):Int))),(90,.t (.int .i64 ((x.1:Nat):Int)))],[(.loc [0],.cells 38 [.t (.int .u8 k2),.t (.str s2),.t (.sl eR),.t (.sl ey)]),(.loc [1],.cells 38 [.t (.int .u8 0),.t (.str []),.aL,.aL]),(.loc [2],.cells 38 [.t (.int .u8 k),.t (.str []),.aL,.ref (.loc [3]) 0 x.2.length]),(.loc [3],.arr (45,true) 5 false ((flat x.2).map .t))],4⟩)) (fun x=>(x.1≤bs.length)∧(fh J (bs.take x.1) (ey.take x.1)=some x.2)∧(cu true 5 x.2)∧(x.2.length≤x.1)) (fun x=>bs.length - x.1) (⟨0,[]⟩) (iA (Tryz.f12.body.getD .skip) 21) [oB hc1,oB hc1,oB bM,oB hg4,oB hg4,oB hg4,oB hg4,oB bu,oB bu,oB bu,oB bu,oB bu,oB bu,oB bu,oB bu,oB gh,oB gh,oB gh,oB bu,oB gh,oB bu,oF,oB jk,oB fD,oB k6] (by kernel_rfl) ⟨Nat.zero_le _,rfl,cu.nil,Nat.le_refl _⟩ (fun x hok=> ?_)
          obtain⟨ow,HV⟩:=x
          replace hok:(ow≤bs.length)∧(fh J (bs.take ow) (ey.take ow)=some HV)∧(cu true 5 HV)∧(HV.length≤ow):=hok
          obtain⟨afy,ox,D8,afz⟩:=hok
          rcases HV with _|⟨D9,Ea⟩
          ·
           rcases aK (decide (((ow:Nat):Int)<((bs.length:Nat):Int))) with M5|M5
           ·
            have afA:=of_decide_eq_true M5
            obtain⟨e21,M6⟩:∃e,bs[ow]?=some e:=⟨bs[ow]'(by first|omega|(simp;omega)),List.getElem?_eq_getElem _⟩
            obtain⟨Gj,aka,rfl,Uu⟩:=hb e21 (List.mem_of_getElem? M6)
            obtain⟨YB,YC,OT,OU,afB,alL,alM⟩:=hform _ Uu
            obtain rfl:aka=[.int .u8 YB,.str YC,.sl OT,.sl OU]:=Tree.agg.inj afB
            obtain⟨e23,qE⟩:∃e,ey[ow]?=some e:=⟨ey[ow]'(by first|omega|(simp;omega)),List.getElem?_eq_getElem _⟩
            obtain⟨afC,akb,rfl,Eb⟩:=ZN e23 (List.mem_of_getElem? qE)
            obtain⟨M7,vO,Ec,Ed,afD,afE,afF⟩:=hform _ Eb
            obtain rfl:akb=[.int .u8 M7,.str vO,.sl Ec,.sl Ed]:=Tree.agg.inj afD
            obtain⟨Q9,Ra,Gk,Gl,afG⟩:=hJf _ _ Uu Eb
            have aaj:(J (.agg [.int .u8 YB,.str YC,.sl OT,.sl OU]) (.agg [.int .u8 M7,.str vO,.sl Ec,.sl Ed])).1=.agg [.int .u8 Q9,.str Ra,.sl Gk,.sl Gl]:=afG
            obtain⟨akc,Uv⟩:∃w,(J (.agg [.int .u8 YB,.str YC,.sl OT,.sl OU]) (.agg [.int .u8 M7,.str vO,.sl Ec,.sl Ed])).2=w:=⟨_,rfl⟩
            have OV:=dm vN (x:=(.agg [.int .u8 YB,.str YC,.sl OT,.sl OU])) (y:=(.agg [.int .u8 M7,.str vO,.sl Ec,.sl Ed])) ⟨Uu,Eb⟩
            rw[aaj,Uv] at OV
            rcases aK ((akc != 0)) with jG|jG
            ·
             have Uw:=aA jG
             refine kO ah ai [oB M5,oE M6,oE qE,oC OV,oB jG,oB jG,oB jG,oB jG,oB jG,oB jG,oT] (by kernel_rfl) ?_
             have hres:bQ J (aG k s os bs) (aG k2 s2 eR ey)=(.agg [.int .u8 0,.str [],.sl [],.sl []],7):=by
               rw[eO]
               rw[if_neg (ne_of_beq_false hc1)]
               rw[if_neg (ne_of_beq_false bM)]
               rw[fH]
               rw[if_neg (fun h=>h.elim (fun h=>h (aq hg4)) (fun h=>h.elim (fun h=>of_decide_eq_false bu h) (fun h=>h.1 (by have:=aq gh;omega))))]
               rw[if_neg (ne_of_beq_false jk),if_neg (ne_of_beq_false fD),if_pos (eq_of_beq k6)]
               rw[tP hlen M6 qE ox (.inl (fun h=>aA jG (Uv.symm.trans h)))];rfl
             show ∃_:Unit,KE (cf m) (cB (cf m) _ 0 (.ret (.t (.bX [(bQ J (aG k s os bs) (aG k2 s2 eR ey)).1,.int .i64 (bQ J (aG k s os bs) (aG k2 s2 eR ey)).2])) [] [])) _ _ _
             rw[hres]
             exact⟨(),kF ah ai [] (by kernel_rfl)⟩
            ·
             have Uw:=aq jG
             rcases aK ((!(Gj==afC))) with uL|uL
             ·
              have Ky:=ne_of_beq_false (fJ uL)
              refine kO ah ai [oB M5,oE M6,oE qE,oC OV,oB jG,oB jG,oB jG,oB jG,oB jG,oB jG,oB uL] (by kernel_rfl) ?_
              have hres:bQ J (aG k s os bs) (aG k2 s2 eR ey)=(.agg [.int .u8 0,.str [],.sl [],.sl []],7):=by
                rw[eO]
                rw[if_neg (ne_of_beq_false hc1)]
                rw[if_neg (ne_of_beq_false bM)]
                rw[fH]
                rw[if_neg (fun h=>h.elim (fun h=>h (aq hg4)) (fun h=>h.elim (fun h=>of_decide_eq_false bu h) (fun h=>h.1 (by have:=aq gh;omega))))]
                rw[if_neg (ne_of_beq_false jk),if_neg (ne_of_beq_false fD),if_pos (eq_of_beq k6)]
                rw[tP hlen M6 qE ox (.inr (ne_of_beq_false (fJ uL)))];rfl
              show ∃_:Unit,KE (cf m) (cB (cf m) _ 0 (.ret (.t (.bX [(bQ J (aG k s os bs) (aG k2 s2 eR ey)).1,.int .i64 (bQ J (aG k s os bs) (aG k2 s2 eR ey)).2])) [] [])) _ _ _
              rw[hres]
              exact⟨(),kF ah ai [] (by kernel_rfl)⟩
             ·
              have Ky:=eq_of_beq (dJ uL)
              exact⟨.inl ⟨⟨ow+1,([.agg [.str Gj,.int .u8 Q9,.str Ra,.sl Gk,.sl Gl]]:List Tree)⟩,⟨⟨(by show(ow+1)≤bs.length;omega),(BU hlen M6 qE ox (Uv.trans (aq jG)) (eq_of_beq (dJ uL)) aaj),(by exact(cu.cons ⟨rfl,rfl,rfl⟩ .nil)),(by show([.agg [.str Gj,.int .u8 Q9,.str Ra,.sl Gk,.sl Gl]]:List Tree).length≤(ow+1);first|omega|(simp only[List.length_append,List.length_cons,List.length_nil,List.length_singleton] at*;omega)|(simp;done)|(simp;omega))⟩,(by show(bs.length - (ow+1))<(bs.length - ow);omega)⟩⟩,bB (f:=0) (n:=3000) (once:=[]) (k:=129) (T:=4) (S:=[.loc [0],.loc [1],.loc [2],.loc [44]]) (ks:=[.loc [0],.loc [1],.loc [2],.loc [44]]) (live:=[3,4,6,88,89,90]) ah ai [oB M5,oE M6,oE qE,oC OV,oB jG,oB jG,oB jG,oB jG,oB jG,oB jG,oB uL,oU true 5 ([.agg [.str Gj,.int .u8 Q9,.str Ra,.sl Gk,.sl Gl]]:List Tree) (cu.cons ⟨rfl,rfl,rfl⟩ cu.nil) (by simp),oA (([.agg [.str Gj,.int .u8 Q9,.str Ra,.sl Gk,.sl Gl]]:List Tree).length*88) (by first|omega|(simp only[List.length_append,List.length_cons,List.length_nil,List.length_singleton] at*;omega)|(simp;done)|(simp;omega)),oI (ow) (by omega),oN (o:=.arr (45,true) 5 false ((flat ([.agg [.str Gj,.int .u8 Q9,.str Ra,.sl Gk,.sl Gl]]:List Tree)).map .t)) (fun _=>bw)] (by kernel_rfl)⟩
           ·
            have afA:=of_decide_eq_false M5
            refine kO ah ai [oB M5] (by kernel_rfl) ?_
            have hres:bQ J (aG k s os bs) (aG k2 s2 eR ey)=(.agg [.int .u8 k,.str [],.sl [],.sl []],0):=by
              rw[eO]
              rw[if_neg (ne_of_beq_false hc1)]
              rw[if_neg (ne_of_beq_false bM)]
              rw[fH]
              rw[if_neg (fun h=>h.elim (fun h=>h (aq hg4)) (fun h=>h.elim (fun h=>of_decide_eq_false bu h) (fun h=>h.1 (by have:=aq gh;omega))))]
              rw[if_neg (ne_of_beq_false jk),if_neg (ne_of_beq_false fD),if_pos (eq_of_beq k6)]
              rw[zC hlen (by omega) ox,eq_of_beq k6];rfl
            show ∃_:Unit,KE (cf m) (cB (cf m) _ 0 (.ret (.t (.bX [(bQ J (aG k s os bs) (aG k2 s2 eR ey)).1,.int .i64 (bQ J (aG k s os bs) (aG k2 s2 eR ey)).2])) [] [])) _ _ _
            rw[hres]
            exact⟨(),kF ah ai [] (by kernel_rfl)⟩
          ·
           rcases aK (decide (((ow:Nat):Int)<((bs.length:Nat):Int))) with je|je
           ·
            have Kz:=of_decide_eq_true je
            obtain⟨e29,Bf⟩:∃e,bs[ow]?=some e:=⟨bs[ow]'(by first|omega|(simp;omega)),List.getElem?_eq_getElem _⟩
            obtain⟨Gm,akd,rfl,Ux⟩:=hb e29 (List.mem_of_getElem? Bf)
            obtain⟨YD,YE,OW,OX,afH,alN,alO⟩:=hform _ Ux
            obtain rfl:akd=[.int .u8 YD,.str YE,.sl OW,.sl OX]:=Tree.agg.inj afH
            obtain⟨e31,Ee⟩:∃e,ey[ow]?=some e:=⟨ey[ow]'(by first|omega|(simp;omega)),List.getElem?_eq_getElem _⟩
            obtain⟨afI,ake,rfl,Uy⟩:=ZN e31 (List.mem_of_getElem? Ee)
            obtain⟨YF,YG,OY,OZ,afJ,alP,alQ⟩:=hform _ Uy
            obtain rfl:ake=[.int .u8 YF,.str YG,.sl OY,.sl OZ]:=Tree.agg.inj afJ
            obtain⟨HX,HY,zF,zG,afK⟩:=hJf _ _ Ux Uy
            have aak:(J (.agg [.int .u8 YD,.str YE,.sl OW,.sl OX]) (.agg [.int .u8 YF,.str YG,.sl OY,.sl OZ])).1=.agg [.int .u8 HX,.str HY,.sl zF,.sl zG]:=afK
            obtain⟨akf,Uz⟩:∃w,(J (.agg [.int .u8 YD,.str YE,.sl OW,.sl OX]) (.agg [.int .u8 YF,.str YG,.sl OY,.sl OZ])).2=w:=⟨_,rfl⟩
            have O0:=dm vN (x:=(.agg [.int .u8 YD,.str YE,.sl OW,.sl OX])) (y:=(.agg [.int .u8 YF,.str YG,.sl OY,.sl OZ])) ⟨Ux,Uy⟩
            rw[aak,Uz] at O0
            rcases aK ((akf != 0)) with qF|qF
            ·
             have afL:=aA qF
             refine kO ah ai [oB je,oE Bf,oE Ee,oC O0,oB qF,oB qF,oB qF,oB qF,oB qF,oB qF,oT] (by kernel_rfl) ?_
             have hres:bQ J (aG k s os bs) (aG k2 s2 eR ey)=(.agg [.int .u8 0,.str [],.sl [],.sl []],7):=by
               rw[eO]
               rw[if_neg (ne_of_beq_false hc1)]
               rw[if_neg (ne_of_beq_false bM)]
               rw[fH]
               rw[if_neg (fun h=>h.elim (fun h=>h (aq hg4)) (fun h=>h.elim (fun h=>of_decide_eq_false bu h) (fun h=>h.1 (by have:=aq gh;omega))))]
               rw[if_neg (ne_of_beq_false jk),if_neg (ne_of_beq_false fD),if_pos (eq_of_beq k6)]
               rw[tP hlen Bf Ee ox (.inl (fun h=>aA qF (Uz.symm.trans h)))];rfl
             show ∃_:Unit,KE (cf m) (cB (cf m) _ 0 (.ret (.t (.bX [(bQ J (aG k s os bs) (aG k2 s2 eR ey)).1,.int .i64 (bQ J (aG k s os bs) (aG k2 s2 eR ey)).2])) [] [])) _ _ _
             rw[hres]
             exact⟨(),kF ah ai [] (by kernel_rfl)⟩
            ·
             have afL:=aq qF
             rcases aK ((!(Gm==afI))) with Ef|Ef
             ·
              have UA:=ne_of_beq_false (fJ Ef)
              refine kO ah ai [oB je,oE Bf,oE Ee,oC O0,oB qF,oB qF,oB qF,oB qF,oB qF,oB qF,oB Ef] (by kernel_rfl) ?_
              have hres:bQ J (aG k s os bs) (aG k2 s2 eR ey)=(.agg [.int .u8 0,.str [],.sl [],.sl []],7):=by
                rw[eO]
                rw[if_neg (ne_of_beq_false hc1)]
                rw[if_neg (ne_of_beq_false bM)]
                rw[fH]
                rw[if_neg (fun h=>h.elim (fun h=>h (aq hg4)) (fun h=>h.elim (fun h=>of_decide_eq_false bu h) (fun h=>h.1 (by have:=aq gh;omega))))]
                rw[if_neg (ne_of_beq_false jk),if_neg (ne_of_beq_false fD),if_pos (eq_of_beq k6)]
                rw[tP hlen Bf Ee ox (.inr (ne_of_beq_false (fJ Ef)))];rfl
              show ∃_:Unit,KE (cf m) (cB (cf m) _ 0 (.ret (.t (.bX [(bQ J (aG k s os bs) (aG k2 s2 eR ey)).1,.int .i64 (bQ J (aG k s os bs) (aG k2 s2 eR ey)).2])) [] [])) _ _ _
              rw[hres]
              exact⟨(),kF ah ai [] (by kernel_rfl)⟩
             ·
              have UA:=eq_of_beq (dJ Ef)
              exact⟨.inl ⟨⟨ow+1,(D9::Ea)++([.agg [.str Gm,.int .u8 HX,.str HY,.sl zF,.sl zG]]:List Tree)⟩,⟨⟨(by show(ow+1)≤bs.length;omega),(BU hlen Bf Ee ox (Uz.trans (aq qF)) (eq_of_beq (dJ Ef)) aak),(by exact D8.append (cu.cons ⟨rfl,rfl,rfl⟩ .nil)),(by show((D9::Ea)++([.agg [.str Gm,.int .u8 HX,.str HY,.sl zF,.sl zG]]:List Tree)).length≤(ow+1);first|omega|(simp only[List.length_append,List.length_cons,List.length_nil,List.length_singleton] at*;omega)|(simp;done)|(simp;omega))⟩,(by show(bs.length - (ow+1))<(bs.length - ow);omega)⟩⟩,bB (f:=0) (n:=3000) (once:=[]) (k:=129) (T:=4) (S:=[.loc [0],.loc [1],.loc [2],.loc [3]]) (ks:=[.loc [0],.loc [1],.loc [2],.loc [3]]) (live:=[3,4,6,88,89,90]) ah ai [oB je,oE Bf,oE Ee,oC O0,oB qF,oB qF,oB qF,oB qF,oB qF,oB qF,oB Ef,oU true 5 ([.agg [.str Gm,.int .u8 HX,.str HY,.sl zF,.sl zG]]:List Tree) (cu.cons ⟨rfl,rfl,rfl⟩ cu.nil) (by simp),oW true 5 (D9::Ea) D8,oA (((D9::Ea).length+([.agg [.str Gm,.int .u8 HX,.str HY,.sl zF,.sl zG]]:List Tree).length) *88) (by first|omega|(simp only[List.length_append,List.length_cons,List.length_nil,List.length_singleton] at*;omega)|(simp;done)|(simp;omega)),oI (ow) (by omega),oN (o:=.arr (45,true) 5 false ((flat ((D9::Ea)++([.agg [.str Gm,.int .u8 HX,.str HY,.sl zF,.sl zG]]:List Tree))).map .t)) (fun _=>bw)] (by kernel_rfl)⟩
           ·
            have Kz:=of_decide_eq_false je
            refine kO ah ai [oB je] (by kernel_rfl) ?_
            have hres:bQ J (aG k s os bs) (aG k2 s2 eR ey)=(.agg [.int .u8 k,.str [],.sl [],.sl (D9::Ea)],0):=by
              rw[eO]
              rw[if_neg (ne_of_beq_false hc1)]
              rw[if_neg (ne_of_beq_false bM)]
              rw[fH]
              rw[if_neg (fun h=>h.elim (fun h=>h (aq hg4)) (fun h=>h.elim (fun h=>of_decide_eq_false bu h) (fun h=>h.1 (by have:=aq gh;omega))))]
              rw[if_neg (ne_of_beq_false jk),if_neg (ne_of_beq_false fD),if_pos (eq_of_beq k6)]
              rw[zC hlen (by omega) ox,eq_of_beq k6];rfl
            show ∃_:Unit,KE (cf m) (cB (cf m) _ 0 (.ret (.t (.bX [(bQ J (aG k s os bs) (aG k2 s2 eR ey)).1,.int .i64 (bQ J (aG k s os bs) (aG k2 s2 eR ey)).2])) [] [])) _ _ _
            rw[hres]
            exact⟨(),kF ah ai [oW true 5 (D9::Ea) D8] (by kernel_rfl)⟩
         ·
          have D7:=ne_of_beq_false k6
          have hres:bQ J (aG k s os bs) (aG k2 s2 eR ey)=(.agg [.int .u8 k,.str [],.sl [],.sl []],0):=by
            rw[eO]
            rw[if_neg (ne_of_beq_false hc1)]
            rw[if_neg (ne_of_beq_false bM)]
            rw[fH]
            rw[if_neg (fun h=>h.elim (fun h=>h (aq hg4)) (fun h=>h.elim (fun h=>of_decide_eq_false bu h) (fun h=>h.1 (by have:=aq gh;omega))))]
            rw[if_neg (ne_of_beq_false jk),if_neg (ne_of_beq_false fD),if_neg (ne_of_beq_false k6)];rfl
          show ∃_:Unit,KE (cf m) (cB (cf m) _ 0 (.ret (.t (.bX [(bQ J (aG k s os bs) (aG k2 s2 eR ey)).1,.int .i64 (bQ J (aG k s os bs) (aG k2 s2 eR ey)).2])) [] [])) _ _ _
          rw[hres]
          exact⟨(),kF ah ai [oB hc1,oB hc1,oB bM,oB hg4,oB hg4,oB hg4,oB hg4,oB bu,oB bu,oB bu,oB bu,oB bu,oB bu,oB bu,oB bu,oB gh,oB gh,oB gh,oB bu,oB gh,oB bu,oF,oB jk,oB fD,oB k6] (by kernel_rfl)⟩
end
end Go.Proofs.YtijfhoelihclbaaGreatDoor.w

namespace Go.Proofs.YtijfhoelihclbaaGreatDoor.w
open Go Go.Abs Go.Abs.Ty
set_option linter.unusedVariables false
set_option maxRecDepth 100000
set_option maxHeartbeats 2000000
noncomputable section
theorem YH (m:Int):tM (.bX [gi,.int .i64 0]) (fe (live.cfg m) (live.kq m) 300 12 [.t gi,.t gi] [])=true:=by kernel_rfl
theorem M8 (n:Nat)(a b:Tree)(ha:Dp n a)(hb:Dp n b):∃k s os bs,(vt n a b).1=aG k s os bs:=by
 obtain⟨k,s,os,bs,e,_⟩:=(yU n a b ha hb).form
 exact⟨k,s,os,bs,e⟩
theorem O1 (m:Int):∀n x y,Dp n x→Dp n y→R2 (cf m) 12 x y (.bX [(vt n x y).1,.int .i64 (vt n x y).2])
 |0,x,y,hx,hy=>by
  subst hx;subst hy
  have hr:=nH (YH m)
  rw[qx] at hr
  exact fun G w vs hw hg ha hh hv=>qo (live.ah m) (live.zb m) 300 12 [.t gi,.t gi] [] _ hr G w vs hw hg ha hh hv
 |n+1,x,y,hx,hy=>by
  have hx0:=hx;have hy0:=hy
  obtain⟨k,s,os,bs,rfl,l1,l2,h1,h2⟩:=hx
  obtain⟨k2,s2,eR,ey,rfl,l3,l4,h3,h4⟩:=hy
  exact YA m (Dp n) (Dp (n+1)) (vt n) (Dp.OI n) (O1 m n) (M8 n) (fun x h=>M3 m (n+1) x h) (fun x h=>(aac m n x h).1) k s os bs k2 s2 eR ey hx0 hy0 hx0.of hy0.of l2 l4 h2 h4
def lG:Tree→List Tree
 |.sl l=>l
 |_=>[]
end
end Go.Proofs.YtijfhoelihclbaaGreatDoor.w

namespace Go.Proofs.YtijfhoelihclbaaGreatDoor.w
open Go Go.Abs Go.Abs.Ty
set_option linter.unusedVariables false
set_option maxRecDepth 100000
set_option maxHeartbeats 2000000
noncomputable section
end
end Go.Proofs.YtijfhoelihclbaaGreatDoor.w
