/- Copies are the same. -/
import Derived.Test.YtijfhoelihclbaaGreatDoorAD
import Derived.Test.YtijfhoelihclbaaGreatDoorS
namespace Go.Proofs.YtijfhoelihclbaaGreatDoor.w.e
open Go Go.Abs Go.Abs.Ty
set_option linter.unusedVariables false
set_option maxRecDepth 100000
set_option maxHeartbeats 2000000
noncomputable section
theorem V6 {m:Int}:eX (cf m).P 49 1=some 1:=by kernel_rfl
theorem IC {m:Int}:eX (cf m).P 76 1=some 1:=by kernel_rfl
theorem ID {m:Int}:eX (cf m).P 76 2=some 2:=by kernel_rfl
theorem ac9 (m:Int)(k:Int)(s:List UInt8)(os bs:List Tree)(lo:os.length≤4194304)(ho:∀y∈os,T .aD y)(hO:∀y∈os,R1 (cf m) 104 y y)(lb:bs.length≤4194304)(hb:∀y∈bs,T .bh y)(hA:R1 (cf m) 67 (.sl bs) (.sl bs)):R1 (cf m) 104 (aG k s os bs) (aG k s os bs):=by
  obtain⟨ev,ai,V7,wV⟩:∃ev,aF (cf m) ev∧Has ev 104 (jP (fun y=>y∈os) (fun x=>x))∧Has ev 67 (jP (fun y=>y=.sl bs) (fun x=>x)):=⟨_,(ax (bp hO) (ax (bp fun x h=>by subst h;exact hA) aH)),az,(aj rfl az)⟩
  refine ay.fu ?_
  refine AX.start 26 1 Tryz.func104 rfl (by decide) rfl rfl (by decide) ?_
  refine AX.frames ?_
  refine eo (f:=0) (n:=3000) (once:=[]) (k:=26) (T:=2) (S:=[.loc [0],.loc [1]]) (ks:=[.loc [0],.loc [1]]) (live:=[1,2,3,7,8,9]) ah ai (α:=Nat×List Tree) (fun x=>(match x.2 with| []=>⟨bH 26 [(1,.ptr (.loc [0]) 0),(2,.ptr (.loc [1]) 0),(3,.aL),(7,.t (.sl os)),(8,.t (.int .i64 ((os.length:Nat):Int))),(9,.t (.int .i64 ((x.1:Nat):Int)))],[(.loc [0],.cells 38 [.t (.int .u8 k),.t (.str s),.t (.sl os),.t (.sl bs)]),(.loc [1],.cells 38 [.t (.int .u8 0),.t (.str []),.aL,.aL])],2⟩|_::_=>⟨bH 26 [(1,.ptr (.loc [0]) 0),(2,.ptr (.loc [1]) 0),(3,.ref (.loc [2]) 0 x.2.length),(7,.t (.sl os)),(8,.t (.int .i64 ((os.length:Nat):Int))),(9,.t (.int .i64 ((x.1:Nat):Int)))],[(.loc [0],.cells 38 [.t (.int .u8 k),.t (.str s),.t (.sl os),.t (.sl bs)]),(.loc [1],.cells 38 [.t (.int .u8 0),.t (.str []),.aL,.aL]),(.loc [2],.arr (38,true) 4 false ((flat x.2).map .t))],3⟩)) (fun x=>(x.1≤os.length)∧(x.2=os.take x.1)∧(cu true 4 x.2)∧(x.2.length≤x.1)) (fun x=>os.length - x.1) (⟨0,[]⟩) (iA (Tryz.f104.body.getD .skip) 3) [] (by kernel_rfl) ⟨Nat.zero_le _,rfl,cu.nil,Nat.le_refl _⟩ (fun x hok=> ?_)
  obtain⟨i_1,jL⟩:=x
  replace hok:(i_1≤os.length)∧(jL=os.take i_1)∧(cu true 4 jL)∧(jL.length≤i_1):=hok
  obtain⟨iX,bN,gW,CG⟩:=hok
  rcases jL with _|⟨dX,dY⟩
  ·
   rcases aK (decide (((i_1:Nat):Int)<((os.length:Nat):Int))) with bD|bD
   ·
    have gM:=of_decide_eq_true bD
    obtain⟨e3,gY⟩:=lC os i_1 (by first|omega|(simp;omega))
    have iI:=(ho e3 (List.mem_of_getElem? gY))
    obtain⟨qM,cq,vU,cE,rfl,mO,kU,mP,jR⟩:=T.aR iI
    exact⟨.inl ⟨⟨i_1+1,([.agg [.int .u8 qM,.str cq,.sl vU,.sl cE]]:List Tree)⟩,⟨⟨(by show(i_1+1)≤os.length;omega),((congrArg (fun l=>l++[_]) bN).trans (dL gY).symm),(by exact(cu.cons ⟨rfl,rfl,rfl⟩ .nil)),(by show([.agg [.int .u8 qM,.str cq,.sl vU,.sl cE]]:List Tree).length≤(i_1+1);first|omega|(simp only[List.length_append,List.length_cons,List.length_nil,List.length_singleton] at*;omega)|(simp;done)|(simp;omega))⟩,(by show(os.length - (i_1+1))<(os.length - i_1);omega)⟩⟩,bB (f:=0) (n:=3000) (once:=[]) (k:=26) (T:=3) (S:=[.loc [0],.loc [1],.loc [11]]) (ks:=[.loc [0],.loc [1],.loc [11]]) (live:=[1,2,3,7,8,9]) ah ai [oB bD,oE gY,oC (bf V7 (x:=.agg [.int .u8 qM,.str cq,.sl vU,.sl cE]) (List.mem_of_getElem? gY)),oU true 4 ([.agg [.int .u8 qM,.str cq,.sl vU,.sl cE]]:List Tree) (cu.cons ⟨rfl,rfl,rfl⟩ cu.nil) (by simp),oA (([.agg [.int .u8 qM,.str cq,.sl vU,.sl cE]]:List Tree).length*72) (by first|omega|(simp only[List.length_append,List.length_cons,List.length_nil,List.length_singleton] at*;omega)|(simp;done)|(simp;omega)),oI (i_1) (by omega),oN (o:=.arr (38,true) 4 false ((flat ([.agg [.int .u8 qM,.str cq,.sl vU,.sl cE]]:List Tree)).map .t)) (fun _=>bw)] (by kernel_rfl)⟩
   ·
    have gM:=of_decide_eq_false bD
    refine kO ah ai [oB bD] (by kernel_rfl) ?_
    have hacc:([]:List Tree)=os:=bN.trans (List.take_of_length_le (by omega))
    subst hacc
    exact⟨(),kF ah ai [oC (bf wV (x:=.sl bs) rfl)] (by kernel_rfl)⟩
  ·
   rcases aK (decide (((i_1:Nat):Int)<((os.length:Nat):Int))) with kC|kC
   ·
    have vJ:=of_decide_eq_true kC
    obtain⟨e6,zA⟩:=lC os i_1 (by first|omega|(simp;omega))
    have IA:=(ho e6 (List.mem_of_getElem? zA))
    obtain⟨Bu,nP,GA,wK,rfl,V8,V9,Wa,Wb⟩:=T.aR IA
    exact⟨.inl ⟨⟨i_1+1,(dX::dY)++([.agg [.int .u8 Bu,.str nP,.sl GA,.sl wK]]:List Tree)⟩,⟨⟨(by show(i_1+1)≤os.length;omega),((congrArg (fun l=>l++[_]) bN).trans (dL zA).symm),(by exact gW.append (cu.cons ⟨rfl,rfl,rfl⟩ .nil)),(by show((dX::dY)++([.agg [.int .u8 Bu,.str nP,.sl GA,.sl wK]]:List Tree)).length≤(i_1+1);first|omega|(simp only[List.length_append,List.length_cons,List.length_nil,List.length_singleton] at*;omega)|(simp;done)|(simp;omega))⟩,(by show(os.length - (i_1+1))<(os.length - i_1);omega)⟩⟩,bB (f:=0) (n:=3000) (once:=[]) (k:=26) (T:=3) (S:=[.loc [0],.loc [1],.loc [2]]) (ks:=[.loc [0],.loc [1],.loc [2]]) (live:=[1,2,3,7,8,9]) ah ai [oB kC,oE zA,oC (bf V7 (x:=.agg [.int .u8 Bu,.str nP,.sl GA,.sl wK]) (List.mem_of_getElem? zA)),oU true 4 ([.agg [.int .u8 Bu,.str nP,.sl GA,.sl wK]]:List Tree) (cu.cons ⟨rfl,rfl,rfl⟩ cu.nil) (by simp),oW true 4 (dX::dY) gW,oA (((dX::dY).length+([.agg [.int .u8 Bu,.str nP,.sl GA,.sl wK]]:List Tree).length) *72) (by first|omega|(simp only[List.length_append,List.length_cons,List.length_nil,List.length_singleton] at*;omega)|(simp;done)|(simp;omega)),oI (i_1) (by omega),oN (o:=.arr (38,true) 4 false ((flat ((dX::dY)++([.agg [.int .u8 Bu,.str nP,.sl GA,.sl wK]]:List Tree))).map .t)) (fun _=>bw)] (by kernel_rfl)⟩
   ·
    have vJ:=of_decide_eq_false kC
    refine kO ah ai [oB kC] (by kernel_rfl) ?_
    have hacc:((dX::dY):List Tree)=os:=bN.trans (List.take_of_length_le (by omega))
    subst hacc
    exact⟨(),kF ah ai [oC (bf wV (x:=.sl bs) rfl),oW true 4 (dX::dY) gW] (by kernel_rfl)⟩
theorem Wc (m:Int)(bs:List Tree)(lb:bs.length≤4194304)(hb:∀y∈bs,T .bh y)(hO:∀a∈bs,R1 (cf m) 104 (Is a) (Is a)):R1 (cf m) 67 (.sl bs) (.sl bs):=by
  obtain⟨ev,ai,V7⟩:∃ev,aF (cf m) ev∧Has ev 104 (jP (fun y=>∃a∈bs,y=Is a) (fun x=>x)):=⟨_,(ax (bp fun x h=>by obtain⟨a,ha,e⟩:=h;subst e;exact hO a ha) aH),az⟩
  refine ay.fu ?_
  refine AX.start 23 1 Tryz.func67 rfl (by decide) rfl rfl (by decide) ?_
  refine AX.frames ?_
  refine eo (f:=0) (n:=3000) (once:=[]) (k:=23) (T:=0) (S:=[]) (ks:=[]) (live:=[3,6,7,8]) ah ai (α:=Nat×List Tree) (fun x=>(match x.2 with| []=>⟨bH 23 [(3,.aL),(6,.t (.sl bs)),(7,.t (.int .i64 ((bs.length:Nat):Int))),(8,.t (.int .i64 ((x.1:Nat):Int)))],[],0⟩|_::_=>⟨bH 23 [(3,.ref (.loc [0]) 0 x.2.length),(6,.t (.sl bs)),(7,.t (.int .i64 ((bs.length:Nat):Int))),(8,.t (.int .i64 ((x.1:Nat):Int)))],[(.loc [0],.arr (45,true) 5 false ((flat x.2).map .t))],1⟩)) (fun x=>(x.1≤bs.length)∧(x.2=bs.take x.1)∧(cu true 5 x.2)∧(x.2.length≤x.1)) (fun x=>bs.length - x.1) (⟨0,[]⟩) (iA (Tryz.f67.body.getD .skip) 3) [] (by kernel_rfl) ⟨Nat.zero_le _,rfl,cu.nil,Nat.le_refl _⟩ (fun x hok=> ?_)
  obtain⟨i_1,jL⟩:=x
  replace hok:(i_1≤bs.length)∧(jL=bs.take i_1)∧(cu true 5 jL)∧(jL.length≤i_1):=hok
  obtain⟨iX,bN,gW,CG⟩:=hok
  rcases jL with _|⟨dX,dY⟩
  ·
   rcases aK (decide (((i_1:Nat):Int)<((bs.length:Nat):Int))) with bD|bD
   ·
    have gM:=of_decide_eq_true bD
    obtain⟨e3,gY⟩:=lC bs i_1 (by first|omega|(simp;omega))
    have iI:=(hb e3 (List.mem_of_getElem? gY))
    obtain⟨cq,fQ,fR,iO,eZ,rfl,mO,kU,mP,jR⟩:=T.eV iI
    exact⟨.inl ⟨⟨i_1+1,([.agg [.str cq,.int .u8 fQ,.str fR,.sl iO,.sl eZ]]:List Tree)⟩,⟨⟨(by show(i_1+1)≤bs.length;omega),((congrArg (fun l=>l++[_]) bN).trans (dL gY).symm),(by exact(cu.cons ⟨rfl,rfl,rfl⟩ .nil)),(by show([.agg [.str cq,.int .u8 fQ,.str fR,.sl iO,.sl eZ]]:List Tree).length≤(i_1+1);first|omega|(simp only[List.length_append,List.length_cons,List.length_nil,List.length_singleton] at*;omega)|(simp;done)|(simp;omega))⟩,(by show(bs.length - (i_1+1))<(bs.length - i_1);omega)⟩⟩,bB (f:=0) (n:=3000) (once:=[]) (k:=23) (T:=1) (S:=[.loc [13]]) (ks:=[.loc [13]]) (live:=[3,6,7,8]) ah ai [oB bD,oE gY,oC (bf V7 (x:=.agg [.int .u8 fQ,.str fR,.sl iO,.sl eZ]) ⟨_,List.mem_of_getElem? gY,rfl⟩),oU true 5 ([.agg [.str cq,.int .u8 fQ,.str fR,.sl iO,.sl eZ]]:List Tree) (cu.cons ⟨rfl,rfl,rfl⟩ cu.nil) (by simp),oA (([.agg [.str cq,.int .u8 fQ,.str fR,.sl iO,.sl eZ]]:List Tree).length*88) (by first|omega|(simp only[List.length_append,List.length_cons,List.length_nil,List.length_singleton] at*;omega)|(simp;done)|(simp;omega)),oI (i_1) (by omega),oN (o:=.arr (45,true) 5 false ((flat ([.agg [.str cq,.int .u8 fQ,.str fR,.sl iO,.sl eZ]]:List Tree)).map .t)) (fun _=>bw)] (by kernel_rfl)⟩
   ·
    have gM:=of_decide_eq_false bD
    refine kO ah ai [oB bD] (by kernel_rfl) ?_
    have hacc:([]:List Tree)=bs:=bN.trans (List.take_of_length_le (by omega))
    subst hacc
    exact⟨(),kF ah ai [] (by kernel_rfl)⟩
  ·
   rcases aK (decide (((i_1:Nat):Int)<((bs.length:Nat):Int))) with kC|kC
   ·
    have vJ:=of_decide_eq_true kC
    obtain⟨e6,zA⟩:=lC bs i_1 (by first|omega|(simp;omega))
    have IA:=(hb e6 (List.mem_of_getElem? zA))
    obtain⟨nP,jr,js,lX,iZ,rfl,V8,V9,Wa,Wb⟩:=T.eV IA
    exact⟨.inl ⟨⟨i_1+1,(dX::dY)++([.agg [.str nP,.int .u8 jr,.str js,.sl lX,.sl iZ]]:List Tree)⟩,⟨⟨(by show(i_1+1)≤bs.length;omega),((congrArg (fun l=>l++[_]) bN).trans (dL zA).symm),(by exact gW.append (cu.cons ⟨rfl,rfl,rfl⟩ .nil)),(by show((dX::dY)++([.agg [.str nP,.int .u8 jr,.str js,.sl lX,.sl iZ]]:List Tree)).length≤(i_1+1);first|omega|(simp only[List.length_append,List.length_cons,List.length_nil,List.length_singleton] at*;omega)|(simp;done)|(simp;omega))⟩,(by show(bs.length - (i_1+1))<(bs.length - i_1);omega)⟩⟩,bB (f:=0) (n:=3000) (once:=[]) (k:=23) (T:=1) (S:=[.loc [0]]) (ks:=[.loc [0]]) (live:=[3,6,7,8]) ah ai [oB kC,oE zA,oC (bf V7 (x:=.agg [.int .u8 jr,.str js,.sl lX,.sl iZ]) ⟨_,List.mem_of_getElem? zA,rfl⟩),oU true 5 ([.agg [.str nP,.int .u8 jr,.str js,.sl lX,.sl iZ]]:List Tree) (cu.cons ⟨rfl,rfl,rfl⟩ cu.nil) (by simp),oW true 5 (dX::dY) gW,oA (((dX::dY).length+([.agg [.str nP,.int .u8 jr,.str js,.sl lX,.sl iZ]]:List Tree).length) *88) (by first|omega|(simp only[List.length_append,List.length_cons,List.length_nil,List.length_singleton] at*;omega)|(simp;done)|(simp;omega)),oI (i_1) (by omega),oN (o:=.arr (45,true) 5 false ((flat ((dX::dY)++([.agg [.str nP,.int .u8 jr,.str js,.sl lX,.sl iZ]]:List Tree))).map .t)) (fun _=>bw)] (by kernel_rfl)⟩
   ·
    have vJ:=of_decide_eq_false kC
    refine kO ah ai [oB kC] (by kernel_rfl) ?_
    have hacc:((dX::dY):List Tree)=bs:=bN.trans (List.take_of_length_le (by omega))
    subst hacc
    exact⟨(),kF ah ai [oW true 5 (dX::dY) gW] (by kernel_rfl)⟩
theorem ada (m:Int):∀(k:K) (x:Tree),T k x→(k=.aD→R1 (cf m) 104 x x)∧(k=.bh→R1 (cf m) 104 (Is x) (Is x)):=by
 intro k x h
 have go:∀(k1:Int) (s:List UInt8) (os bs:List Tree),os.length≤4194304→(∀y∈os,T .aD y)→bs.length≤4194304→(∀y∈bs,T .bh y)→(∀y∈os,R1 (cf m) 104 y y)→(∀y∈bs,R1 (cf m) 104 (Is y) (Is y))→
   R1 (cf m) 104 (aG k1 s os bs) (aG k1 s os bs):=fun k1 s os bs l1 h1 l2 h2 i1 i2=>ac9 m k1 s os bs l1 h1 i1 l2 h2 (Wc m bs l2 h2 i2)
 induction h with
 | @aD k1 s os bs l1 h1 l2 h2 i1 i2=>exact⟨fun _=>go k1 s os bs l1 h1 l2 h2 (fun y hy=>(i1 y hy).1 rfl) (fun y hy=>(i2 y hy).2 rfl),fun e=>(by cases e)⟩
 | @bh nm k1 s os bs l1 h1 l2 h2 i1 i2=>exact⟨fun e=>(by cases e),fun _=>go k1 s os bs l1 h1 l2 h2 (fun y hy=>(i1 y hy).1 rfl) (fun y hy=>(i2 y hy).2 rfl)⟩
 |_=>exact⟨fun e=>(by cases e),fun e=>(by cases e)⟩
theorem GC (m:Int):∀x,T .dW x→R1 (cf m) 67 x x:=fun x hx=>by
 obtain⟨l,rfl,hl,h2⟩:=T.zh hx
 exact Wc m l hl h2 fun y hy=>(ada m _ y (h2 y hy)).2 rfl
theorem agT (m:Int)(nm:List UInt8)(bs:List Tree)(lb:bs.length≤4194304)(hb:∀y∈bs,T .bh y):R1 (cf m) 23 (.agg [.str nm,.sl ([]:List Tree),.sl bs]) (.agg [.str nm,.sl ([]:List Tree),.sl bs]):=by
 obtain⟨ev,ai,wV⟩:∃ev,aF (cf m) ev∧Has ev 67 (jP (T .dW) (fun x=>x)):=⟨_,(ax (bp (GC m)) aH),az⟩
 refine ay.fu ?_
 refine AX.start 13 1 Tryz.func23 rfl (by decide) rfl rfl (by decide) ?_
 refine AX.frames ?_
 refine uR (f:=0) (n:=3000) (once:=[]) (k:=13) (T:=2) (S:=[.loc [0],.loc [1]]) (ks:=[.loc [0],.loc [1]]) (live:=[1,2]) ah ai (Tryz.f23.body.getD .skip) 1 rfl (⟨bH 13 [(1,.ptr (.loc [0]) 0),(2,.ptr (.loc [1]) 0)],[(.loc [0],.cells 49 [.t (.str nm),.t (.sl ([]:List Tree)),.t (.sl bs)]),(.loc [1],.cells 49 [.t (.str []),.aL,.aL])],2⟩) [] (by kernel_rfl) ?_
 refine AX.region ?_
 refine ak.go (f:=0) ai (qw rfl kJ rfl kB rfl rfl) ?_
 refine ak.go (f:=0) ai (aB rfl V6 rfl) ?_
 refine ak.go (f:=0) ai (aS rfl (ld kJ rfl rfl)) ?_
 refine ak.go (f:=0) ai (vw DK rfl rfl (.inl (.inl rfl)) (.inr (.inr ⟨_,rfl⟩))) ?_
 refine ak.go (f:=0) ai (aB rfl V6 rfl) ?_
 refine ak.lQ (f:=0) ai (br rfl rfl (mX kJ rfl rfl)) ?_
 refine ak.nil ?_
 exact⟨(),kF ah ai [oC (bf wV (x:=.sl bs) (.dW _ (by first|assumption|omega|(simp;done)|(simp;omega)) hb))] (by kernel_rfl)⟩
theorem agU (m:Int)(nm:List UInt8)(p0:List Tree)(hn0:p0≠ [])(lp0:p0.length≤4194304)(Jw:∀y∈p0,T .string y)(bs:List Tree)(lb:bs.length≤4194304)(hb:∀y∈bs,T .bh y):R1 (cf m) 23 (.agg [.str nm,.sl p0,.sl bs]) (.agg [.str nm,.sl p0,.sl bs]):=by
 obtain⟨ev,ai,wV⟩:∃ev,aF (cf m) ev∧Has ev 67 (jP (T .dW) (fun x=>x)):=⟨_,(ax (bp (GC m)) aH),az⟩
 refine ay.fu ?_
 refine AX.start 13 1 Tryz.func23 rfl (by decide) rfl rfl (by decide) ?_
 refine AX.frames ?_
 exact⟨(),kF ah ai [oU false 1 p0 (iF Jw) (by assumption),oA (p0.length*16) (by first|omega|(simp only[List.length_append,List.length_cons,List.length_nil,List.length_singleton] at*;omega)|(simp;done)|(simp;omega)),oC (bf wV (x:=.sl bs) (.dW _ (by first|assumption|omega|(simp;done)|(simp;omega)) hb)),oW false 1 p0 (iF Jw)] (by kernel_rfl)⟩
theorem Wd (m:Int):∀x,T .aC x→R1 (cf m) 23 x x:=fun x hx=>by
  obtain⟨nm,p0,bs,rfl,lp0,Jw,lb,hb⟩:=T.bg hx
  by_cases hn0:p0=[]
  · subst hn0
    exact agT m nm bs lb hb
  · skip
    exact agU m nm p0 hn0 lp0 Jw bs lb hb
theorem adb (m:Int)(nm:List UInt8)(bs:List Tree)(lb:bs.length≤4194304)(hb:∀y∈bs,T .bh y):R1 (cf m) 24 (.agg [.str nm,.sl ([]:List Tree),.sl ([]:List Tree),.sl bs]) (.agg [.str nm,.sl ([]:List Tree),.sl ([]:List Tree),.sl bs]):=by
 obtain⟨ev,ai,wV⟩:∃ev,aF (cf m) ev∧Has ev 67 (jP (T .dW) (fun x=>x)):=⟨_,(ax (bp (GC m)) aH),az⟩
 refine ay.fu ?_
 refine AX.start 18 1 Tryz.func24 rfl (by decide) rfl rfl (by decide) ?_
 refine AX.frames ?_
 refine uR (f:=0) (n:=3000) (once:=[]) (k:=18) (T:=2) (S:=[.loc [0],.loc [1]]) (ks:=[.loc [0],.loc [1]]) (live:=[1,2]) ah ai (Tryz.f24.body.getD .skip) 1 rfl (⟨bH 18 [(1,.ptr (.loc [0]) 0),(2,.ptr (.loc [1]) 0)],[(.loc [0],.cells 76 [.t (.str nm),.t (.sl ([]:List Tree)),.t (.sl ([]:List Tree)),.t (.sl bs)]),(.loc [1],.cells 76 [.t (.str []),.aL,.aL,.aL])],2⟩) [] (by kernel_rfl) ?_
 refine AX.region ?_
 refine ak.go (f:=0) ai (qw rfl kJ rfl kB rfl rfl) ?_
 refine ak.go (f:=0) ai (aB rfl IC rfl) ?_
 refine ak.go (f:=0) ai (aS rfl (ld kJ rfl rfl)) ?_
 refine ak.go (f:=0) ai (vw DK rfl rfl (.inl (.inl rfl)) (.inr (.inr ⟨_,rfl⟩))) ?_
 refine ak.go (f:=0) ai (aB rfl IC rfl) ?_
 refine ak.lQ (f:=0) ai (br rfl rfl (mX kJ rfl rfl)) ?_
 refine ak.nil ?_
 refine uR (f:=0) (n:=3000) (once:=[]) (k:=18) (T:=2) (S:=[.loc [0],.loc [1]]) (ks:=[.loc [0],.loc [1]]) (live:=[1,2]) ah ai (Tryz.f24.body.getD .skip) 2 rfl (⟨bH 18 [(1,.ptr (.loc [0]) 0),(2,.ptr (.loc [1]) 0)],[(.loc [0],.cells 76 [.t (.str nm),.l7 [],.t (.sl ([]:List Tree)),.t (.sl bs)]),(.loc [1],.cells 76 [.t (.str []),.aL,.aL,.aL])],2⟩) [] (by kernel_rfl) ?_
 refine AX.region ?_
 refine ak.go (f:=0) ai (qw rfl kJ rfl kB rfl rfl) ?_
 refine ak.go (f:=0) ai (aB rfl ID rfl) ?_
 refine ak.go (f:=0) ai (aS rfl (ld kJ rfl rfl)) ?_
 refine ak.go (f:=0) ai (vw DK rfl rfl (.inl (.inl rfl)) (.inr (.inr ⟨_,rfl⟩))) ?_
 refine ak.go (f:=0) ai (aB rfl ID rfl) ?_
 refine ak.lQ (f:=0) ai (br rfl rfl (mX kJ rfl rfl)) ?_
 refine ak.nil ?_
 exact⟨(),kF ah ai [oC (bf wV (x:=.sl bs) (.dW _ (by first|assumption|omega|(simp;done)|(simp;omega)) hb))] (by kernel_rfl)⟩
theorem ade (m:Int)(nm:List UInt8)(p1:List Tree)(XH:p1≠ [])(lp1:p1.length≤4194304)(hp1:∀y∈p1,T .string y)(bs:List Tree)(lb:bs.length≤4194304)(hb:∀y∈bs,T .bh y):R1 (cf m) 24 (.agg [.str nm,.sl ([]:List Tree),.sl p1,.sl bs]) (.agg [.str nm,.sl ([]:List Tree),.sl p1,.sl bs]):=by
 obtain⟨ev,ai,wV⟩:∃ev,aF (cf m) ev∧Has ev 67 (jP (T .dW) (fun x=>x)):=⟨_,(ax (bp (GC m)) aH),az⟩
 refine ay.fu ?_
 refine AX.start 18 1 Tryz.func24 rfl (by decide) rfl rfl (by decide) ?_
 refine AX.frames ?_
 refine uR (f:=0) (n:=3000) (once:=[]) (k:=18) (T:=2) (S:=[.loc [0],.loc [1]]) (ks:=[.loc [0],.loc [1]]) (live:=[1,2]) ah ai (Tryz.f24.body.getD .skip) 1 rfl (⟨bH 18 [(1,.ptr (.loc [0]) 0),(2,.ptr (.loc [1]) 0)],[(.loc [0],.cells 76 [.t (.str nm),.t (.sl ([]:List Tree)),.t (.sl p1),.t (.sl bs)]),(.loc [1],.cells 76 [.t (.str []),.aL,.aL,.aL])],2⟩) [] (by kernel_rfl) ?_
 refine AX.region ?_
 refine ak.go (f:=0) ai (qw rfl kJ rfl kB rfl rfl) ?_
 refine ak.go (f:=0) ai (aB rfl IC rfl) ?_
 refine ak.go (f:=0) ai (aS rfl (ld kJ rfl rfl)) ?_
 refine ak.go (f:=0) ai (vw DK rfl rfl (.inl (.inl rfl)) (.inr (.inr ⟨_,rfl⟩))) ?_
 refine ak.go (f:=0) ai (aB rfl IC rfl) ?_
 refine ak.lQ (f:=0) ai (br rfl rfl (mX kJ rfl rfl)) ?_
 refine ak.nil ?_
 exact⟨(),kF ah ai [oU false 1 p1 (iF hp1) (by assumption),oA (p1.length*16) (by first|omega|(simp only[List.length_append,List.length_cons,List.length_nil,List.length_singleton] at*;omega)|(simp;done)|(simp;omega)),oC (bf wV (x:=.sl bs) (.dW _ (by first|assumption|omega|(simp;done)|(simp;omega)) hb)),oW false 1 p1 (iF hp1)] (by kernel_rfl)⟩
theorem adf (m:Int)(nm:List UInt8)(p0:List Tree)(hn0:p0≠ [])(lp0:p0.length≤4194304)(Jw:∀y∈p0,T .string y)(bs:List Tree)(lb:bs.length≤4194304)(hb:∀y∈bs,T .bh y):R1 (cf m) 24 (.agg [.str nm,.sl p0,.sl ([]:List Tree),.sl bs]) (.agg [.str nm,.sl p0,.sl ([]:List Tree),.sl bs]):=by
 obtain⟨ev,ai,wV⟩:∃ev,aF (cf m) ev∧Has ev 67 (jP (T .dW) (fun x=>x)):=⟨_,(ax (bp (GC m)) aH),az⟩
 refine ay.fu ?_
 refine AX.start 18 1 Tryz.func24 rfl (by decide) rfl rfl (by decide) ?_
 refine AX.frames ?_
 refine uR (f:=0) (n:=3000) (once:=[]) (k:=18) (T:=3) (S:=[.loc [0],.loc [1],.loc [5]]) (ks:=[.loc [0],.loc [1],.loc [5]]) (live:=[1,2]) ah ai (Tryz.f24.body.getD .skip) 2 rfl (⟨bH 18 [(1,.ptr (.loc [0]) 0),(2,.ptr (.loc [1]) 0)],[(.loc [0],.cells 76 [.t (.str nm),.ref (.loc [2]) 0 p0.length,.t (.sl ([]:List Tree)),.t (.sl bs)]),(.loc [1],.cells 76 [.t (.str []),.aL,.aL,.aL]),(.loc [2],.arr (9,false) 1 false ((flat p0).map .t))],3⟩) [oU false 1 p0 (iF Jw) (by assumption),oA (p0.length*16) (by first|omega|(simp only[List.length_append,List.length_cons,List.length_nil,List.length_singleton] at*;omega)|(simp;done)|(simp;omega)),oN (o:=.arr (9,false) 1 false ((flat p0).map .t)) (fun _=>bw)] (by kernel_rfl) ?_
 refine AX.region ?_
 refine ak.go (f:=0) ai (qw rfl kJ rfl kB rfl rfl) ?_
 refine ak.go (f:=0) ai (aB rfl ID rfl) ?_
 refine ak.go (f:=0) ai (aS rfl (ld kJ rfl rfl)) ?_
 refine ak.go (f:=0) ai (vw DK rfl rfl (.inl (.inl rfl)) (.inr (.inr ⟨_,rfl⟩))) ?_
 refine ak.go (f:=0) ai (aB rfl ID rfl) ?_
 refine ak.lQ (f:=0) ai (br rfl rfl (mX kJ rfl rfl)) ?_
 refine ak.nil ?_
 exact⟨(),kF ah ai [oC (bf wV (x:=.sl bs) (.dW _ (by first|assumption|omega|(simp;done)|(simp;omega)) hb)),oW false 1 p0 (iF Jw)] (by kernel_rfl)⟩
theorem adg (m:Int)(nm:List UInt8)(p0:List Tree)(hn0:p0≠ [])(lp0:p0.length≤4194304)(Jw:∀y∈p0,T .string y)(p1:List Tree)(XH:p1≠ [])(lp1:p1.length≤4194304)(hp1:∀y∈p1,T .string y)(bs:List Tree)(lb:bs.length≤4194304)(hb:∀y∈bs,T .bh y):R1 (cf m) 24 (.agg [.str nm,.sl p0,.sl p1,.sl bs]) (.agg [.str nm,.sl p0,.sl p1,.sl bs]):=by
 obtain⟨ev,ai,wV⟩:∃ev,aF (cf m) ev∧Has ev 67 (jP (T .dW) (fun x=>x)):=⟨_,(ax (bp (GC m)) aH),az⟩
 refine ay.fu ?_
 refine AX.start 18 1 Tryz.func24 rfl (by decide) rfl rfl (by decide) ?_
 refine AX.frames ?_
 exact⟨(),kF ah ai [oU false 1 p0 (iF Jw) (by assumption),oA (p0.length*16) (by first|omega|(simp only[List.length_append,List.length_cons,List.length_nil,List.length_singleton] at*;omega)|(simp;done)|(simp;omega)),oU false 1 p1 (iF hp1) (by assumption),oA (p1.length*16) (by first|omega|(simp only[List.length_append,List.length_cons,List.length_nil,List.length_singleton] at*;omega)|(simp;done)|(simp;omega)),oC (bf wV (x:=.sl bs) (.dW _ (by first|assumption|omega|(simp;done)|(simp;omega)) hb)),oW false 1 p0 (iF Jw),oW false 1 p1 (iF hp1)] (by kernel_rfl)⟩
theorem Wf (m:Int):∀x,T .aY x→R1 (cf m) 24 x x:=fun x hx=>by
  obtain⟨nm,p0,p1,bs,rfl,lp0,Jw,lp1,hp1,lb,hb⟩:=T.bP hx
  by_cases hn0:p0=[]
  · subst hn0
    by_cases XH:p1=[]
    · subst XH
      exact adb m nm bs lb hb
    · skip
      exact ade m nm p1 XH lp1 hp1 bs lb hb
  · skip
    by_cases XH:p1=[]
    · subst XH
      exact adf m nm p0 hn0 lp0 Jw bs lb hb
    · skip
      exact adg m nm p0 hn0 lp0 Jw p1 XH lp1 hp1 bs lb hb
end
end Go.Proofs.YtijfhoelihclbaaGreatDoor.w.e

namespace Go.Proofs.YtijfhoelihclbaaGreatDoor.w.e
open Go Go.Abs Go.Abs.Ty
set_option linter.unusedVariables false
set_option maxRecDepth 100000
set_option maxHeartbeats 2000000
noncomputable section
theorem CH:∀(n:Nat) (x:Tree),Dp n x→T .aD x
 |0,x,h=>by subst h;exact .aD 0 [] [] [] (by simp) (by simp) (by simp) (by simp)
 |n+1,x,⟨k,s,os,bs,e,l1,l2,h1,h2⟩=>by
  subst e
  refine .aD k s os bs l1 (fun y hy=>CH n y (h1 y hy)) l2 fun y hy=> ?_
  obtain⟨nm,r,rfl,h3⟩:=h2 y hy
  obtain⟨k2,s2,o2,b2,e2,l3,h4,l4,h5⟩:=T.aR (CH n _ h3)
  obtain rfl:=Tree.agg.inj e2
  exact .bh nm k2 s2 o2 b2 l3 h4 l4 h5
theorem Wh {x y:Tree}(hx:T .aD x)(hy:T .aD y):∃n,Dp n x∧Dp n y:=by
 obtain⟨n,h1⟩:=Gx hx
 obtain⟨k,h2⟩:=Gx hy
 exact⟨max n k,wI (Nat.le_max_left _ _) h1,wI (Nat.le_max_right _ _) h2⟩
theorem adh (m:Int):∀x,T .aD x→R1 (cf m) 46 x (s4 x):=fun x hx=>by
 obtain⟨n,h⟩:=Gx hx
 exact(aac m n x (Dp.up _ _ h)).1
theorem agV {x:Tree}(hx:T .aD x):T .aD (s4 x):=by
 obtain⟨n,h⟩:=Gx hx
 exact CH _ _ (Dp.up _ _ h).of
theorem rQ:T .aD gi:=.aD 0 [] [] [] (by simp) (by simp) (by simp) (by simp)
theorem adi (m:Int):∀x,T .aD x→R1 (cf m) 20 x x:=fun x hx=>by
 obtain⟨n,h⟩:=Gx hx
 exact M3 m n x h
theorem Po (m:Int):∀x y,T .aD x∧T .aD y→R2 (cf m) 8 x y (.bool (same x y)):=fun x y h=>by
 obtain⟨n,h1,h2⟩:=Wh h.1 h.2
 exact OJ m n x y ⟨h1,h2⟩
theorem Bv (m:Int):∃J:Tree→Tree→Tree×Int,∀x y,(T .aD x∧T .aD y)→R2 (cf m) 12 x y (.bX [(J x y).1,.int .i64 (J x y).2])∧T .aD (J x y).1∧∃n,Dp n x∧Dp n y∧J x y=vt n x y:=by
 obtain⟨f,hf⟩:=eF (α:=Tree×Tree) (β:=Tree×Int) (P:=fun p=>T .aD p.1∧T .aD p.2) (Q:=fun p r=>R2 (cf m) 12 p.1 p.2 (.bX [r.1,.int .i64 r.2])∧T .aD r.1∧∃n,Dp n p.1∧Dp n p.2∧r=vt n p.1 p.2) fun p hp=>by
  obtain⟨n,h1,h2⟩:=Wh hp.1 hp.2
  exact⟨vt n p.1 p.2,O1 m n _ _ h1 h2,CH _ _ (yU n _ _ h1 h2),n,h1,h2,rfl⟩
 exact⟨fun x y=>f (x,y),fun x y h=>hf (x,y) h⟩
def vV (m:Int):Tree→Int:=(x9 m).choose
theorem Y3 (m:Int):∀x,T .bJ x→R1 (cf m) 9 x (.int .i64 (vV m x)):=fun x h=>((x9 m).choose_spec x h).1
theorem Y4 (m:Int){x:Tree}(h:T .bJ x)(h0:vV m x=0):Rt x:=((x9 m).choose_spec x h).2.1 h0
def Ag (m:Int):Tree→Int:=(La m).choose
theorem IE (m:Int):∀x,T .dw x→R1 (cf m) 11 x (.int .i64 (Ag m x)):=fun x h=>((La m).choose_spec x h).1
def ctF (m:Int):Tree→Int:=(CF m).choose
theorem adj (m:Int):∀x,T .aD x→R1 (cf m) 13 x (.int .i64 (ctF m x)):=fun x h=>((CF m).choose_spec x h).1
def Wi (m:Int):Tree→Int:=(vS m).choose
theorem adk (m:Int):∀x,T .dA x→R1 (cf m) 16 x (.int .i64 (Wi m x)):=fun x h=>((vS m).choose_spec x h).1
theorem Lb (m:Int){x:Tree}(h:T .dA x):Wi m x=0↔∀y∈lG x,y=.int .i64 0:=⟨((vS m).choose_spec x h).2.1,((vS m).choose_spec x h).2.2⟩
def JF (m:Int):Tree→Tree→Tree×Int:=(Bv m).choose
theorem aaL (m:Int):∀x y,T .aD x∧T .aD y→R2 (cf m) 12 x y (.bX [(JF m x y).1,.int .i64 (JF m x y).2]):=fun x y h=>((Bv m).choose_spec x y h).1
theorem adl (m:Int){x y:Tree}(hx:T .aD x)(hy:T .aD y):T .aD (JF m x y).1:=((Bv m).choose_spec x y ⟨hx,hy⟩).2.1
theorem Wj (m:Int):∃F:Tree→Tree→Bool,∀x y,(x=.int .u8 0∧T .aD y)→R2 (cf m) 62 x y (.bool (F x y))∧(True):=by
 refine tO (P:=fun x y=>x=.int .u8 0∧T .aD y) (mk:=fun(r:Bool)=>.bool r) (Post:=fun x y r=>True) fun x y hx=> ?_
 obtain⟨hx,hy⟩:=hx
 show ∃r:{r:Bool // True},ay (cf m) 62 [.t x,.t y] [] (.ret (.t (.bool r.1)) [] [])
 subst hx
 have cv:=hy
 obtain⟨Bw,nM,aaM,jH,rfl,eT,bq,jQ,dP⟩:=T.aR cv
 obtain⟨ev,ai⟩:∃ev,aF (cf m) ev:=⟨_,aH⟩
 refine AX.start 48 2 Tryz.func62 rfl (by decide) rfl rfl (by decide) ?_
 refine AX.frames ?_
 refine⟨⟨true, ?_⟩,kF ah ai [oF,oF,oF,oF,oF,oF,oF] (by kernel_rfl)⟩
 trivial
theorem Wk (m:Int):∃F:Tree→Tree→Bool,∀x y,(x=.int .u8 6∧T .aD y)→R2 (cf m) 62 x y (.bool (F x y))∧(True):=by
  refine tO (P:=fun x y=>x=.int .u8 6∧T .aD y) (mk:=fun(r:Bool)=>.bool r) (Post:=fun x y r=>True) fun x y hx=> ?_
  obtain⟨hx,hy⟩:=hx
  show ∃r:{r:Bool // True},ay (cf m) 62 [.t x,.t y] [] (.ret (.t (.bool r.1)) [] [])
  subst hx
  have cv:=hy
  obtain⟨Bw,nM,aaM,jH,rfl,eT,bq,jQ,dP⟩:=T.aR cv
  obtain⟨ev,ai⟩:∃ev,aF (cf m) ev:=⟨_,aH⟩
  refine AX.start 48 2 Tryz.func62 rfl (by decide) rfl rfl (by decide) ?_
  refine AX.frames ?_
  rcases aK ((Bw==6)) with hg2|hg2
  ·
   have HT:=eq_of_beq hg2
   refine⟨⟨true, ?_⟩,kF ah ai [oF,oF,oF,oF,oF,oT,oB hg2,oB hg2,oB hg2,oB hg2] (by kernel_rfl)⟩
   trivial
  ·
   have HT:=ne_of_beq_false hg2
   refine⟨⟨(Bw==4), ?_⟩,kF ah ai [oF,oF,oF,oF,oF,oT,oB hg2,oB hg2,oB hg2,oB hg2] (by kernel_rfl)⟩
   trivial
theorem Wl (m:Int):∃F:Tree→Tree→Bool,∀x y,(x=.int .u8 7∧T .aD y)→R2 (cf m) 62 x y (.bool (F x y))∧(True):=by
  refine tO (P:=fun x y=>x=.int .u8 7∧T .aD y) (mk:=fun(r:Bool)=>.bool r) (Post:=fun x y r=>True) fun x y hx=> ?_
  obtain⟨hx,hy⟩:=hx
  show ∃r:{r:Bool // True},ay (cf m) 62 [.t x,.t y] [] (.ret (.t (.bool r.1)) [] [])
  subst hx
  have cv:=hy
  obtain⟨Bw,nM,aaM,jH,rfl,eT,bq,jQ,dP⟩:=T.aR cv
  obtain⟨ev,ai,Fe⟩:∃ev,aF (cf m) ev∧Has ev 46 (jP (T .aD) s4):=⟨_,(ax (bp (adh m)) aH),az⟩
  refine AX.start 48 2 Tryz.func62 rfl (by decide) rfl rfl (by decide) ?_
  refine AX.frames ?_
  rcases aK ((Bw==5)) with bD|bD
  ·
   have gM:=eq_of_beq bD
   have Lc:=agV cv
   obtain⟨Wm,name_3,al2,Y5,eq_3,Wn,Wo,Wp,Wq⟩:=T.aR Lc
   rw[eq_3] at Lc
   have Ws:=bf Fe cv
   rw[eq_3] at Ws
   rcases aK ((Wm==4)) with bu|bu
   ·
    have HU:=eq_of_beq bu
    refine⟨⟨true, ?_⟩,kF ah ai [oF,oF,oF,oF,oF,oF,oT,oB bD,oC Ws,oB bu,oB bu,oB bu,oB bu] (by kernel_rfl)⟩
    trivial
   ·
    have HU:=ne_of_beq_false bu
    refine⟨⟨(Wm==0), ?_⟩,kF ah ai [oF,oF,oF,oF,oF,oF,oT,oB bD,oC Ws,oB bu,oB bu,oB bu,oB bu] (by kernel_rfl)⟩
    trivial
  ·
   have gM:=ne_of_beq_false bD
   refine⟨⟨(Bw==4), ?_⟩,kF ah ai [oF,oF,oF,oF,oF,oF,oT,oB bD] (by kernel_rfl)⟩
   trivial
theorem akx (m:Int)(k:Int)(s:List UInt8)(os bs:List Tree):fe (live.cfg m) (live.kq m) 300 62 [.t (.int .u8 1),.t (aG k s os bs)] []=some (.ret (.t (.bool (k==1))) [] []):=by kernel_rfl
theorem aky (m:Int)(k:Int)(s:List UInt8)(os bs:List Tree):fe (live.cfg m) (live.kq m) 300 62 [.t (.int .u8 2),.t (aG k s os bs)] []=some (.ret (.t (.bool (k==2))) [] []):=by kernel_rfl
theorem akz (m:Int)(k:Int)(s:List UInt8)(os bs:List Tree):fe (live.cfg m) (live.kq m) 300 62 [.t (.int .u8 3),.t (aG k s os bs)] []=some (.ret (.t (.bool (k==3))) [] []):=by kernel_rfl
theorem akA (m:Int)(k:Int)(s:List UInt8)(os bs:List Tree):fe (live.cfg m) (live.kq m) 300 62 [.t (.int .u8 4),.t (aG k s os bs)] []=some (.ret (.t (.bool (k==4))) [] []):=by kernel_rfl
theorem akB (m:Int)(k:Int)(s:List UInt8)(os bs:List Tree):fe (live.cfg m) (live.kq m) 300 62 [.t (.int .u8 5),.t (aG k s os bs)] []=some (.ret (.t (.bool (k==5))) [] []):=by kernel_rfl
theorem eG {m:Int}{g:FuncId}{args:List TV}{aX:List aV}{r:bG}(h:fe (live.cfg m) (live.kq m) 300 g args aX=some r):ay (cf m) g args aX r:=by
 rw[qx] at h
 exact fun G w vs hw hg ha hh hv=>qo (live.ah m) (live.zb m) 300 g args aX _ h G w vs hw hg ha hh hv
theorem Pp (m:Int):∃f:Int→Tree→Bool,∀n x,((n=0∨n=1∨n=2∨n=3∨n=4∨n=5∨n=6∨n=7)∧T .aD x)→R2 (cf m) 62 (.int .u8 n) x (.bool (f n x)):=by
  obtain⟨f0,h0⟩:=Wj m
  obtain⟨f6,h6⟩:=Wk m
  obtain⟨f7,h7⟩:=Wl m
  obtain⟨f,hf⟩:=eF (α:=Int×Tree) (β:=Bool) (P:=fun p=>(p.1=0∨p.1=1∨p.1=2∨p.1=3∨p.1=4∨p.1=5∨p.1=6∨p.1=7)∧T .aD p.2) (Q:=fun p r=>R2 (cf m) 62 (.int .u8 p.1) p.2 (.bool r)) fun⟨n,x⟩ ⟨hn,hx⟩=>by
    simp only at hn hx ⊢
    rcases hn with rfl|rfl|rfl|rfl|rfl|rfl|rfl|rfl
    · exact⟨_,(h0 _ _ ⟨rfl,hx⟩).1⟩
    iterate 5
      · obtain⟨k,s,os,bs,rfl,_⟩:=T.aR hx
        first|exact⟨_,eG (akx m k s os bs)⟩|exact⟨_,eG (aky m k s os bs)⟩|exact⟨_,eG (akz m k s os bs)⟩|exact⟨_,eG (akA m k s os bs)⟩|exact⟨_,eG (akB m k s os bs)⟩
    · exact⟨_,(h6 _ _ ⟨rfl,hx⟩).1⟩
    · exact⟨_,(h7 _ _ ⟨rfl,hx⟩).1⟩
  exact⟨fun n x=>f (n,x),fun n x h=>hf (n,x) h⟩
def IF (m:Int):Int→Tree→Bool:=(Pp m).choose
theorem adn (m:Int):∀n x,((n=0∨n=1∨n=2∨n=3∨n=4∨n=5∨n=6∨n=7)∧T .aD x)→R2 (cf m) 62 (.int .u8 n) x (.bool (IF m n x)):=(Pp m).choose_spec
end
end Go.Proofs.YtijfhoelihclbaaGreatDoor.w.e

namespace Go.Proofs.YtijfhoelihclbaaGreatDoor.w.e
open Go Go.Abs Go.Abs.Ty
set_option linter.unusedVariables false
set_option maxRecDepth 100000
set_option maxHeartbeats 2000000
noncomputable section
theorem Ld (m:Int)(s:List UInt8):R1 (cf m) 55 (.str s) (ZU s):=by
 obtain⟨ev,ai⟩:∃ev,aF (cf m) ev:=⟨_,aH⟩
 refine ay.fu ?_
 refine AX.start 5 1 Tryz.func55 rfl (by decide) rfl rfl (by decide) ?_
 refine AX.frames ?_
 exact⟨(),kF ah ai [] (by kernel_rfl)⟩
theorem Pq {l:List Tree}{i:Nat}{e:Tree}(h:l[i]?=some e):l.drop i=e::l.drop (i+1):=by
 obtain⟨hi,rfl⟩:=List.getElem?_eq_some_iff.1 h
 exact List.drop_eq_getElem_cons hi
theorem Y6 {J:Tree→Tree→Tree×Int}{l:List Tree}{i:Nat}{e t t':Tree}{r:Tree×Int}(he:l[i]?=some e)(hw:(J t e).2=0)(ht:(J t e).1=t')(h:bI J t (l.drop i)=r):bI J t' (l.drop (i+1))=r:=by
 rw[Pq he] at h
 unfold bI at h
 rw[if_neg (fun q=>q hw),ht] at h
 exact h
theorem ado {J:Tree→Tree→Tree×Int}{l:List Tree}{i:Nat}{e t:Tree}{w:Int}{r:Tree×Int}(he:l[i]?=some e)(hw:(J t e).2=w)(hn:w≠0)(h:bI J t (l.drop i)=r):r=(gi,w):=by
 rw[Pq he] at h
 unfold bI at h
 subst hw
 rw[if_pos hn] at h
 exact h.symm
theorem adp {J:Tree→Tree→Tree×Int}{l:List Tree}{i:Nat}{t:Tree}{r:Tree×Int}(hi:l.length≤i)(h:bI J t (l.drop i)=r):r=(t,0):=by
 rw[List.drop_of_length_le hi] at h
 exact h.symm
theorem wL {J:Tree→Tree→Tree×Int}(hJ:∀x y,T .aD x→T .aD y→T .aD (J x y).1):∀{l:List Tree} {t:Tree},T .aD t→(∀y∈l,T .aD y)→T .aD (bI J t l).1
 | [],t,ht,_=>ht
 |x::r,t,ht,h=>by
  unfold bI
  split
  · exact rQ
  · exact wL hJ (hJ _ _ ht (h x List.mem_cons_self)) fun y hy=>h y (List.mem_cons_of_mem _ hy)
theorem Rr (m:Int)(l:List Tree)(hl:l.length≤4194304)(h2:∀y∈l,T .aD y):R1 (cf m) 57 (.sl l) (.bX [(bI (JF m) gi l).1,.int .i64 (bI (JF m) gi l).2]):=by
 obtain⟨ev,ai,vN⟩:∃ev,aF (cf m) ev∧Has ev 12 (r7 (fun x y=>T .aD x∧T .aD y) fun x y=>.bX [(JF m x y).1,.int .i64 (JF m x y).2]):=⟨_,(ax (dH (aaL m)) aH),az⟩
 refine ay.fu ?_
 refine AX.start 24 1 Tryz.func57 rfl (by decide) rfl rfl (by decide) ?_
 refine AX.seq ?_
 refine AX.region ?_
 refine ak.go (f:=0) ai (gQ eu rfl rfl) ?_
 refine ak.go (f:=0) ai (au rfl) ?_
 refine ak.nil ?_
 refine AX.seq ?_
 refine AX.seq ?_
 refine AX.region ?_
 refine ak.go (f:=0) ai (av rfl) ?_
 refine ak.go (f:=0) ai (gX rfl iU rfl) ?_
 refine ak.go (f:=0) ai (av rfl) ?_
 refine ak.nil ?_
 refine AX.block ?_
 refine AX.re (Re.zk (k:=.loc [0]) (m:=1) 2 rfl rfl sK) ?_
 refine AX.re (Re.zk (k:=.loc [0]) (m:=1) 3 rfl rfl sK) ?_
 refine AX.loop (α:=Nat×Int×List UInt8×List Tree×List Tree) (fun x=>⟨bH 24 [(2,.ptr (.loc [0]) 0),(6,.t (.sl l)),(7,.t (.int .i64 ((l.length:Nat):Int))),(8,.t (.int .i64 ((x.1:Nat):Int)))],[(.loc [0],.cells 38 [.t (.int .u8 x.2.1),.t (.str x.2.2.1),.t (.sl x.2.2.2.1),.t (.sl x.2.2.2.2)])],1⟩) (fun x=>(x.1≤l.length)∧(bI (JF m) (.agg [.int .u8 x.2.1,.str x.2.2.1,.sl x.2.2.2.1,.sl x.2.2.2.2]) (l.drop x.1)=bI (JF m) gi l)∧(T .aD (.agg [.int .u8 x.2.1,.str x.2.2.1,.sl x.2.2.2.1,.sl x.2.2.2.2]))) (fun x=>l.length - x.1) (⟨0,0,[],[],[]⟩) (Re.sq [.loc [0]] ⟨rfl,rfl,rfl,rfl,trivial⟩ ⟨⟨.loc [0],_,rfl,rfl,.inl rfl⟩,trivial⟩ (by decide) rfl rfl (by decide)) ⟨Nat.zero_le _,rfl,rQ⟩ (fun x hok=> ?_)
 obtain⟨i_1,Rs,Ru,Rv,Rw⟩:=x
 replace hok:(i_1≤l.length)∧(bI (JF m) (.agg [.int .u8 Rs,.str Ru,.sl Rv,.sl Rw]) (l.drop i_1)=bI (JF m) gi l)∧(T .aD (.agg [.int .u8 Rs,.str Ru,.sl Rv,.sl Rw])):=hok
 obtain⟨iX,bN,gW⟩:=hok
 show AX _ _ ⟨bH 24 [(2,.ptr (.loc [0]) 0),(6,.t (.sl l)),(7,.t (.int .i64 ((l.length:Nat):Int))),(8,.t (.int .i64 ((i_1:Nat):Int)))],[(.loc [0],.cells 38 [.t (.int .u8 Rs),.t (.str Ru),.t (.sl Rv),.t (.sl Rw)])],1⟩ _
 refine AX.seq ?_
 refine AX.region ?_
 refine ak.go (f:=0) ai (ia rfl rfl) ?_
 refine ak.nil ?_
 refine AX.seq ?_
 refine AX.cond rfl (fun bD=> ?_) (fun bD=> ?_)
 ·
  have gM:=of_decide_eq_true bD
  refine AX.skip ?_
  refine AX.seq ?_
  refine AX.block ?_
  refine AX.seq ?_
  refine AX.region ?_
  obtain⟨e3,gY⟩:∃e,l[i_1]?=some e:=⟨l[i_1]'(by first|omega|(simp;omega)),List.getElem?_eq_getElem _⟩
  have iI:=(h2 e3 (List.mem_of_getElem? gY))
  obtain⟨qM,cq,vU,cE,rfl,mO,kU,mP,jR⟩:=T.aR iI
  refine ak.go (f:=0) ai (gL (m:=i_1) rfl rfl iU rfl eu gY rfl) ?_
  refine ak.go (f:=0) ai (aS rfl (ld eu rfl rfl)) ?_
  refine ak.go (f:=0) ai (gQ eu rfl rfl) ?_
  refine ak.lQ (f:=0) ai (br rfl rfl (mX eu rfl rfl)) ?_
  refine ak.nil ?_
  refine AX.seq ?_
  refine AX.region ?_
  refine ak.go (f:=0) ai (aS rfl (ld eu rfl rfl)) ?_
  refine ak.go (f:=0) ai (aS rfl (ld eu rfl rfl)) ?_
  obtain⟨w_5,adq⟩:∃w,(JF m (.agg [.int .u8 Rs,.str Ru,.sl Rv,.sl Rw]) (.agg [.int .u8 qM,.str cq,.sl vU,.sl cE])).2=w:=⟨_,rfl⟩
  have xS:=adl m gW iI
  obtain⟨yd,ua,ED,pU,eq_6,Ns,Nt,Nu,Nv⟩:=T.aR xS
  rw[eq_6] at xS
  have Nw:=dm vN (x:=(.agg [.int .u8 Rs,.str Ru,.sl Rv,.sl Rw])) (y:=(.agg [.int .u8 qM,.str cq,.sl vU,.sl cE])) ⟨gW,iI⟩
  rw[eq_6] at Nw
  rw[adq] at Nw
  refine ak.go (f:=0) ai (bU (Oa rfl rfl) Nw) ?_
  refine ak.go (f:=0) ai (av rfl) ?_
  refine ak.go (f:=0) ai (cW rfl rfl) ?_
  refine ak.go (f:=0) ai (cW rfl rfl) ?_
  refine ak.lQ (f:=0) ai (br rfl rfl (mX eu rfl rfl)) ?_
  refine ak.go (f:=0) ai (au rfl) ?_
  refine ak.nil ?_
  refine AX.seq ?_
  refine AX.region ?_
  refine ak.go (f:=0) ai (av rfl) ?_
  refine ak.go (f:=0) ai (SN rfl rfl) ?_
  refine ak.nil ?_
  refine AX.cond rfl (fun gp=> ?_) (fun gp=> ?_)
  ·
   have xQ:=aA gp
   refine AX.seq ?_
   refine AX.region ?_
   refine ak.go (f:=0) ai (rE rfl Rc rfl rfl) ?_
   refine ak.go (f:=0) ai (av rfl) ?_
   refine ak.lQ (f:=0) ai (br rfl rfl (mX eu rfl rfl)) ?_
   refine ak.go (f:=0) ai (au rfl) ?_
   refine ak.nil ?_
   refine AX.ret ?_
   refine AX.bx ?_
   refine AX.bt ?_
   refine AX.leave (e:=.ret) (by simp) ?_
   refine AX.bx ?_
   refine AX.bt ?_
   have hres:bI (JF m) gi l=(.agg [.int .u8 0,.str [],.sl [],.sl []],w_5):=ado gY adq (aA gp) bN
   show ∃_:Unit,cB (cf m) _ 0 (.ret (.t (.bX [(bI (JF m) gi l).1,.int .i64 (bI (JF m) gi l).2])) [] []) _ _
   rw[hres]
   exact⟨(),.inl rfl⟩
  ·
   have xQ:=aq gp
   refine AX.skip ?_
   refine AX.cC ?_
   refine AX.region ?_
   refine ak.go (f:=0) ai (kI rfl rfl (by omega) (by omega)) ?_
   refine ak.go (f:=0) ai (av rfl) ?_
   refine ak.nil ?_
   exact⟨.inl ⟨⟨i_1+1,yd,ua,ED,pU⟩,⟨⟨(by show(i_1+1)≤l.length;first|omega|(simp only[List.length_append,List.length_cons,List.length_nil,List.length_singleton] at*;omega)|(simp;done)|(simp;omega)),(Y6 gY (adq.trans (aq gp)) eq_6 bN),xS⟩,(by show(l.length - (i_1+1))<(l.length - i_1);omega)⟩⟩,rfl,Re.sq [.loc [0]] ⟨rfl,rfl,rfl,rfl,trivial⟩ ⟨⟨.loc [0],_,rfl,rfl,.inl rfl⟩,trivial⟩ (by decide) rfl rfl (by decide)⟩
 ·
  have gM:=of_decide_eq_false bD
  refine AX.exit ?_
  refine AX.eP ?_
  refine AX.leave (e:=.exit 0) (by simp) ?_
  refine AX.fV ?_
  refine AX.seq ?_
  refine AX.region ?_
  refine ak.go (f:=0) ai (aS rfl (ld eu rfl rfl)) ?_
  refine ak.lQ (f:=0) ai (br rfl rfl (mX eu rfl rfl)) ?_
  refine ak.go (f:=0) ai (au rfl) ?_
  refine ak.nil ?_
  refine AX.ret ?_
  have hres:bI (JF m) gi l=(.agg [.int .u8 Rs,.str Ru,.sl Rv,.sl Rw],0):=adp (by omega) bN
  show ∃_:Unit,cB (cf m) _ 0 (.ret (.t (.bX [(bI (JF m) gi l).1,.int .i64 (bI (JF m) gi l).2])) [] []) _ _
  rw[hres]
  exact⟨(),.inl rfl⟩
end
end Go.Proofs.YtijfhoelihclbaaGreatDoor.w.e

namespace Go.Proofs.YtijfhoelihclbaaGreatDoor.w.e
open Go Go.Abs Go.Abs.Ty
set_option linter.unusedVariables false
set_option maxRecDepth 100000
set_option maxHeartbeats 2000000
noncomputable section
abbrev akC:TI:={size:=2,bytes:=48,agg:=true,zero:=some (.agg [.aL,.aL]),desc:=descOf 30}
theorem qY {m:Int}:(cf m).P.ty 30=some akC:=by kernel_rfl
abbrev agW:TI:={size:=3,bytes:=64,agg:=true,zero:=some (.agg [.t (.str []),.aL,.aL]),desc:=descOf 49}
theorem Wt {m:Int}:(cf m).P.ty 49=some agW:=by kernel_rfl
theorem adr {m:Int}:eX (cf m).P 49 2=some 2:=by kernel_rfl
theorem ads {m:Int}:eX (cf m).P 68 0=some 0:=by kernel_rfl
def aI:aV:=.map [(.t (.int .u8 9),.t (.agg [.int .u8 6,.int .u8 0,.int .u8 1]),0),(.t (.int .u8 10),.t (.agg [.int .u8 4,.int .u8 0,.int .u8 1]),1),(.t (.int .u8 11),.t (.agg [.int .u8 3,.int .u8 0,.int .u8 1]),2),(.t (.int .u8 12),.t (.agg [.int .u8 1,.int .u8 0,.int .u8 1]),3),(.t (.int .u8 13),.t (.agg [.int .u8 2,.int .u8 0,.int .u8 2]),4),(.t (.int .u8 23),.t (.agg [.int .u8 4,.int .u8 7,.int .u8 1]),5),(.t (.int .u8 27),.t (.agg [.int .u8 5,.int .u8 0,.int .u8 1]),6)] 7
def aU (op:Int):Int×Int×Int:=if op=9 then(6,0,1) else if op=10 then(4,0,1) else if op=11 then(3,0,1) else if op=12 then(1,0,1) else if op=13 then(2,0,2) else if op=23 then(4,7,1) else if op=27 then(5,0,1) else if op≤16 then(1,1,1) else if op≤18 then(0,0,1) else if op≤22 then(2,2,1) else if op≤26 then(2,2,2) else(5,5,1)
def dc (E:Env):List aV:=[.cells 68 [.t (.sl E.ts),.t (.sl E.ac),.t (.str E.p),.t (.str E.r),.t (.sl E.c),.map (.arg 1)],aI]
structure uM (E:Env):Prop where
 lt:E.ts.length≤4194304
 ht:∀y∈E.ts,T .aC y
 la:E.ac.length≤4194304
 ha:∀y∈E.ac,T .aY y
 lc:E.c.length≤4194304
 hc:∀y∈E.c,T .bh y
theorem Le:T .aC r6:=.aC _ _ _ (by simp) (by simp) (by simp) (by simp)
theorem agX:T .aY Mm:=.aY _ _ _ _ (by simp) (by simp) (by simp) (by simp) (by simp) (by simp)
theorem wM {k:K}{z:Tree}{l:List Tree}{s:List UInt8}(hz:T k z)(h:∀y∈l,T k y):T k (cr z s l).1:=by
 rcases Qs (z:=z) (s:=s) (l:=l) with e|e
 · rw[e];exact hz
 · exact h _ e
theorem ff {b:Bool}(h:b=false):¬b=true:=by rw[h];decide
theorem IG {q:Tree→Bool}{l:List Tree}(h:¬QF q l<0):∃(j:Nat) (e:Tree),QF q l=(j:Int)∧l[j]?=some e∧l.find? q=some e:=by
 unfold QF at h ⊢
 cases hf:l.findIdx? q with
 |none=>rw[hf] at h;exact absurd (by decide) h
 |some j=>
  obtain⟨hj,h1,h2⟩:=List.findIdx?_eq_some_iff_getElem.1 hf
  refine⟨j,l[j],rfl,List.getElem?_eq_getElem hj, ?_⟩
  rw[List.find?_eq_some_iff_getElem]
  exact⟨h1,j,hj,rfl,fun i hi=>by have:=h2 i hi;simpa using this⟩
theorem II {q:Tree→Bool}{l:List Tree}(h:QF q l<0):l.find? q=none:=by
 unfold QF at h
 cases hf:l.findIdx? q with
 |none=>
  rw[List.findIdx?_eq_none_iff] at hf
  rw[List.find?_eq_none]
  intro x hx
  rw[hf x hx];decide
 |some j=>rw[hf] at h;exact absurd h (by show ¬(j:Int)<0;omega)
theorem Wu (m:Int):ay (cf m) 18 [] [] (.ret (.map (.loc [1])) [] [(.loc [1],aI)]):=eG (by kernel_rfl)
theorem agY (m:Int)(E:Env):fe (live.cfg m) (live.kq m) 300 63 [.ptr (.arg 0) 0,.t (.int .u8 9)] (dc E)=some (.ret (.t (.agg [.int .u8 (aU 9).1,.int .u8 (aU 9).2.1,.int .u8 (aU 9).2.2])) (dc E) []):=by kernel_rfl
theorem adt (m:Int)(E:Env):fe (live.cfg m) (live.kq m) 300 63 [.ptr (.arg 0) 0,.t (.int .u8 10)] (dc E)=some (.ret (.t (.agg [.int .u8 (aU 10).1,.int .u8 (aU 10).2.1,.int .u8 (aU 10).2.2])) (dc E) []):=by kernel_rfl
theorem adu (m:Int)(E:Env):fe (live.cfg m) (live.kq m) 300 63 [.ptr (.arg 0) 0,.t (.int .u8 11)] (dc E)=some (.ret (.t (.agg [.int .u8 (aU 11).1,.int .u8 (aU 11).2.1,.int .u8 (aU 11).2.2])) (dc E) []):=by kernel_rfl
theorem adv (m:Int)(E:Env):fe (live.cfg m) (live.kq m) 300 63 [.ptr (.arg 0) 0,.t (.int .u8 12)] (dc E)=some (.ret (.t (.agg [.int .u8 (aU 12).1,.int .u8 (aU 12).2.1,.int .u8 (aU 12).2.2])) (dc E) []):=by kernel_rfl
theorem adw (m:Int)(E:Env):fe (live.cfg m) (live.kq m) 300 63 [.ptr (.arg 0) 0,.t (.int .u8 13)] (dc E)=some (.ret (.t (.agg [.int .u8 (aU 13).1,.int .u8 (aU 13).2.1,.int .u8 (aU 13).2.2])) (dc E) []):=by kernel_rfl
theorem adx (m:Int)(E:Env):fe (live.cfg m) (live.kq m) 300 63 [.ptr (.arg 0) 0,.t (.int .u8 15)] (dc E)=some (.ret (.t (.agg [.int .u8 (aU 15).1,.int .u8 (aU 15).2.1,.int .u8 (aU 15).2.2])) (dc E) []):=by kernel_rfl
theorem ady (m:Int)(E:Env):fe (live.cfg m) (live.kq m) 300 63 [.ptr (.arg 0) 0,.t (.int .u8 16)] (dc E)=some (.ret (.t (.agg [.int .u8 (aU 16).1,.int .u8 (aU 16).2.1,.int .u8 (aU 16).2.2])) (dc E) []):=by kernel_rfl
theorem adz (m:Int)(E:Env):fe (live.cfg m) (live.kq m) 300 63 [.ptr (.arg 0) 0,.t (.int .u8 17)] (dc E)=some (.ret (.t (.agg [.int .u8 (aU 17).1,.int .u8 (aU 17).2.1,.int .u8 (aU 17).2.2])) (dc E) []):=by kernel_rfl
theorem adA (m:Int)(E:Env):fe (live.cfg m) (live.kq m) 300 63 [.ptr (.arg 0) 0,.t (.int .u8 18)] (dc E)=some (.ret (.t (.agg [.int .u8 (aU 18).1,.int .u8 (aU 18).2.1,.int .u8 (aU 18).2.2])) (dc E) []):=by kernel_rfl
theorem adB (m:Int)(E:Env):fe (live.cfg m) (live.kq m) 300 63 [.ptr (.arg 0) 0,.t (.int .u8 19)] (dc E)=some (.ret (.t (.agg [.int .u8 (aU 19).1,.int .u8 (aU 19).2.1,.int .u8 (aU 19).2.2])) (dc E) []):=by kernel_rfl
theorem adC (m:Int)(E:Env):fe (live.cfg m) (live.kq m) 300 63 [.ptr (.arg 0) 0,.t (.int .u8 20)] (dc E)=some (.ret (.t (.agg [.int .u8 (aU 20).1,.int .u8 (aU 20).2.1,.int .u8 (aU 20).2.2])) (dc E) []):=by kernel_rfl
theorem adD (m:Int)(E:Env):fe (live.cfg m) (live.kq m) 300 63 [.ptr (.arg 0) 0,.t (.int .u8 21)] (dc E)=some (.ret (.t (.agg [.int .u8 (aU 21).1,.int .u8 (aU 21).2.1,.int .u8 (aU 21).2.2])) (dc E) []):=by kernel_rfl
theorem adE (m:Int)(E:Env):fe (live.cfg m) (live.kq m) 300 63 [.ptr (.arg 0) 0,.t (.int .u8 22)] (dc E)=some (.ret (.t (.agg [.int .u8 (aU 22).1,.int .u8 (aU 22).2.1,.int .u8 (aU 22).2.2])) (dc E) []):=by kernel_rfl
theorem adF (m:Int)(E:Env):fe (live.cfg m) (live.kq m) 300 63 [.ptr (.arg 0) 0,.t (.int .u8 23)] (dc E)=some (.ret (.t (.agg [.int .u8 (aU 23).1,.int .u8 (aU 23).2.1,.int .u8 (aU 23).2.2])) (dc E) []):=by kernel_rfl
theorem adG (m:Int)(E:Env):fe (live.cfg m) (live.kq m) 300 63 [.ptr (.arg 0) 0,.t (.int .u8 24)] (dc E)=some (.ret (.t (.agg [.int .u8 (aU 24).1,.int .u8 (aU 24).2.1,.int .u8 (aU 24).2.2])) (dc E) []):=by kernel_rfl
theorem adH (m:Int)(E:Env):fe (live.cfg m) (live.kq m) 300 63 [.ptr (.arg 0) 0,.t (.int .u8 25)] (dc E)=some (.ret (.t (.agg [.int .u8 (aU 25).1,.int .u8 (aU 25).2.1,.int .u8 (aU 25).2.2])) (dc E) []):=by kernel_rfl
theorem adI (m:Int)(E:Env):fe (live.cfg m) (live.kq m) 300 63 [.ptr (.arg 0) 0,.t (.int .u8 26)] (dc E)=some (.ret (.t (.agg [.int .u8 (aU 26).1,.int .u8 (aU 26).2.1,.int .u8 (aU 26).2.2])) (dc E) []):=by kernel_rfl
theorem adJ (m:Int)(E:Env):fe (live.cfg m) (live.kq m) 300 63 [.ptr (.arg 0) 0,.t (.int .u8 27)] (dc E)=some (.ret (.t (.agg [.int .u8 (aU 27).1,.int .u8 (aU 27).2.1,.int .u8 (aU 27).2.2])) (dc E) []):=by kernel_rfl
theorem adK (m:Int)(E:Env):fe (live.cfg m) (live.kq m) 300 63 [.ptr (.arg 0) 0,.t (.int .u8 28)] (dc E)=some (.ret (.t (.agg [.int .u8 (aU 28).1,.int .u8 (aU 28).2.1,.int .u8 (aU 28).2.2])) (dc E) []):=by kernel_rfl
theorem adL (m:Int)(E:Env):fe (live.cfg m) (live.kq m) 300 63 [.ptr (.arg 0) 0,.t (.int .u8 29)] (dc E)=some (.ret (.t (.agg [.int .u8 (aU 29).1,.int .u8 (aU 29).2.1,.int .u8 (aU 29).2.2])) (dc E) []):=by kernel_rfl
theorem uf (m:Int)(E:Env)(op:Int)(h:9≤op∧op≤29∧op≠14):ay (cf m) 63 [.ptr (.arg 0) 0,.t (.int .u8 op)] (dc E) (.ret (.t (.agg [.int .u8 (aU op).1,.int .u8 (aU op).2.1,.int .u8 (aU op).2.2])) (dc E) []):=by
 have h2:op=9∨op=10∨op=11∨op=12∨op=13∨op=15∨op=16∨op=17∨op=18∨op=19∨op=20∨op=21∨op=22∨op=23∨op=24∨op=25∨op=26∨op=27∨op=28∨op=29:=by omega
 rcases h2 with rfl|rfl|rfl|rfl|rfl|rfl|rfl|rfl|rfl|rfl|rfl|rfl|rfl|rfl|rfl|rfl|rfl|rfl|rfl|rfl
 · exact eG (agY m E)
 · exact eG (adt m E)
 · exact eG (adu m E)
 · exact eG (adv m E)
 · exact eG (adw m E)
 · exact eG (adx m E)
 · exact eG (ady m E)
 · exact eG (adz m E)
 · exact eG (adA m E)
 · exact eG (adB m E)
 · exact eG (adC m E)
 · exact eG (adD m E)
 · exact eG (adE m E)
 · exact eG (adF m E)
 · exact eG (adG m E)
 · exact eG (adH m E)
 · exact eG (adI m E)
 · exact eG (adJ m E)
 · exact eG (adK m E)
 · exact eG (adL m E)
theorem Nx (m:Int)(E:Env)(hE:uM E)(t s:List UInt8):ay (cf m) 54 [.ptr (.arg 0) 0,.t (.str t),.t (.str s)] [.cells 68 [.t (.sl E.ts),.t (.sl E.ac),.t (.str E.p),.t (.str E.r),.t (.sl E.c),.map (.arg 1)],aI] (.ret (.t (.int .i64 (vu E t s))) [.cells 68 [.t (.sl E.ts),.t (.sl E.ac),.t (.str E.p),.t (.str E.r),.t (.sl E.c),.map (.arg 1)],aI] []):=by
  obtain⟨lt,ht,la,ha,lc,hc⟩:=hE
  obtain⟨ev,ai,agZ,GD⟩:∃ev,aF (cf m) ev∧Has ev 95 (r7 (fun x y=>x=.agg [.sl E.ts,.sl E.ac]∧∃s,y=.str s) fun _ y=>.bX [(cr Mm (Ty.strOf y) E.ac).1,.int .i64 (cr Mm (Ty.strOf y) E.ac).2])∧Has ev 17 (r7 (fun x y=>x=.agg [.sl E.ts,.sl E.ac]∧∃s,y=.str s) fun _ y=>.bX [(cr r6 (Ty.strOf y) E.ts).1,.int .i64 (cr r6 (Ty.strOf y) E.ts).2]):=⟨_,(ax ((dH fun x y h=>by obtain⟨e,s,e2⟩:=h;subst e;subst e2;exact ac8 m E.ts E.ac lt ht la ha s)) (ax ((dH fun x y h=>by obtain⟨e,s,e2⟩:=h;subst e;subst e2;exact Nr m E.ts E.ac lt ht la ha s)) aH)),az,(aj rfl az)⟩
  refine ay.fu ?_
  refine AX.start 33 3 Tryz.func54 rfl (by decide) rfl rfl (by decide) ?_
  refine AX.frames ?_
  rcases aK ((t==[65,99,116,105,111,110])) with hc1|hc1
  ·
   have Be:=eq_of_beq hc1
   have ej2:=dm agZ (x:=.agg [.sl E.ts,.sl E.ac]) (y:=.str s) ⟨rfl,_,rfl⟩
   replace ej2:ev 95 [.t (.agg [.sl E.ts,.sl E.ac]),.t (.str s)] []=some (bG.ret (.t (.bX [(cr Mm s E.ac).1,.int .i64 (cr Mm s E.ac).2])) [] []):=ej2
   have Lc:=wM (s:=s) agX ha
   obtain⟨al3,Y7,aaN,aev,eq_3,Wn,Wo,Wp,Wq,akD,akE⟩:=T.bP Lc
   rw[eq_3] at Lc
   have Ws:=ej2
   rw[eq_3] at Ws
   have hres:vu E t s=(cr Mm s E.ac).2:=if_pos hc1
   show ∃_:Unit,KE (cf m) (cB (cf m) _ 2 (.ret (.t (.int .i64 (vu E t s))) [.cells 68 [.t (.sl E.ts),.t (.sl E.ac),.t (.str E.p),.t (.str E.r),.t (.sl E.c),.map (.arg 1)],aI] [])) _ _ _
   rw[hres]
   exact⟨(),kF ah ai [oB hc1,oC Ws] (by kernel_rfl)⟩
  ·
   have Be:=ne_of_beq_false hc1
   have Xx:=dm GD (x:=.agg [.sl E.ts,.sl E.ac]) (y:=.str t) ⟨rfl,_,rfl⟩
   replace Xx:ev 17 [.t (.agg [.sl E.ts,.sl E.ac]),.t (.str t)] []=some (bG.ret (.t (.bX [(cr r6 t E.ts).1,.int .i64 (cr r6 t E.ts).2])) [] []):=Xx
   have xS:=wM (s:=t) Le ht
   obtain⟨ua,Rx,pU,eq_6,Ns,Nt,Nu,Nv⟩:=T.bg xS
   rw[eq_6] at xS
   have Nw:=Xx
   rw[eq_6] at Nw
   have hres:vu E t s=(cr r6 t E.ts).2:=if_neg (ff hc1)
   show ∃_:Unit,KE (cf m) (cB (cf m) _ 2 (.ret (.t (.int .i64 (vu E t s))) [.cells 68 [.t (.sl E.ts),.t (.sl E.ac),.t (.str E.p),.t (.str E.r),.t (.sl E.c),.map (.arg 1)],aI] [])) _ _ _
   rw[hres]
   exact⟨(),kF ah ai [oB hc1,oC Nw] (by kernel_rfl)⟩
theorem Lf (m:Int)(E:Env)(hE:uM E)(s:List UInt8):ay (cf m) 56 [.ptr (.arg 0) 0,.t (.str s)] [.cells 68 [.t (.sl E.ts),.t (.sl E.ac),.t (.str E.p),.t (.str E.r),.t (.sl E.c),.map (.arg 1)],aI] (.ret (.t (tE E s)) [.cells 68 [.t (.sl E.ts),.t (.sl E.ac),.t (.str E.p),.t (.str E.r),.t (.sl E.c),.map (.arg 1)],aI] []):=by
  obtain⟨lt,ht,la,ha,lc,hc⟩:=hE
  obtain⟨ev,ai,Ry⟩:∃ev,aF (cf m) ev∧Has ev 55 (jP (fun x=>∃s,x=.str s) fun x=>ZU (Ty.strOf x)):=⟨_,(ax (bp fun x ⟨s,e⟩=>by subst e;exact Ld m s) aH),az⟩
  refine ay.fu ?_
  refine AX.start 31 2 Tryz.func56 rfl (by decide) rfl rfl (by decide) ?_
  refine AX.frames ?_
  rcases aK ((s==[112,114,105,110,99,105,112,97,108])) with hc1|hc1
  ·
   have Be:=eq_of_beq hc1
   have hres:tE E s=.agg [.int .u8 4,.str E.p,.sl [],.sl []]:=by
     unfold tE
     rw[if_pos hc1]
     rfl
   show ∃_:Unit,KE (cf m) (cB (cf m) _ 2 (.ret (.t (tE E s)) [.cells 68 [.t (.sl E.ts),.t (.sl E.ac),.t (.str E.p),.t (.str E.r),.t (.sl E.c),.map (.arg 1)],aI] [])) _ _ _
   rw[hres]
   exact⟨(),kF ah ai [oB hc1,oC (bf Ry (x:=.str E.p) ⟨_,rfl⟩)] (by kernel_rfl)⟩
  ·
   have Be:=ne_of_beq_false hc1
   rcases aK ((s==[97,99,116,105,111,110])) with bD|bD
   ·
    have gM:=eq_of_beq bD
    have hres:tE E s=.agg [.int .u8 4,.str [65,99,116,105,111,110],.sl [],.sl []]:=by
      unfold tE
      rw[if_neg (ff hc1)]
      rw[if_pos bD]
      rfl
    show ∃_:Unit,KE (cf m) (cB (cf m) _ 2 (.ret (.t (tE E s)) [.cells 68 [.t (.sl E.ts),.t (.sl E.ac),.t (.str E.p),.t (.str E.r),.t (.sl E.c),.map (.arg 1)],aI] [])) _ _ _
    rw[hres]
    exact⟨(),kF ah ai [oB hc1,oB bD,oC (bf Ry (x:=.str [65,99,116,105,111,110]) ⟨_,rfl⟩)] (by kernel_rfl)⟩
   ·
    have gM:=ne_of_beq_false bD
    rcases aK ((s==[114,101,115,111,117,114,99,101])) with bM|bM
    ·
     have lF:=eq_of_beq bM
     have hres:tE E s=.agg [.int .u8 4,.str E.r,.sl [],.sl []]:=by
       unfold tE
       rw[if_neg (ff hc1)]
       rw[if_neg (ff bD)]
       rw[if_pos bM]
       rfl
     show ∃_:Unit,KE (cf m) (cB (cf m) _ 2 (.ret (.t (tE E s)) [.cells 68 [.t (.sl E.ts),.t (.sl E.ac),.t (.str E.p),.t (.str E.r),.t (.sl E.c),.map (.arg 1)],aI] [])) _ _ _
     rw[hres]
     exact⟨(),kF ah ai [oB hc1,oB bD,oB bM,oC (bf Ry (x:=.str E.r) ⟨_,rfl⟩)] (by kernel_rfl)⟩
    ·
     have lF:=ne_of_beq_false bM
     have hres:tE E s=.agg [.int .u8 6,.str [],.sl [],.sl E.c]:=by
       unfold tE
       rw[if_neg (ff hc1)]
       rw[if_neg (ff bD)]
       rw[if_neg (ff bM)]
       rfl
     show ∃_:Unit,KE (cf m) (cB (cf m) _ 2 (.ret (.t (tE E s)) [.cells 68 [.t (.sl E.ts),.t (.sl E.ac),.t (.str E.p),.t (.str E.r),.t (.sl E.c),.map (.arg 1)],aI] [])) _ _ _
     rw[hres]
     exact⟨(),kF ah ai [oB hc1,oB bD,oB bM] (by kernel_rfl)⟩
theorem Wv (m:Int)(nm:List UInt8)(e:Tree)(he:T .bh e):RK (cf m) 100 [.ptr (.arg 0) 0] [.cells 9 [.t (.str nm)]] e (.bool (uO e==nm)):=by
 obtain⟨ev,ai⟩:∃ev,aF (cf m) ev:=⟨_,aH⟩
 refine ay.fu ?_
 have cv:=he
 obtain⟨nM,aaO,aaP,aew,Y8,rfl,eT,bq,jQ,dP⟩:=T.eV cv
 refine AX.start 8 2 Tryz.func100 rfl (by decide) rfl rfl (by decide) ?_
 refine AX.frames ?_
 exact⟨(),kF ah ai [] (by kernel_rfl)⟩
theorem MU (m:Int)(nm:List UInt8)(l:List Tree)(hl:l.length≤4194304)(hl2:∀y∈l,T .bh y):RK (cf m) 99 [.fn (.func 100) [] [.ptr (.arg 0) 0]] [.cells 9 [.t (.str nm)]] (.sl l) (.int .i64 (QF (fun e=>uO e==nm) l)):=by
  obtain⟨ev,ai,e_q⟩:∃ev,aF (cf m) ev∧Has ev 100 (pk [.ptr (.arg 0) 0] [.cells 9 [.t (.str nm)]] (T .bh) fun x=>.bool (uO x==nm)):=⟨_,(ax ((F7 fun e he=>Wv m nm e he)) aH),az⟩
  refine ay.fu ?_
  refine AX.start 19 2 Tryz.func99 rfl (by decide) rfl rfl (by decide) ?_
  refine AX.frames ?_
  refine eo (f:=0) (n:=3000) (once:=[]) (k:=19) (T:=0) (S:=[]) (ks:=[.arg 0]) (live:=[0,1,7,8]) ah ai (α:=Nat) (fun x=>⟨bH 19 [(0,.t (.sl l)),(1,.fn (.func 100) [] [.ptr (.arg 0) 0]),(7,.t (.int .i64 ((l.length:Nat):Int))),(8,.t (.int .i64 ((x:Nat):Int)))],[(.arg 0,.cells 9 [.t (.str nm)])],0⟩) (fun x=>(x≤l.length)∧(∀j,j<x→∀x,l[j]?=some x→(fun e=>uO e==nm) x=false)) (fun x=>l.length - x) 0 (iA (Tryz.f99.body.getD .skip) 2) [] (by kernel_rfl) ⟨Nat.zero_le _,fun j hj=>absurd hj (Nat.not_lt_zero j)⟩ (fun x hok=> ?_)
  obtain⟨i_1,mJ⟩:∃y,y=x:=⟨x,rfl⟩
  subst mJ
  replace hok:(i_1≤l.length)∧(∀j,j<i_1→∀x,l[j]?=some x→(fun e=>uO e==nm) x=false):=hok
  obtain⟨iX,bN⟩:=hok
  rcases aK (decide (((i_1:Nat):Int)<((l.length:Nat):Int))) with bD|bD
  ·
   have gM:=of_decide_eq_true bD
   obtain⟨e3,gY⟩:=lC l i_1 (by first|omega|(simp;omega))
   have iI:=(hl2 e3 (List.mem_of_getElem? gY))
   obtain⟨cq,fQ,fR,iO,eZ,rfl,mO,kU,mP,jR⟩:=T.eV iI
   rcases aK ((uO (.agg [.str cq,.int .u8 fQ,.str fR,.sl iO,.sl eZ])==nm)) with kC|kC
   ·
    have vJ:=eq_of_beq kC
    refine kO ah ai [oB bD,oE gY,oC (A9 e_q (x:=.agg [.str cq,.int .u8 fQ,.str fR,.sl iO,.sl eZ]) iI),oB kC] (by kernel_rfl) ?_
    exact⟨(),(by rw[show QF (fun e=>uO e==nm) l=((i_1:Nat):Int) from abH (q:=(fun e=>uO e==nm)) bN gY kC];exact kF ah ai [] (by kernel_rfl))⟩
   ·
    have vJ:=ne_of_beq_false kC
    exact⟨.inl ⟨i_1+1,⟨⟨(by show(i_1+1)≤l.length;omega),(Tw (q:=(fun e=>uO e==nm)) bN gY kC)⟩,(by show(l.length - (i_1+1))<(l.length - i_1);omega)⟩⟩,bB (f:=0) (n:=3000) (once:=[]) (k:=19) (T:=0) (S:=[]) (ks:=[.arg 0]) (live:=[0,1,7,8]) ah ai [oB bD,oE gY,oC (A9 e_q (x:=.agg [.str cq,.int .u8 fQ,.str fR,.sl iO,.sl eZ]) iI),oB kC,oI (i_1) (by omega)] (by kernel_rfl)⟩
  ·
   have gM:=of_decide_eq_false bD
   refine kO ah ai [oB bD] (by kernel_rfl) ?_
   exact⟨(),(by rw[show QF (fun e=>uO e==nm) l=-1 from Tv (fun j hj=>bN j (by omega))];exact kF ah ai [] (by kernel_rfl))⟩
theorem Y9 (m:Int)(E:Env)(hE:uM E)(k:Int)(s:List UInt8)(os bs:List Tree)(nm:List UInt8)(lo:os.length≤4194304)(ho:∀y∈os,T .aD y)(lb:bs.length≤4194304)(hb:∀y∈bs,T .bh y):ay (cf m) 61 [.ptr (.arg 0) 0,.t (.agg [.int .u8 k,.str s,.sl os,.sl bs]),.t (.str nm)] [.cells 68 [.t (.sl E.ts),.t (.sl E.ac),.t (.str E.p),.t (.str E.r),.t (.sl E.c),.map (.arg 1)],aI] (.ret (.t (.bX [(eA E (aG k s os bs) nm).1,.int .i64 (eA E (aG k s os bs) nm).2])) [.cells 68 [.t (.sl E.ts),.t (.sl E.ac),.t (.str E.p),.t (.str E.r),.t (.sl E.c),.map (.arg 1)],aI] []):=by
 obtain⟨lt,ht,la,ha,lc,hc⟩:=hE
 obtain⟨ev,ai,GD,adM⟩:∃ev,aF (cf m) ev∧Has ev 17 (r7 (fun x y=>x=.agg [.sl E.ts,.sl E.ac]∧∃s,y=.str s) fun _ y=>.bX [(cr r6 (Ty.strOf y) E.ts).1,.int .i64 (cr r6 (Ty.strOf y) E.ts).2])∧Has ev 99 (pk [.fn (.func 100) [] [.ptr (.arg 0) 0]] [.cells 9 [.t (.str nm)]] (fun x=>∃l,x=.sl l∧l.length≤4194304∧∀y∈l,T .bh y) fun x=>.int .i64 (QF (fun e=>uO e==nm) (lG x))):=⟨_,(ax ((dH fun x y h=>by obtain⟨e,s,e2⟩:=h;subst e;subst e2;exact Nr m E.ts E.ac lt ht la ha s)) (ax ((F7 fun x h=>by obtain⟨l,e,h1,h2⟩:=h;subst e;exact MU m nm l h1 h2)) aH)),az,(aj rfl az)⟩
 refine ay.fu ?_
 refine AX.start 51 3 Tryz.func61 rfl (by decide) rfl rfl (by decide) ?_
 refine AX.seq ?_
 refine AX.region ?_
 refine ak.go (f:=0) ai (FW rfl rfl) ?_
 refine ak.go (f:=0) ai (FW rfl rfl) ?_
 refine ak.go (f:=0) ai (gQ eu rfl rfl) ?_
 refine ak.go (f:=0) ai (au rfl) ?_
 refine ak.nil ?_
 refine AX.seq ?_
 refine AX.block ?_
 refine AX.seq ?_
 refine AX.region ?_
 refine ak.go (f:=0) ai (aB rfl rZ rfl) ?_
 refine ak.go (f:=0) ai (cN rfl (ld Ff rfl rfl)) ?_
 refine ak.go (f:=0) ai (gR rfl rfl) ?_
 refine ak.go (f:=0) ai (av rfl) ?_
 refine ak.split 15 rfl (fun hg1=> ?_) (fun hg1=> ?_)
 ·
  have ab9:=eq_of_beq hg1
  refine ak.yes (f:=0) ai rfl rfl rfl (cQ hg1) (aB rfl HZ rfl) ?_
  refine ak.yes (f:=0) ai rfl rfl rfl (cQ hg1) (cN rfl (ld kB rfl rfl)) ?_
  refine ak.yes (f:=0) ai rfl rfl rfl (cQ hg1) (ZW rfl rfl) ?_
  refine ak.go (f:=0) ai (bz rfl hg1 rfl rfl) ?_
  refine ak.go (f:=0) ai (au rfl) ?_
  refine ak.nil ?_
  refine AX.cond rfl (fun bD=> ?_) (fun bD=> ?_)
  ·
   have gM:=ne_of_beq_false (fJ bD)
   refine AX.seq ?_
   refine AX.draw (f:=0) ah ai ?_
   refine aJ.go rfl (av rfl) ?_
   refine aJ.go rfl (Z8 rfl rfl) ?_
   refine aJ.go rfl (aB rfl ads rfl) ?_
   refine aJ.go rfl (aS rfl (ld qY rfl rfl)) ?_
   refine aJ.go rfl (aB rfl HZ rfl) ?_
   refine aJ.go rfl (cN rfl (ld kB rfl rfl)) ?_
   have Za:=dm GD (x:=.agg [.sl E.ts,.sl E.ac]) (y:=.str s) ⟨rfl,_,rfl⟩
   replace Za:ev 17 [.t (.agg [.sl E.ts,.sl E.ac]),.t (.str s)] []=some (bG.ret (.t (.bX [(cr r6 s E.ts).1,.int .i64 (cr r6 s E.ts).2])) [] []):=Za
   have iI:=wM (s:=s) Le ht
   obtain⟨cq,cI,cE,eq_4,mO,kU,mP,jR⟩:=T.bg iI
   rw[eq_4] at iI
   have Xx:=Za
   rw[eq_4] at Xx
   refine aJ.go rfl (bU (Oa rfl rfl) Xx) ?_
   refine aJ.go rfl (av rfl) ?_
   refine aJ.go rfl (cW rfl rfl) ?_
   refine aJ.go rfl (cW rfl rfl) ?_
   refine aJ.go rfl (gQ Wt rfl rfl) ?_
   refine aJ.lQ rfl (br rfl rfl (mX Wt rfl rfl)) ?_
   refine aJ.go rfl (au rfl) ?_
   refine aJ.nil (eE rfl rfl ?_)
   refine AX.region ?_
   refine ak.go (f:=0) ai (aB rfl adr rfl) ?_
   refine ak.go (f:=0) ai (aS rfl (ld iH rfl rfl)) ?_
   refine ak.go (f:=0) ai (aB rfl iM rfl) ?_
   refine ak.lQ (f:=0) ai (br rfl rfl (mX iH rfl rfl)) ?_
   refine ak.nil ?_
   refine AX.cC ?_
   refine AX.seq ?_
   refine AX.region ?_
   refine ak.go (f:=0) ai (aB rfl iM rfl) ?_
   refine ak.go (f:=0) ai (aS rfl (ld iH rfl rfl)) ?_
   refine ak.go (f:=0) ai (xN rfl rfl rfl) ?_
   refine ak.go (f:=0) ai (rH (eU rfl) rfl rfl (by decide) rfl rfl (A9 adM ⟨_,rfl,(by assumption),jR⟩) rfl rfl rfl) ?_
   refine ak.go (f:=0) ai (au rfl) ?_
   refine ak.nil ?_
   refine AX.seq ?_
   refine AX.seq ?_
   refine AX.region ?_
   refine ak.go (f:=0) ai (av rfl) ?_
   refine ak.go (f:=0) ai (ia rfl rfl) ?_
   refine ak.nil ?_
   refine AX.cond rfl (fun jX=> ?_) (fun jX=> ?_)
   ·
    have vM:=of_decide_eq_true jX
    refine AX.seq ?_
    refine AX.region ?_
    refine ak.go (f:=0) ai (rE rfl Rc rfl rfl) ?_
    refine ak.lQ (f:=0) ai (br rfl rfl (mX eu rfl rfl)) ?_
    refine ak.go (f:=0) ai (au rfl) ?_
    refine ak.nil ?_
    refine AX.ret ?_
    refine AX.bt ?_
    have hres:eA E (aG k s os bs) nm=(.agg [.int .u8 0,.str [],.sl [],.sl []],8):=by
     unfold eA
     rw[if_pos ⟨eq_of_beq hg1,ne_of_beq_false (fJ bD)⟩]
     rw[show(cr r6 (Xq (aG k s os bs)) E.ts).1=_ from eq_4]
     exact tF (II vM)
    show ∃_:Unit,cB (cf m) _ 2 (.ret (.t (.bX [(eA E (aG k s os bs) nm).1,.int .i64 (eA E (aG k s os bs) nm).2])) [.cells 68 [.t (.sl E.ts),.t (.sl E.ac),.t (.str E.p),.t (.str E.r),.t (.sl E.c),.map (.arg 1)],aI] []) _ _
    rw[hres]
    exact⟨(),.inl rfl⟩
   ·
    have vM:=of_decide_eq_false jX
    refine AX.skip ?_
    refine AX.seq ?_
    refine AX.region ?_
    refine ak.go (f:=0) ai (aB rfl iM rfl) ?_
    refine ak.go (f:=0) ai (aS rfl (ld iH rfl rfl)) ?_
    refine ak.go (f:=0) ai (av rfl) ?_
    obtain⟨j,e,hj,he,XT⟩:=IG vM
    have IA:=(jR e (List.mem_of_getElem? he))
    obtain⟨nP,jr,js,lX,iZ,rfl,V8,V9,Wa,Wb⟩:=T.eV IA
    refine ak.go (f:=0) ai (gL (m:=j) rfl (by rw[← hj];rfl) iH rfl tN he rfl) ?_
    refine ak.go (f:=0) ai (aB rfl Hv rfl) ?_
    refine ak.go (f:=0) ai (aS rfl (ld eu rfl rfl)) ?_
    refine ak.lQ (f:=0) ai (br rfl rfl (mX eu rfl rfl)) ?_
    refine ak.go (f:=0) ai (au rfl) ?_
    refine ak.nil ?_
    refine AX.ret ?_
    have hres:eA E (aG k s os bs) nm=(.agg [.int .u8 jr,.str js,.sl lX,.sl iZ],0):=by
     unfold eA
     rw[if_pos ⟨eq_of_beq hg1,ne_of_beq_false (fJ bD)⟩]
     rw[show(cr r6 (Xq (aG k s os bs)) E.ts).1=_ from eq_4]
     exact yV XT
    show ∃_:Unit,cB (cf m) _ 2 (.ret (.t (.bX [(eA E (aG k s os bs) nm).1,.int .i64 (eA E (aG k s os bs) nm).2])) [.cells 68 [.t (.sl E.ts),.t (.sl E.ac),.t (.str E.p),.t (.str E.r),.t (.sl E.c),.map (.arg 1)],aI] []) _ _
    rw[hres]
    exact⟨(),.inl rfl⟩
  ·
   have gM:=eq_of_beq (dJ bD)
   refine AX.seq ?_
   refine AX.region ?_
   refine ak.go (f:=0) ai (aB rfl rZ rfl) ?_
   refine ak.go (f:=0) ai (cN rfl (ld Ff rfl rfl)) ?_
   refine ak.go (f:=0) ai (SN rfl rfl) ?_
   refine ak.go (f:=0) ai (au rfl) ?_
   refine ak.nil ?_
   refine AX.cond rfl (fun gp=> ?_) (fun gp=> ?_)
   ·
    have xQ:=aA gp
    refine AX.seq ?_
    refine AX.region ?_
    refine ak.go (f:=0) ai (rE rfl Rc rfl rfl) ?_
    refine ak.lQ (f:=0) ai (br rfl rfl (mX eu rfl rfl)) ?_
    refine ak.go (f:=0) ai (au rfl) ?_
    refine ak.nil ?_
    refine AX.ret ?_
    refine AX.bx ?_
    refine AX.bt ?_
    have hres:eA E (aG k s os bs) nm=(.agg [.int .u8 0,.str [],.sl [],.sl []],7):=by
     unfold eA
     rw[if_neg (fun q=>q.2 (eq_of_beq (dJ bD)))]
     refine(if_neg (aA gp)).trans ?_
     rfl
    show ∃_:Unit,cB (cf m) _ 2 (.ret (.t (.bX [(eA E (aG k s os bs) nm).1,.int .i64 (eA E (aG k s os bs) nm).2])) [.cells 68 [.t (.sl E.ts),.t (.sl E.ac),.t (.str E.p),.t (.str E.r),.t (.sl E.c),.map (.arg 1)],aI] []) _ _
    rw[hres]
    exact⟨(),.inl rfl⟩
   ·
    have xQ:=aq gp
    refine AX.skip ?_
    refine AX.cC ?_
    refine AX.seq ?_
    refine AX.region ?_
    refine ak.go (f:=0) ai (aB rfl iM rfl) ?_
    refine ak.go (f:=0) ai (aS rfl (ld iH rfl rfl)) ?_
    refine ak.go (f:=0) ai (xN rfl rfl rfl) ?_
    refine ak.go (f:=0) ai (rH (eU rfl) rfl rfl (by decide) rfl rfl (A9 adM ⟨_,rfl,(by assumption),hb⟩) rfl rfl rfl) ?_
    refine ak.go (f:=0) ai (au rfl) ?_
    refine ak.nil ?_
    refine AX.seq ?_
    refine AX.seq ?_
    refine AX.region ?_
    refine ak.go (f:=0) ai (av rfl) ?_
    refine ak.go (f:=0) ai (ia rfl rfl) ?_
    refine ak.nil ?_
    refine AX.cond rfl (fun rN=> ?_) (fun rN=> ?_)
    ·
     have D5:=of_decide_eq_true rN
     refine AX.seq ?_
     refine AX.region ?_
     refine ak.go (f:=0) ai (rE rfl Rc rfl rfl) ?_
     refine ak.lQ (f:=0) ai (br rfl rfl (mX eu rfl rfl)) ?_
     refine ak.go (f:=0) ai (au rfl) ?_
     refine ak.nil ?_
     refine AX.ret ?_
     refine AX.bt ?_
     have hres:eA E (aG k s os bs) nm=(.agg [.int .u8 0,.str [],.sl [],.sl []],8):=by
      unfold eA
      rw[if_neg (fun q=>q.2 (eq_of_beq (dJ bD)))]
      refine(if_pos (aq gp)).trans ?_
      exact tF (II D5)
     show ∃_:Unit,cB (cf m) _ 2 (.ret (.t (.bX [(eA E (aG k s os bs) nm).1,.int .i64 (eA E (aG k s os bs) nm).2])) [.cells 68 [.t (.sl E.ts),.t (.sl E.ac),.t (.str E.p),.t (.str E.r),.t (.sl E.c),.map (.arg 1)],aI] []) _ _
     rw[hres]
     exact⟨(),.inl rfl⟩
    ·
     have D5:=of_decide_eq_false rN
     refine AX.skip ?_
     refine AX.seq ?_
     refine AX.region ?_
     refine ak.go (f:=0) ai (aB rfl iM rfl) ?_
     refine ak.go (f:=0) ai (aS rfl (ld iH rfl rfl)) ?_
     refine ak.go (f:=0) ai (av rfl) ?_
     obtain⟨j,e,hj,he,XT⟩:=IG D5
     have Ev:=(hb e (List.mem_of_getElem? he))
     obtain⟨rP,IJ,IK,Ny,Fi,rfl,Pf,Pg,Ph,Pj⟩:=T.eV Ev
     refine ak.go (f:=0) ai (gL (m:=j) rfl (by rw[← hj];rfl) iH rfl tN he rfl) ?_
     refine ak.go (f:=0) ai (aB rfl Hv rfl) ?_
     refine ak.go (f:=0) ai (aS rfl (ld eu rfl rfl)) ?_
     refine ak.lQ (f:=0) ai (br rfl rfl (mX eu rfl rfl)) ?_
     refine ak.go (f:=0) ai (au rfl) ?_
     refine ak.nil ?_
     refine AX.ret ?_
     have hres:eA E (aG k s os bs) nm=(.agg [.int .u8 IJ,.str IK,.sl Ny,.sl Fi],0):=by
      unfold eA
      rw[if_neg (fun q=>q.2 (eq_of_beq (dJ bD)))]
      refine(if_pos (aq gp)).trans ?_
      exact yV XT
     show ∃_:Unit,cB (cf m) _ 2 (.ret (.t (.bX [(eA E (aG k s os bs) nm).1,.int .i64 (eA E (aG k s os bs) nm).2])) [.cells 68 [.t (.sl E.ts),.t (.sl E.ac),.t (.str E.p),.t (.str E.r),.t (.sl E.c),.map (.arg 1)],aI] []) _ _
     rw[hres]
     exact⟨(),.inl rfl⟩
 ·
  have ab9:=ne_of_beq_false hg1
  refine ak.no rfl rfl rfl (dh hg1) ?_
  refine ak.no rfl rfl rfl (dh hg1) ?_
  refine ak.no rfl rfl rfl (dh hg1) ?_
  refine ak.go (f:=0) ai (dU rfl hg1 rfl rfl) ?_
  refine ak.go (f:=0) ai (au rfl) ?_
  refine ak.nil ?_
  refine AX.nt rfl rfl ?_
  refine AX.seq ?_
  refine AX.region ?_
  refine ak.go (f:=0) ai (aB rfl rZ rfl) ?_
  refine ak.go (f:=0) ai (cN rfl (ld Ff rfl rfl)) ?_
  refine ak.go (f:=0) ai (SN rfl rfl) ?_
  refine ak.go (f:=0) ai (au rfl) ?_
  refine ak.nil ?_
  refine AX.cond rfl (fun dn=> ?_) (fun dn=> ?_)
  ·
   have zH:=aA dn
   refine AX.seq ?_
   refine AX.region ?_
   refine ak.go (f:=0) ai (rE rfl Rc rfl rfl) ?_
   refine ak.lQ (f:=0) ai (br rfl rfl (mX eu rfl rfl)) ?_
   refine ak.go (f:=0) ai (au rfl) ?_
   refine ak.nil ?_
   refine AX.ret ?_
   refine AX.bx ?_
   refine AX.bt ?_
   have hres:eA E (aG k s os bs) nm=(.agg [.int .u8 0,.str [],.sl [],.sl []],7):=by
    unfold eA
    rw[if_neg (fun q=>ne_of_beq_false hg1 q.1)]
    refine(if_neg (aA dn)).trans ?_
    rfl
   show ∃_:Unit,cB (cf m) _ 2 (.ret (.t (.bX [(eA E (aG k s os bs) nm).1,.int .i64 (eA E (aG k s os bs) nm).2])) [.cells 68 [.t (.sl E.ts),.t (.sl E.ac),.t (.str E.p),.t (.str E.r),.t (.sl E.c),.map (.arg 1)],aI] []) _ _
   rw[hres]
   exact⟨(),.inl rfl⟩
  ·
   have zH:=aq dn
   refine AX.skip ?_
   refine AX.cC ?_
   refine AX.seq ?_
   refine AX.region ?_
   refine ak.go (f:=0) ai (aB rfl iM rfl) ?_
   refine ak.go (f:=0) ai (aS rfl (ld iH rfl rfl)) ?_
   refine ak.go (f:=0) ai (xN rfl rfl rfl) ?_
   refine ak.go (f:=0) ai (rH (eU rfl) rfl rfl (by decide) rfl rfl (A9 adM ⟨_,rfl,(by assumption),hb⟩) rfl rfl rfl) ?_
   refine ak.go (f:=0) ai (au rfl) ?_
   refine ak.nil ?_
   refine AX.seq ?_
   refine AX.seq ?_
   refine AX.region ?_
   refine ak.go (f:=0) ai (av rfl) ?_
   refine ak.go (f:=0) ai (ia rfl rfl) ?_
   refine ak.nil ?_
   refine AX.cond rfl (fun iB=> ?_) (fun iB=> ?_)
   ·
    have qD:=of_decide_eq_true iB
    refine AX.seq ?_
    refine AX.region ?_
    refine ak.go (f:=0) ai (rE rfl Rc rfl rfl) ?_
    refine ak.lQ (f:=0) ai (br rfl rfl (mX eu rfl rfl)) ?_
    refine ak.go (f:=0) ai (au rfl) ?_
    refine ak.nil ?_
    refine AX.ret ?_
    refine AX.bt ?_
    have hres:eA E (aG k s os bs) nm=(.agg [.int .u8 0,.str [],.sl [],.sl []],8):=by
     unfold eA
     rw[if_neg (fun q=>ne_of_beq_false hg1 q.1)]
     refine(if_pos (aq dn)).trans ?_
     exact tF (II qD)
    show ∃_:Unit,cB (cf m) _ 2 (.ret (.t (.bX [(eA E (aG k s os bs) nm).1,.int .i64 (eA E (aG k s os bs) nm).2])) [.cells 68 [.t (.sl E.ts),.t (.sl E.ac),.t (.str E.p),.t (.str E.r),.t (.sl E.c),.map (.arg 1)],aI] []) _ _
    rw[hres]
    exact⟨(),.inl rfl⟩
   ·
    have qD:=of_decide_eq_false iB
    refine AX.skip ?_
    refine AX.seq ?_
    refine AX.region ?_
    refine ak.go (f:=0) ai (aB rfl iM rfl) ?_
    refine ak.go (f:=0) ai (aS rfl (ld iH rfl rfl)) ?_
    refine ak.go (f:=0) ai (av rfl) ?_
    obtain⟨j,e,hj,he,XT⟩:=IG qD
    have ag0:=(hb e (List.mem_of_getElem? he))
    obtain⟨aif,IL,IM,Nz,Fj,rfl,aih,aii,aij,aik⟩:=T.eV ag0
    refine ak.go (f:=0) ai (gL (m:=j) rfl (by rw[← hj];rfl) iH rfl tN he rfl) ?_
    refine ak.go (f:=0) ai (aB rfl Hv rfl) ?_
    refine ak.go (f:=0) ai (aS rfl (ld eu rfl rfl)) ?_
    refine ak.lQ (f:=0) ai (br rfl rfl (mX eu rfl rfl)) ?_
    refine ak.go (f:=0) ai (au rfl) ?_
    refine ak.nil ?_
    refine AX.ret ?_
    have hres:eA E (aG k s os bs) nm=(.agg [.int .u8 IL,.str IM,.sl Nz,.sl Fj],0):=by
     unfold eA
     rw[if_neg (fun q=>ne_of_beq_false hg1 q.1)]
     refine(if_pos (aq dn)).trans ?_
     exact yV XT
    show ∃_:Unit,cB (cf m) _ 2 (.ret (.t (.bX [(eA E (aG k s os bs) nm).1,.int .i64 (eA E (aG k s os bs) nm).2])) [.cells 68 [.t (.sl E.ts),.t (.sl E.ac),.t (.str E.p),.t (.str E.r),.t (.sl E.c),.map (.arg 1)],aI] []) _ _
    rw[hres]
    exact⟨(),.inl rfl⟩
end
end Go.Proofs.YtijfhoelihclbaaGreatDoor.w.e
