/- Names of a schema: known, twice. -/
import Derived.Test.YtijfhoelihclbaaGreatDoorAC
import Derived.Test.YtijfhoelihclbaaGreatDoorS
import Derived.Test.YtijfhoelihclbaaGreatDoorG
namespace Go.Proofs.YtijfhoelihclbaaGreatDoor.w.e
open Go Go.Abs Go.Abs.Ty
set_option linter.unusedVariables false
set_option maxRecDepth 100000
set_option maxHeartbeats 2000000
noncomputable section
abbrev ti3:TI:={size:=1,bytes:=8,agg:=false,zero:=some (.t (.int .i64 0)),desc:=.int .i64}
theorem ty3 {m:Int}:(cf m).P.ty 3=some ti3:=by kernel_rfl
abbrev agv:TI:={size:=1,bytes:=8,agg:=false,zero:=some (.t .iJ),desc:=.map 9 3}
theorem Pe {m:Int}:(cf m).P.ty 134=some agv:=by kernel_rfl
theorem ko9 {m:Int}(b:Bool)(s:List UInt8):uw (cf m).P b 9 (.t (.str s))=true:=by cases b<;>kernel_rfl
theorem acC (m:Int)(s:List UInt8)(e:Tree)(he:T .aC e):∃r:Bool,ay (cf m) 111 (.t e::[.ptr (.arg 0) 0]) [.cells 9 [.t (.str s)]] (.ret (.t (.bool r)) [.cells 9 [.t (.str s)]] []):=by
 have cv:=he
 obtain⟨nM,kL,jH,rfl,eT,bq,jQ,dP⟩:=T.bg cv
 obtain⟨ev,ai⟩:∃ev,aF (cf m) ev:=⟨_,aH⟩
 refine AX.start 8 2 Tryz.func111 rfl (by decide) rfl rfl (by decide) ?_
 refine AX.frames ?_
 exact⟨(nM==s),kF ah ai [] (by kernel_rfl)⟩
theorem acD (m:Int)(s:List UInt8):∃q:Tree→Bool,∀e,T .aC e→RK (cf m) 111 [.ptr (.arg 0) 0] [.cells 9 [.t (.str s)]] e (.bool (q e)):=eF (P:=T .aC) (Q:=fun e r=>RK (cf m) 111 [.ptr (.arg 0) 0] [.cells 9 [.t (.str s)]] e (.bool r)) fun e he=>acC m s e he
theorem acE (m:Int)(s:List UInt8)(q:Tree→Bool)(hq:∀e,T .aC e→RK (cf m) 111 [.ptr (.arg 0) 0] [.cells 9 [.t (.str s)]] e (.bool (q e)))(l:List Tree)(hl:l.length≤4194304)(hl2:∀y∈l,T .aC y):∃r:Int,ay (cf m) 74 (.t (.sl l)::[.fn (.func 111) [] [.ptr (.arg 0) 0]]) [.cells 9 [.t (.str s)]] (.ret (.t (.int .i64 r)) [.cells 9 [.t (.str s)]] []):=by
  obtain⟨ev,ai,e_q⟩:∃ev,aF (cf m) ev∧Has ev 111 (pk [.ptr (.arg 0) 0] [.cells 9 [.t (.str s)]] (T .aC) fun x=>.bool (q x)):=⟨_,(ax (F7 hq) aH),az⟩
  refine AX.start 19 2 Tryz.func74 rfl (by decide) rfl rfl (by decide) ?_
  refine AX.frames ?_
  refine eo (f:=0) (n:=3000) (once:=[]) (k:=19) (T:=0) (S:=[]) (ks:=[.arg 0]) (live:=[0,1,7,8]) ah ai (α:=Nat) (fun x=>⟨bH 19 [(0,.t (.sl l)),(1,.fn (.func 111) [] [.ptr (.arg 0) 0]),(7,.t (.int .i64 ((l.length:Nat):Int))),(8,.t (.int .i64 ((x:Nat):Int)))],[(.arg 0,.cells 9 [.t (.str s)])],0⟩) (fun x=>(x≤l.length)) (fun x=>l.length - x) 0 (iA (Tryz.f74.body.getD .skip) 2) [] (by kernel_rfl) (by show(0≤l.length);first|trivial|omega|(refine⟨?_, ?_⟩<;>first|omega|exact SM.nil)|simp) (fun x hok=> ?_)
  obtain⟨i_1,mJ⟩:∃y,y=x:=⟨x,rfl⟩
  subst mJ
  replace hok:(i_1≤l.length):=hok
  have iX:=hok
  rcases aK (decide (((i_1:Nat):Int)<((l.length:Nat):Int))) with bD|bD
  ·
   have gM:=of_decide_eq_true bD
   obtain⟨e3,gY⟩:=lC l i_1 (by first|omega|(simp;omega))
   have iI:=(hl2 e3 (List.mem_of_getElem? gY))
   obtain⟨cq,cI,cE,rfl,mO,kU,mP,jR⟩:=T.bg iI
   rcases aK ((q (.agg [.str cq,.sl cI,.sl cE]))) with kC|kC
   ·
    refine kO ah ai [oB bD,oE gY,oC (A9 e_q (x:=.agg [.str cq,.sl cI,.sl cE]) iI),oB kC] (by kernel_rfl) ?_
    exact⟨((i_1:Nat):Int),kF ah ai [] (by kernel_rfl)⟩
   ·
    exact⟨.inl ⟨i_1+1,⟨(by show(i_1+1)≤l.length;omega),(by show(l.length - (i_1+1))<(l.length - i_1);omega)⟩⟩,bB (f:=0) (n:=3000) (once:=[]) (k:=19) (T:=0) (S:=[]) (ks:=[.arg 0]) (live:=[0,1,7,8]) ah ai [oB bD,oE gY,oC (A9 e_q (x:=.agg [.str cq,.sl cI,.sl cE]) iI),oB kC,oI (i_1) (by omega)] (by kernel_rfl)⟩
  ·
   have gM:=of_decide_eq_false bD
   refine kO ah ai [oB bD] (by kernel_rfl) ?_
   exact⟨-1,kF ah ai [] (by kernel_rfl)⟩
theorem acF (m:Int)(s:List UInt8)(q:Tree→Bool)(hq:∀e,T .aC e→RK (cf m) 111 [.ptr (.arg 0) 0] [.cells 9 [.t (.str s)]] e (.bool (q e)))(l:List Tree)(hl:l.length≤4194304)(hl2:∀y∈l,T .aC y):∃r:Bool,ay (cf m) 31 (.t (.sl l)::[.fn (.func 111) [] [.ptr (.arg 0) 0]]) [.cells 9 [.t (.str s)]] (.ret (.t (.bool r)) [.cells 9 [.t (.str s)]] []):=by
 obtain⟨ri,hri⟩:=acE m s q hq l hl hl2
 obtain⟨ev,ai,acG⟩:∃ev,aF (cf m) ev∧Has ev 74 (px (.t (.sl l)::[.fn (.func 111) [] [.ptr (.arg 0) 0]]) [.cells 9 [.t (.str s)]] (.ret (.t (.int .i64 ri)) [.cells 9 [.t (.str s)]] [])):=⟨_,(ax (jY hri) aH),az⟩
 refine AX.start 9 2 Tryz.func31 rfl (by decide) rfl rfl (by decide) ?_
 refine AX.frames ?_
 exact⟨decide (ri≥0),kF ah ai [oC (lH acG)] (by kernel_rfl)⟩
theorem Eo (m:Int):∃F:Tree→Tree→Bool,∀x y,(T .bO x∧T .string y)→R2 (cf m) 76 x y (.bool (F x y))∧(True):=by
 refine tO (P:=fun x y=>T .bO x∧T .string y) (mk:=fun(r:Bool)=>.bool r) (Post:=fun x y r=>True) fun x y hx=> ?_
 obtain⟨hx,hy⟩:=hx
 show ∃r:{r:Bool // True},ay (cf m) 76 [.t x,.t y] [] (.ret (.t (.bool r.1)) [] [])
 have cv:=hx
 obtain⟨aT,aO,rfl,eT,bq,jQ,dP⟩:=T.qz cv
 have ng:=hy
 obtain⟨v_2,rfl⟩:=T.cT ng
 obtain⟨qa,hqa⟩:=acD m v_2
 obtain⟨ra,hra⟩:=acF m v_2 qa hqa aT (by first|assumption|omega|(simp;done)|(simp;omega)) bq
 obtain⟨ev,ai,acH⟩:∃ev,aF (cf m) ev∧Has ev 31 (px (.t (.sl aT)::[.fn (.func 111) [] [.ptr (.arg 0) 0]]) [.cells 9 [.t (.str v_2)]] (.ret (.t (.bool ra)) [.cells 9 [.t (.str v_2)]] [])):=⟨_,(ax (jY hra) aH),az⟩
 refine AX.start 10 2 Tryz.func76 rfl (by decide) rfl rfl (by decide) ?_
 refine AX.frames ?_
 refine⟨⟨ra, ?_⟩,kF ah ai [oC (lH acH)] (by kernel_rfl)⟩
 trivial
theorem Vm (m:Int):∃F:Tree→List UInt8,∀x,(T .aC x)→R1 (cf m) 34 x (.str (F x))∧(True):=by
 refine wT (P:=fun x=>T .aC x) (mk:=fun(r:List UInt8)=>.str r) (Post:=fun x r=>True) fun x hx=> ?_
 show ∃r:{r:List UInt8 // True},ay (cf m) 34 [.t x] [] (.ret (.t (.str r.1)) [] [])
 have cv:=hx
 obtain⟨nM,kL,jH,rfl,eT,bq,jQ,dP⟩:=T.bg cv
 obtain⟨ev,ai⟩:∃ev,aF (cf m) ev:=⟨_,aH⟩
 refine AX.start 5 1 Tryz.func34 rfl (by decide) rfl rfl (by decide) ?_
 refine AX.frames ?_
 refine⟨⟨nM, ?_⟩,kF ah ai [] (by kernel_rfl)⟩
 trivial
theorem Vn (m:Int):∃F:Tree→List UInt8,∀x,(T .aY x)→R1 (cf m) 36 x (.str (F x))∧(True):=by
 refine wT (P:=fun x=>T .aY x) (mk:=fun(r:List UInt8)=>.str r) (Post:=fun x r=>True) fun x hx=> ?_
 show ∃r:{r:List UInt8 // True},ay (cf m) 36 [.t x] [] (.ret (.t (.str r.1)) [] [])
 have cv:=hx
 obtain⟨qI,iu,jq,gq,rfl,eT,bq,jQ,dP,Nj,ya⟩:=T.bP cv
 obtain⟨ev,ai⟩:∃ev,aF (cf m) ev:=⟨_,aH⟩
 refine AX.start 5 1 Tryz.func36 rfl (by decide) rfl rfl (by decide) ?_
 refine AX.frames ?_
 refine⟨⟨qI, ?_⟩,kF ah ai [] (by kernel_rfl)⟩
 trivial
theorem Vo (m:Int):∃F:Tree→Tree→Bool,∀x y,(T .aZ x∧y=.fn (.func 34))→R2 (cf m) 33 x y (.bool (F x y))∧(True):=by
  refine tO (P:=fun x y=>T .aZ x∧y=.fn (.func 34)) (mk:=fun(r:Bool)=>.bool r) (Post:=fun x y r=>True) fun x y hx=> ?_
  obtain⟨hx,hy⟩:=hx
  show ∃r:{r:Bool // True},ay (cf m) 33 [.t x,.t y] [] (.ret (.t (.bool r.1)) [] [])
  have cv:=hx
  obtain⟨v_1,rfl,eT,bq⟩:=T.jF cv
  subst hy
  obtain⟨Vp,agw⟩:=Vm m
  obtain⟨ev,ai,agx⟩:∃ev,aF (cf m) ev∧Has ev 34 (jP (fun x=>T .aC x) (fun x=>.str (Vp x))):=⟨_,(ax (bp (fun x h=>(agw x h).1)) aH),az⟩
  refine AX.start 27 2 Tryz.func33 rfl (by decide) rfl rfl (by decide) ?_
  refine AX.frames ?_
  refine eo (f:=0) (n:=3000) (once:=[]) (k:=27) (T:=1) (S:=[.loc [1]]) (ks:=[.loc [1]]) (live:=[0,1,5,9,10,11]) ah ai (α:=Nat×List (TV×TV×Nat)×Nat) (fun x=>⟨bH 27 [(0,.t (.sl v_1)),(1,.t (.fn (.func 34))),(5,.map (.loc [0])),(9,.t (.sl v_1)),(10,.t (.int .i64 ((v_1.length:Nat):Int))),(11,.t (.int .i64 ((x.1:Nat):Int)))],[(.loc [0],.map x.2.1 x.2.2)],1⟩) (fun x=>(x.1≤v_1.length)∧(SM x.2.1)) (fun x=>v_1.length - x.1) (⟨0,[],0⟩) (iA (Tryz.f33.body.getD .skip) 3) [oN (o:=.map [] 0) (fun _=>HB SM.nil)] (by kernel_rfl) (by show(0≤v_1.length)∧(SM []);first|trivial|omega|(refine⟨?_, ?_⟩<;>first|omega|exact SM.nil)|simp) (fun x hok=> ?_)
  obtain⟨i_2,Vq,acI⟩:=x
  replace hok:(i_2≤v_1.length)∧(SM Vq):=hok
  obtain⟨pH,iW⟩:=hok
  rcases aK (decide (((i_2:Nat):Int)<((v_1.length:Nat):Int))) with bM|bM
  ·
   have lF:=of_decide_eq_true bM
   obtain⟨e4,qU⟩:=lC v_1 i_2 (by first|omega|(simp;omega))
   have k8:=(bq e4 (List.mem_of_getElem? qU))
   obtain⟨nN,iC,kM,rfl,Ep,Er,Es,Et⟩:=T.bg k8
   obtain⟨lk6,acJ⟩:=Ka (P:=(cf m).P) (s:=(Vp (.agg [.str nN,.sl iC,.sl kM]))) Pe rfl kB rfl ty3 rfl (fun b=>ko9 b _) iW
   obtain⟨K2,K3,K4,acK⟩:=Ov (P:=(cf m).P) (s:=(Vp (.agg [.str nN,.sl iC,.sl kM]))) (v:=(IntKind.wrap .i64 (lk6+1))) Pe rfl kB rfl (fun b=>ko9 b _) iW acI
   exact⟨.inl ⟨⟨i_2+1,K2,K3⟩,⟨⟨(by show(i_2+1)≤v_1.length;omega),K4⟩,(by show(v_1.length - (i_2+1))<(v_1.length - i_2);omega)⟩⟩,bB (f:=0) (n:=3000) (once:=[]) (k:=27) (T:=1) (S:=[.loc [0]]) (ks:=[.loc [0]]) (live:=[0,1,5,9,10,11]) ah ai [oB bM,oE qU,oC (bf agx (x:=.agg [.str nN,.sl iC,.sl kM]) k8),oO acJ,oZ,oM acK,oI (i_2) (by omega),oN (o:=.map K2 K3) (fun _=>HB K4)] (by kernel_rfl)⟩
  ·
   have lF:=of_decide_eq_false bM
   refine kO ah ai [oB bM] (by kernel_rfl) ?_
   refine⟨⟨decide (((Vq.length:Nat):Int)<((v_1.length:Nat):Int)), ?_⟩,kF ah ai [] (by kernel_rfl)⟩
   trivial
theorem Vr (m:Int):∃F:Tree→Tree→Bool,∀x y,(T .bY x∧y=.fn (.func 36))→R2 (cf m) 35 x y (.bool (F x y))∧(True):=by
  refine tO (P:=fun x y=>T .bY x∧y=.fn (.func 36)) (mk:=fun(r:Bool)=>.bool r) (Post:=fun x y r=>True) fun x y hx=> ?_
  obtain⟨hx,hy⟩:=hx
  show ∃r:{r:Bool // True},ay (cf m) 35 [.t x,.t y] [] (.ret (.t (.bool r.1)) [] [])
  have cv:=hx
  obtain⟨v_1,rfl,eT,bq⟩:=T.mI cv
  subst hy
  obtain⟨Vs,agy⟩:=Vn m
  obtain⟨ev,ai,agz⟩:∃ev,aF (cf m) ev∧Has ev 36 (jP (fun x=>T .aY x) (fun x=>.str (Vs x))):=⟨_,(ax (bp (fun x h=>(agy x h).1)) aH),az⟩
  refine AX.start 27 2 Tryz.func35 rfl (by decide) rfl rfl (by decide) ?_
  refine AX.frames ?_
  refine eo (f:=0) (n:=3000) (once:=[]) (k:=27) (T:=1) (S:=[.loc [1]]) (ks:=[.loc [1]]) (live:=[0,1,5,9,10,11]) ah ai (α:=Nat×List (TV×TV×Nat)×Nat) (fun x=>⟨bH 27 [(0,.t (.sl v_1)),(1,.t (.fn (.func 36))),(5,.map (.loc [0])),(9,.t (.sl v_1)),(10,.t (.int .i64 ((v_1.length:Nat):Int))),(11,.t (.int .i64 ((x.1:Nat):Int)))],[(.loc [0],.map x.2.1 x.2.2)],1⟩) (fun x=>(x.1≤v_1.length)∧(SM x.2.1)) (fun x=>v_1.length - x.1) (⟨0,[],0⟩) (iA (Tryz.f35.body.getD .skip) 3) [oN (o:=.map [] 0) (fun _=>HB SM.nil)] (by kernel_rfl) (by show(0≤v_1.length)∧(SM []);first|trivial|omega|(refine⟨?_, ?_⟩<;>first|omega|exact SM.nil)|simp) (fun x hok=> ?_)
  obtain⟨i_2,Vq,acI⟩:=x
  replace hok:(i_2≤v_1.length)∧(SM Vq):=hok
  obtain⟨pH,iW⟩:=hok
  rcases aK (decide (((i_2:Nat):Int)<((v_1.length:Nat):Int))) with bM|bM
  ·
   have lF:=of_decide_eq_true bM
   obtain⟨e4,qU⟩:=lC v_1 i_2 (by first|omega|(simp;omega))
   have k8:=(bq e4 (List.mem_of_getElem? qU))
   obtain⟨uF,eY,fP,iN,rfl,Ep,Er,Es,Et,Vt,Vu⟩:=T.bP k8
   obtain⟨lk6,acJ⟩:=Ka (P:=(cf m).P) (s:=(Vs (.agg [.str uF,.sl eY,.sl fP,.sl iN]))) Pe rfl kB rfl ty3 rfl (fun b=>ko9 b _) iW
   obtain⟨K2,K3,K4,acK⟩:=Ov (P:=(cf m).P) (s:=(Vs (.agg [.str uF,.sl eY,.sl fP,.sl iN]))) (v:=(IntKind.wrap .i64 (lk6+1))) Pe rfl kB rfl (fun b=>ko9 b _) iW acI
   exact⟨.inl ⟨⟨i_2+1,K2,K3⟩,⟨⟨(by show(i_2+1)≤v_1.length;omega),K4⟩,(by show(v_1.length - (i_2+1))<(v_1.length - i_2);omega)⟩⟩,bB (f:=0) (n:=3000) (once:=[]) (k:=27) (T:=1) (S:=[.loc [0]]) (ks:=[.loc [0]]) (live:=[0,1,5,9,10,11]) ah ai [oB bM,oE qU,oC (bf agz (x:=.agg [.str uF,.sl eY,.sl fP,.sl iN]) k8),oO acJ,oZ,oM acK,oI (i_2) (by omega),oN (o:=.map K2 K3) (fun _=>HB K4)] (by kernel_rfl)⟩
  ·
   have lF:=of_decide_eq_false bM
   refine kO ah ai [oB bM] (by kernel_rfl) ?_
   refine⟨⟨decide (((Vq.length:Nat):Int)<((v_1.length:Nat):Int)), ?_⟩,kF ah ai [] (by kernel_rfl)⟩
   trivial
end
end Go.Proofs.YtijfhoelihclbaaGreatDoor.w.e

namespace Go.Proofs.YtijfhoelihclbaaGreatDoor.w.e
open Go Go.Abs Go.Abs.Ty
set_option linter.unusedVariables false
set_option maxRecDepth 100000
set_option maxHeartbeats 2000000
noncomputable section
theorem acL (m:Int)(ts ac:List Tree)(lt:ts.length≤4194304)(ht:∀y∈ts,T .aC y)(la:ac.length≤4194304)(ha:∀y∈ac,T .aY y)(e:Tree)(he:T .string e):∃r:Bool,ay (cf m) 78 (.t e::[.ptr (.arg 0) 0]) [.cells 79 [.t (.sl ts),.t (.sl ac)]] (.ret (.t (.bool r)) [.cells 79 [.t (.sl ts),.t (.sl ac)]] []):=by
 have cv:=he
 obtain⟨v_1,rfl⟩:=T.cT cv
 obtain⟨Ab,Ir⟩:=Eo m
 obtain⟨ev,ai,CB⟩:∃ev,aF (cf m) ev∧Has ev 76 (r7 (fun x y=>T .bO x∧T .string y) (fun x y=>.bool (Ab x y))):=⟨_,(ax (dH (fun x y h=>(Ir x y h).1)) aH),az⟩
 refine AX.start 8 2 Tryz.func78 rfl (by decide) rfl rfl (by decide) ?_
 refine AX.frames ?_
 exact⟨(!(Ab (.agg [.sl ts,.sl ac]) (.str v_1))),kF ah ai [oC (dm CB (x:=.agg [.sl ts,.sl ac]) (y:=.str v_1) ⟨(.bO _ _ (by first|assumption|omega|(simp;done)|(simp;omega)) ht (by first|assumption|omega|(simp;done)|(simp;omega)) ha),cv⟩)] (by kernel_rfl)⟩
theorem acM (m:Int)(ts ac:List Tree)(lt:ts.length≤4194304)(ht:∀y∈ts,T .aC y)(la:ac.length≤4194304)(ha:∀y∈ac,T .aY y):∃q:Tree→Bool,∀e,T .string e→RK (cf m) 78 [.ptr (.arg 0) 0] [.cells 79 [.t (.sl ts),.t (.sl ac)]] e (.bool (q e)):=eF (P:=T .string) (Q:=fun e r=>RK (cf m) 78 [.ptr (.arg 0) 0] [.cells 79 [.t (.sl ts),.t (.sl ac)]] e (.bool r)) fun e he=>acL m ts ac lt ht la ha e he
theorem acN (m:Int)(ts ac:List Tree)(lt:ts.length≤4194304)(ht:∀y∈ts,T .aC y)(la:ac.length≤4194304)(ha:∀y∈ac,T .aY y)(q:Tree→Bool)(hq:∀e,T .string e→RK (cf m) 78 [.ptr (.arg 0) 0] [.cells 79 [.t (.sl ts),.t (.sl ac)]] e (.bool (q e)))(l:List Tree)(hl:l.length≤4194304)(hl2:∀y∈l,T .string y):∃r:Int,ay (cf m) 112 (.t (.sl l)::[.fn (.func 78) [] [.ptr (.arg 0) 0]]) [.cells 79 [.t (.sl ts),.t (.sl ac)]] (.ret (.t (.int .i64 r)) [.cells 79 [.t (.sl ts),.t (.sl ac)]] []):=by
  obtain⟨ev,ai,e_q⟩:∃ev,aF (cf m) ev∧Has ev 78 (pk [.ptr (.arg 0) 0] [.cells 79 [.t (.sl ts),.t (.sl ac)]] (T .string) fun x=>.bool (q x)):=⟨_,(ax (F7 hq) aH),az⟩
  refine AX.start 19 2 Tryz.func112 rfl (by decide) rfl rfl (by decide) ?_
  refine AX.frames ?_
  refine eo (f:=0) (n:=3000) (once:=[]) (k:=19) (T:=0) (S:=[]) (ks:=[.arg 0]) (live:=[0,1,7,8]) ah ai (α:=Nat) (fun x=>⟨bH 19 [(0,.t (.sl l)),(1,.fn (.func 78) [] [.ptr (.arg 0) 0]),(7,.t (.int .i64 ((l.length:Nat):Int))),(8,.t (.int .i64 ((x:Nat):Int)))],[(.arg 0,.cells 79 [.t (.sl ts),.t (.sl ac)])],0⟩) (fun x=>(x≤l.length)) (fun x=>l.length - x) 0 (iA (Tryz.f112.body.getD .skip) 2) [] (by kernel_rfl) (by show(0≤l.length);first|trivial|omega|(refine⟨?_, ?_⟩<;>first|omega|exact SM.nil)|simp) (fun x hok=> ?_)
  obtain⟨i_1,mJ⟩:∃y,y=x:=⟨x,rfl⟩
  subst mJ
  replace hok:(i_1≤l.length):=hok
  have iX:=hok
  rcases aK (decide (((i_1:Nat):Int)<((l.length:Nat):Int))) with bD|bD
  ·
   have gM:=of_decide_eq_true bD
   obtain⟨e3,gY⟩:=lC l i_1 (by first|omega|(simp;omega))
   have iI:=(hl2 e3 (List.mem_of_getElem? gY))
   obtain⟨v_4,rfl⟩:=T.cT iI
   rcases aK ((q (.str v_4))) with kC|kC
   ·
    refine kO ah ai [oB bD,oE gY,oC (A9 e_q (x:=.str v_4) iI),oB kC] (by kernel_rfl) ?_
    exact⟨((i_1:Nat):Int),kF ah ai [] (by kernel_rfl)⟩
   ·
    exact⟨.inl ⟨i_1+1,⟨(by show(i_1+1)≤l.length;omega),(by show(l.length - (i_1+1))<(l.length - i_1);omega)⟩⟩,bB (f:=0) (n:=3000) (once:=[]) (k:=19) (T:=0) (S:=[]) (ks:=[.arg 0]) (live:=[0,1,7,8]) ah ai [oB bD,oE gY,oC (A9 e_q (x:=.str v_4) iI),oB kC,oI (i_1) (by omega)] (by kernel_rfl)⟩
  ·
   have gM:=of_decide_eq_false bD
   refine kO ah ai [oB bD] (by kernel_rfl) ?_
   exact⟨-1,kF ah ai [] (by kernel_rfl)⟩
theorem acO (m:Int)(ts ac:List Tree)(lt:ts.length≤4194304)(ht:∀y∈ts,T .aC y)(la:ac.length≤4194304)(ha:∀y∈ac,T .aY y)(q:Tree→Bool)(hq:∀e,T .string e→RK (cf m) 78 [.ptr (.arg 0) 0] [.cells 79 [.t (.sl ts),.t (.sl ac)]] e (.bool (q e)))(l:List Tree)(hl:l.length≤4194304)(hl2:∀y∈l,T .string y):∃r:Bool,ay (cf m) 77 (.t (.sl l)::[.fn (.func 78) [] [.ptr (.arg 0) 0]]) [.cells 79 [.t (.sl ts),.t (.sl ac)]] (.ret (.t (.bool r)) [.cells 79 [.t (.sl ts),.t (.sl ac)]] []):=by
 obtain⟨ri,hri⟩:=acN m ts ac lt ht la ha q hq l hl hl2
 obtain⟨ev,ai,acG⟩:∃ev,aF (cf m) ev∧Has ev 112 (px (.t (.sl l)::[.fn (.func 78) [] [.ptr (.arg 0) 0]]) [.cells 79 [.t (.sl ts),.t (.sl ac)]] (.ret (.t (.int .i64 ri)) [.cells 79 [.t (.sl ts),.t (.sl ac)]] [])):=⟨_,(ax (jY hri) aH),az⟩
 refine AX.start 9 2 Tryz.func77 rfl (by decide) rfl rfl (by decide) ?_
 refine AX.frames ?_
 exact⟨decide (ri≥0),kF ah ai [oC (lH acG)] (by kernel_rfl)⟩
theorem Ac (m:Int):∃F:Tree→Tree→Bool,∀x y,(T .bO x∧T .bl y)→R2 (cf m) 44 x y (.bool (F x y))∧(True):=by
 refine tO (P:=fun x y=>T .bO x∧T .bl y) (mk:=fun(r:Bool)=>.bool r) (Post:=fun x y r=>True) fun x y hx=> ?_
 obtain⟨hx,hy⟩:=hx
 show ∃r:{r:Bool // True},ay (cf m) 44 [.t x,.t y] [] (.ret (.t (.bool r.1)) [] [])
 have cv:=hx
 obtain⟨aT,aO,rfl,eT,bq,jQ,dP⟩:=T.qz cv
 have ng:=hy
 obtain⟨v_2,rfl,Nk,yb⟩:=T.iV ng
 obtain⟨qa,hqa⟩:=acM m aT aO (by first|assumption|omega|(simp;done)|(simp;omega)) bq (by first|assumption|omega|(simp;done)|(simp;omega)) dP
 obtain⟨ra,hra⟩:=acO m aT aO (by first|assumption|omega|(simp;done)|(simp;omega)) bq (by first|assumption|omega|(simp;done)|(simp;omega)) dP qa hqa v_2 (by first|assumption|omega|(simp;done)|(simp;omega)) yb
 obtain⟨ev,ai,acH⟩:∃ev,aF (cf m) ev∧Has ev 77 (px (.t (.sl v_2)::[.fn (.func 78) [] [.ptr (.arg 0) 0]]) [.cells 79 [.t (.sl aT),.t (.sl aO)]] (.ret (.t (.bool ra)) [.cells 79 [.t (.sl aT),.t (.sl aO)]] [])):=⟨_,(ax (jY hra) aH),az⟩
 refine AX.start 8 2 Tryz.func44 rfl (by decide) rfl rfl (by decide) ?_
 refine AX.frames ?_
 refine⟨⟨ra, ?_⟩,kF ah ai [oC (lH acH)] (by kernel_rfl)⟩
 trivial
def Is:Tree→Tree
 |.agg (_::r)=>.agg r
 |x=>x
def akv:Tree→List Tree
 |.agg [_,_,.sl l,_]=>l
 |_=>[]
def akw:Tree→List Tree
 |.agg [_,_,_,.sl l]=>l
 |_=>[]
theorem Rk (m:Int)(b:Tree)(hb:T .bO b)(x:Tree)(hx:T .aD x)(fW:Tree→Int)(hW:∀y,(y∈akv x∨∃a∈akw x,y=Is a)→R2 (cf m) 43 b y (.int .i64 (fW y))):∃r:Int,ay (cf m) 43 [.t b,.t x] [] (.ret (.t (.int .i64 r)) [] []):=by
  have cv:=hb
  obtain⟨aT,aO,rfl,eT,bq,jQ,dP⟩:=T.qz cv
  have ng:=hx
  obtain⟨cO,cH,bK,aQ,rfl,Nk,yb,Vv,Eu⟩:=T.aR ng
  obtain⟨Ab,Ir⟩:=Eo m
  obtain⟨ev,ai,CB,e_self⟩:∃ev,aF (cf m) ev∧Has ev 76 (r7 (fun x y=>T .bO x∧T .string y) (fun x y=>.bool (Ab x y)))∧Has ev 43 (r7 (fun x y=>x=(.agg [.sl aT,.sl aO])∧(y∈bK∨∃a∈aQ,y=Is a)) fun _ y=>.int .i64 (fW y)):=⟨_,(ax (dH (fun x y h=>(Ir x y h).1)) (ax (dH fun x y h=>by obtain⟨e,h⟩:=h;rw[e];exact hW y h) aH)),az,(aj rfl az)⟩
  refine AX.start 60 2 Tryz.func43 rfl (by decide) rfl rfl (by decide) ?_
  refine AX.frames ?_
  rcases aK ((cO==0)) with bM|bM
  ·
   have lF:=eq_of_beq bM
   exact⟨7,kF ah ai [oB bM] (by kernel_rfl)⟩
  ·
   have lF:=ne_of_beq_false bM
   rcases aK ((cO==4)) with hg4|hg4
   ·
    have D4:=eq_of_beq hg4
    rcases aK ((!(cH==[65,99,116,105,111,110]))) with bu|bu
    ·
     have HU:=ne_of_beq_false (fJ bu)
     rcases aK ((!(Ab (.agg [.sl aT,.sl aO]) (.str cH)))) with jX|jX
     ·
      exact⟨9,kF ah ai [oB bM,oB hg4,oB hg4,oB hg4,oB hg4,oB bu,oB bu,oB bu,oB bu,oC (dm CB (x:=.agg [.sl aT,.sl aO]) (y:=.str cH) ⟨cv,(.string _)⟩),oB bu,oB bu,oB jX] (by kernel_rfl)⟩
     ·
      refine eo (f:=0) (n:=3000) (once:=[]) (k:=60) (T:=2) (S:=[.loc [0],.loc [1]]) (ks:=[.loc [0],.loc [1]]) (live:=[2,3,32,33,34]) ah ai (α:=Nat) (fun x=>⟨bH 60 [(2,.ptr (.loc [0]) 0),(3,.ptr (.loc [1]) 0),(32,.t (.sl bK)),(33,.t (.int .i64 ((bK.length:Nat):Int))),(34,.t (.int .i64 ((x:Nat):Int)))],[(.loc [0],.cells 79 [.t (.sl aT),.t (.sl aO)]),(.loc [1],.cells 38 [.t (.int .u8 cO),.t (.str cH),.t (.sl bK),.t (.sl aQ)])],2⟩) (fun x=>(x≤bK.length)) (fun x=>bK.length - x) 0 (iA (Tryz.f43.body.getD .skip) 6) [oB bM,oB hg4,oB hg4,oB hg4,oB hg4,oB bu,oB bu,oB bu,oB bu,oC (dm CB (x:=.agg [.sl aT,.sl aO]) (y:=.str cH) ⟨cv,(.string _)⟩),oB bu,oB bu,oB jX] (by kernel_rfl) (by show(0≤bK.length);first|trivial|omega|(refine⟨?_, ?_⟩<;>first|omega|exact SM.nil)|simp) (fun x hok=> ?_)
      obtain⟨H9,mJ⟩:∃y,y=x:=⟨x,rfl⟩
      subst mJ
      replace hok:(H9≤bK.length):=hok
      have YK:=hok
      rcases aK (decide (((H9:Nat):Int)<((bK.length:Nat):Int))) with gp|gp
      ·
       have xQ:=of_decide_eq_true gp
       obtain⟨e9,YL⟩:=lC bK H9 (by first|omega|(simp;omega))
       have Ev:=(yb e9 (List.mem_of_getElem? YL))
       obtain⟨tW,rP,yc,qL,rfl,Pf,Pg,Ph,Pj⟩:=T.aR Ev
       rcases aK (((fW (.agg [.int .u8 tW,.str rP,.sl yc,.sl qL])) != 0)) with dn|dn
       ·
        have zH:=aA dn
        refine kO ah ai [oB gp,oE YL,oC (dm e_self (x:=.agg [.sl aT,.sl aO]) (y:=.agg [.int .u8 tW,.str rP,.sl yc,.sl qL]) ⟨rfl,.inl (List.mem_of_getElem? YL)⟩),oB dn] (by kernel_rfl) ?_
        exact⟨(fW (.agg [.int .u8 tW,.str rP,.sl yc,.sl qL])),kF ah ai [] (by kernel_rfl)⟩
       ·
        have zH:=aq dn
        exact⟨.inl ⟨H9+1,⟨(by show(H9+1)≤bK.length;omega),(by show(bK.length - (H9+1))<(bK.length - H9);omega)⟩⟩,bB (f:=0) (n:=3000) (once:=[]) (k:=60) (T:=2) (S:=[.loc [0],.loc [1]]) (ks:=[.loc [0],.loc [1]]) (live:=[2,3,32,33,34]) ah ai [oB gp,oE YL,oC (dm e_self (x:=.agg [.sl aT,.sl aO]) (y:=.agg [.int .u8 tW,.str rP,.sl yc,.sl qL]) ⟨rfl,.inl (List.mem_of_getElem? YL)⟩),oB dn,oI (H9) (by omega)] (by kernel_rfl)⟩
      ·
       have xQ:=of_decide_eq_false gp
       refine kO ah ai [oB gp] (by kernel_rfl) ?_
       refine eo (f:=0) (n:=3000) (once:=[]) (k:=60) (T:=1) (S:=[.loc [0]]) (ks:=[.loc [0]]) (live:=[2,46,47,48]) ah ai (α:=Nat) (fun x=>⟨bH 60 [(2,.ptr (.loc [0]) 0),(46,.t (.sl aQ)),(47,.t (.int .i64 ((aQ.length:Nat):Int))),(48,.t (.int .i64 ((x:Nat):Int)))],[(.loc [0],.cells 79 [.t (.sl aT),.t (.sl aO)])],1⟩) (fun x=>(x≤aQ.length)) (fun x=>aQ.length - x) 0 (iA (Tryz.f43.body.getD .skip) 13) [] (by kernel_rfl) (by show(0≤aQ.length);first|trivial|omega|(refine⟨?_, ?_⟩<;>first|omega|exact SM.nil)|simp) (fun x hok=> ?_)
       obtain⟨gN,mJ⟩:∃y,y=x:=⟨x,rfl⟩
       subst mJ
       replace hok:(gN≤aQ.length):=hok
       have UD:=hok
       rcases aK (decide (((gN:Nat):Int)<((aQ.length:Nat):Int))) with jk|jk
       ·
        have D6:=of_decide_eq_true jk
        obtain⟨e14,Ia⟩:=lC aQ gN (by first|omega|(simp;omega))
        have agA:=(Eu e14 (List.mem_of_getElem? Ia))
        obtain⟨ahW,pO,pP,tX,nW,rfl,ahX,ahY,ahZ,ah0⟩:=T.eV agA
        rcases aK (((fW (.agg [.int .u8 pO,.str pP,.sl tX,.sl nW])) != 0)) with hc16|hc16
        ·
         have Eh:=aA hc16
         refine kO ah ai [oB jk,oE Ia,oC (dm e_self (x:=.agg [.sl aT,.sl aO]) (y:=.agg [.int .u8 pO,.str pP,.sl tX,.sl nW]) ⟨rfl,.inr ⟨_,List.mem_of_getElem? Ia,rfl⟩⟩),oB hc16] (by kernel_rfl) ?_
         exact⟨(fW (.agg [.int .u8 pO,.str pP,.sl tX,.sl nW])),kF ah ai [] (by kernel_rfl)⟩
        ·
         have Eh:=aq hc16
         exact⟨.inl ⟨gN+1,⟨(by show(gN+1)≤aQ.length;omega),(by show(aQ.length - (gN+1))<(aQ.length - gN);omega)⟩⟩,bB (f:=0) (n:=3000) (once:=[]) (k:=60) (T:=1) (S:=[.loc [0]]) (ks:=[.loc [0]]) (live:=[2,46,47,48]) ah ai [oB jk,oE Ia,oC (dm e_self (x:=.agg [.sl aT,.sl aO]) (y:=.agg [.int .u8 pO,.str pP,.sl tX,.sl nW]) ⟨rfl,.inr ⟨_,List.mem_of_getElem? Ia,rfl⟩⟩),oB hc16,oI (gN) (by omega)] (by kernel_rfl)⟩
       ·
        have D6:=of_decide_eq_false jk
        refine kO ah ai [oB jk] (by kernel_rfl) ?_
        exact⟨0,kF ah ai [] (by kernel_rfl)⟩
    ·
     have HU:=eq_of_beq (dJ bu)
     refine eo (f:=0) (n:=3000) (once:=[]) (k:=60) (T:=2) (S:=[.loc [0],.loc [1]]) (ks:=[.loc [0],.loc [1]]) (live:=[2,3,32,33,34]) ah ai (α:=Nat) (fun x=>⟨bH 60 [(2,.ptr (.loc [0]) 0),(3,.ptr (.loc [1]) 0),(32,.t (.sl bK)),(33,.t (.int .i64 ((bK.length:Nat):Int))),(34,.t (.int .i64 ((x:Nat):Int)))],[(.loc [0],.cells 79 [.t (.sl aT),.t (.sl aO)]),(.loc [1],.cells 38 [.t (.int .u8 cO),.t (.str cH),.t (.sl bK),.t (.sl aQ)])],2⟩) (fun x=>(x≤bK.length)) (fun x=>bK.length - x) 0 (iA (Tryz.f43.body.getD .skip) 6) [oB bM,oB hg4,oB hg4,oB hg4,oB hg4,oB bu,oB bu,oB bu,oB bu,oB bu,oB bu,oF] (by kernel_rfl) (by show(0≤bK.length);first|trivial|omega|(refine⟨?_, ?_⟩<;>first|omega|exact SM.nil)|simp) (fun x hok=> ?_)
     obtain⟨tQ,mJ⟩:∃y,y=x:=⟨x,rfl⟩
     subst mJ
     replace hok:(tQ≤bK.length):=hok
     have UF:=hok
     rcases aK (decide (((tQ:Nat):Int)<((bK.length:Nat):Int))) with k6|k6
     ·
      have D7:=of_decide_eq_true k6
      obtain⟨e19,Ib⟩:=lC bK tQ (by first|omega|(simp;omega))
      have Pk:=(yb e19 (List.mem_of_getElem? Ib))
      obtain⟨wG,wH,Bq,sS,rfl,YX,YY,YZ,Y0⟩:=T.aR Pk
      rcases aK (((fW (.agg [.int .u8 wG,.str wH,.sl Bq,.sl sS])) != 0)) with Vw|Vw
      ·
       have agB:=aA Vw
       refine kO ah ai [oB k6,oE Ib,oC (dm e_self (x:=.agg [.sl aT,.sl aO]) (y:=.agg [.int .u8 wG,.str wH,.sl Bq,.sl sS]) ⟨rfl,.inl (List.mem_of_getElem? Ib)⟩),oB Vw] (by kernel_rfl) ?_
       exact⟨(fW (.agg [.int .u8 wG,.str wH,.sl Bq,.sl sS])),kF ah ai [] (by kernel_rfl)⟩
      ·
       have agB:=aq Vw
       exact⟨.inl ⟨tQ+1,⟨(by show(tQ+1)≤bK.length;omega),(by show(bK.length - (tQ+1))<(bK.length - tQ);omega)⟩⟩,bB (f:=0) (n:=3000) (once:=[]) (k:=60) (T:=2) (S:=[.loc [0],.loc [1]]) (ks:=[.loc [0],.loc [1]]) (live:=[2,3,32,33,34]) ah ai [oB k6,oE Ib,oC (dm e_self (x:=.agg [.sl aT,.sl aO]) (y:=.agg [.int .u8 wG,.str wH,.sl Bq,.sl sS]) ⟨rfl,.inl (List.mem_of_getElem? Ib)⟩),oB Vw,oI (tQ) (by omega)] (by kernel_rfl)⟩
     ·
      have D7:=of_decide_eq_false k6
      refine kO ah ai [oB k6] (by kernel_rfl) ?_
      refine eo (f:=0) (n:=3000) (once:=[]) (k:=60) (T:=1) (S:=[.loc [0]]) (ks:=[.loc [0]]) (live:=[2,46,47,48]) ah ai (α:=Nat) (fun x=>⟨bH 60 [(2,.ptr (.loc [0]) 0),(46,.t (.sl aQ)),(47,.t (.int .i64 ((aQ.length:Nat):Int))),(48,.t (.int .i64 ((x:Nat):Int)))],[(.loc [0],.cells 79 [.t (.sl aT),.t (.sl aO)])],1⟩) (fun x=>(x≤aQ.length)) (fun x=>aQ.length - x) 0 (iA (Tryz.f43.body.getD .skip) 13) [] (by kernel_rfl) (by show(0≤aQ.length);first|trivial|omega|(refine⟨?_, ?_⟩<;>first|omega|exact SM.nil)|simp) (fun x hok=> ?_)
      obtain⟨K5,mJ⟩:∃y,y=x:=⟨x,rfl⟩
      subst mJ
      replace hok:(K5≤aQ.length):=hok
      have agC:=hok
      rcases aK (decide (((K5:Nat):Int)<((aQ.length:Nat):Int))) with Cg|Cg
      ·
       have Vx:=of_decide_eq_true Cg
       obtain⟨e24,Vy⟩:=lC aQ K5 (by first|omega|(simp;omega))
       have agD:=(Eu e24 (List.mem_of_getElem? Vy))
       obtain⟨ah1,pQ,pR,tY,nX,rfl,ah2,ah3,ah4,ah5⟩:=T.eV agD
       rcases aK (((fW (.agg [.int .u8 pQ,.str pR,.sl tY,.sl nX])) != 0)) with Vz|Vz
       ·
        have agE:=aA Vz
        refine kO ah ai [oB Cg,oE Vy,oC (dm e_self (x:=.agg [.sl aT,.sl aO]) (y:=.agg [.int .u8 pQ,.str pR,.sl tY,.sl nX]) ⟨rfl,.inr ⟨_,List.mem_of_getElem? Vy,rfl⟩⟩),oB Vz] (by kernel_rfl) ?_
        exact⟨(fW (.agg [.int .u8 pQ,.str pR,.sl tY,.sl nX])),kF ah ai [] (by kernel_rfl)⟩
       ·
        have agE:=aq Vz
        exact⟨.inl ⟨K5+1,⟨(by show(K5+1)≤aQ.length;omega),(by show(aQ.length - (K5+1))<(aQ.length - K5);omega)⟩⟩,bB (f:=0) (n:=3000) (once:=[]) (k:=60) (T:=1) (S:=[.loc [0]]) (ks:=[.loc [0]]) (live:=[2,46,47,48]) ah ai [oB Cg,oE Vy,oC (dm e_self (x:=.agg [.sl aT,.sl aO]) (y:=.agg [.int .u8 pQ,.str pR,.sl tY,.sl nX]) ⟨rfl,.inr ⟨_,List.mem_of_getElem? Vy,rfl⟩⟩),oB Vz,oI (K5) (by omega)] (by kernel_rfl)⟩
      ·
       have Vx:=of_decide_eq_false Cg
       refine kO ah ai [oB Cg] (by kernel_rfl) ?_
       exact⟨0,kF ah ai [] (by kernel_rfl)⟩
   ·
    have D4:=ne_of_beq_false hg4
    refine eo (f:=0) (n:=3000) (once:=[]) (k:=60) (T:=2) (S:=[.loc [0],.loc [1]]) (ks:=[.loc [0],.loc [1]]) (live:=[2,3,32,33,34]) ah ai (α:=Nat) (fun x=>⟨bH 60 [(2,.ptr (.loc [0]) 0),(3,.ptr (.loc [1]) 0),(32,.t (.sl bK)),(33,.t (.int .i64 ((bK.length:Nat):Int))),(34,.t (.int .i64 ((x:Nat):Int)))],[(.loc [0],.cells 79 [.t (.sl aT),.t (.sl aO)]),(.loc [1],.cells 38 [.t (.int .u8 cO),.t (.str cH),.t (.sl bK),.t (.sl aQ)])],2⟩) (fun x=>(x≤bK.length)) (fun x=>bK.length - x) 0 (iA (Tryz.f43.body.getD .skip) 6) [oB bM,oB hg4,oB hg4,oB hg4,oB hg4,oF,oF,oF,oF,oF,oF,oF] (by kernel_rfl) (by show(0≤bK.length);first|trivial|omega|(refine⟨?_, ?_⟩<;>first|omega|exact SM.nil)|simp) (fun x hok=> ?_)
    obtain⟨K6,mJ⟩:∃y,y=x:=⟨x,rfl⟩
    subst mJ
    replace hok:(K6≤bK.length):=hok
    have agF:=hok
    rcases aK (decide (((K6:Nat):Int)<((bK.length:Nat):Int))) with je|je
    ·
     have Kz:=of_decide_eq_true je
     obtain⟨e29,Bf⟩:=lC bK K6 (by first|omega|(simp;omega))
     have agG:=(yb e29 (List.mem_of_getElem? Bf))
     obtain⟨CC,CD,Iu,Ad,rfl,ah6,ah7,ah8,ah9⟩:=T.aR agG
     rcases aK (((fW (.agg [.int .u8 CC,.str CD,.sl Iu,.sl Ad])) != 0)) with Ic|Ic
     ·
      have UL:=aA Ic
      refine kO ah ai [oB je,oE Bf,oC (dm e_self (x:=.agg [.sl aT,.sl aO]) (y:=.agg [.int .u8 CC,.str CD,.sl Iu,.sl Ad]) ⟨rfl,.inl (List.mem_of_getElem? Bf)⟩),oB Ic] (by kernel_rfl) ?_
      exact⟨(fW (.agg [.int .u8 CC,.str CD,.sl Iu,.sl Ad])),kF ah ai [] (by kernel_rfl)⟩
     ·
      have UL:=aq Ic
      exact⟨.inl ⟨K6+1,⟨(by show(K6+1)≤bK.length;omega),(by show(bK.length - (K6+1))<(bK.length - K6);omega)⟩⟩,bB (f:=0) (n:=3000) (once:=[]) (k:=60) (T:=2) (S:=[.loc [0],.loc [1]]) (ks:=[.loc [0],.loc [1]]) (live:=[2,3,32,33,34]) ah ai [oB je,oE Bf,oC (dm e_self (x:=.agg [.sl aT,.sl aO]) (y:=.agg [.int .u8 CC,.str CD,.sl Iu,.sl Ad]) ⟨rfl,.inl (List.mem_of_getElem? Bf)⟩),oB Ic,oI (K6) (by omega)] (by kernel_rfl)⟩
    ·
     have Kz:=of_decide_eq_false je
     refine kO ah ai [oB je] (by kernel_rfl) ?_
     refine eo (f:=0) (n:=3000) (once:=[]) (k:=60) (T:=1) (S:=[.loc [0]]) (ks:=[.loc [0]]) (live:=[2,46,47,48]) ah ai (α:=Nat) (fun x=>⟨bH 60 [(2,.ptr (.loc [0]) 0),(46,.t (.sl aQ)),(47,.t (.int .i64 ((aQ.length:Nat):Int))),(48,.t (.int .i64 ((x:Nat):Int)))],[(.loc [0],.cells 79 [.t (.sl aT),.t (.sl aO)])],1⟩) (fun x=>(x≤aQ.length)) (fun x=>aQ.length - x) 0 (iA (Tryz.f43.body.getD .skip) 13) [] (by kernel_rfl) (by show(0≤aQ.length);first|trivial|omega|(refine⟨?_, ?_⟩<;>first|omega|exact SM.nil)|simp) (fun x hok=> ?_)
     obtain⟨K7,mJ⟩:∃y,y=x:=⟨x,rfl⟩
     subst mJ
     replace hok:(K7≤aQ.length):=hok
     have agH:=hok
     rcases aK (decide (((K7:Nat):Int)<((aQ.length:Nat):Int))) with Rl|Rl
     ·
      have agI:=of_decide_eq_true Rl
      obtain⟨e34,VA⟩:=lC aQ K7 (by first|omega|(simp;omega))
      have agJ:=(Eu e34 (List.mem_of_getElem? VA))
      obtain⟨aia,pS,pT,tZ,nY,rfl,aib,aic,aid,aie⟩:=T.eV agJ
      rcases aK (((fW (.agg [.int .u8 pS,.str pT,.sl tZ,.sl nY])) != 0)) with Iv|Iv
      ·
       have VB:=aA Iv
       refine kO ah ai [oB Rl,oE VA,oC (dm e_self (x:=.agg [.sl aT,.sl aO]) (y:=.agg [.int .u8 pS,.str pT,.sl tZ,.sl nY]) ⟨rfl,.inr ⟨_,List.mem_of_getElem? VA,rfl⟩⟩),oB Iv] (by kernel_rfl) ?_
       exact⟨(fW (.agg [.int .u8 pS,.str pT,.sl tZ,.sl nY])),kF ah ai [] (by kernel_rfl)⟩
      ·
       have VB:=aq Iv
       exact⟨.inl ⟨K7+1,⟨(by show(K7+1)≤aQ.length;omega),(by show(aQ.length - (K7+1))<(aQ.length - K7);omega)⟩⟩,bB (f:=0) (n:=3000) (once:=[]) (k:=60) (T:=1) (S:=[.loc [0]]) (ks:=[.loc [0]]) (live:=[2,46,47,48]) ah ai [oB Rl,oE VA,oC (dm e_self (x:=.agg [.sl aT,.sl aO]) (y:=.agg [.int .u8 pS,.str pT,.sl tZ,.sl nY]) ⟨rfl,.inr ⟨_,List.mem_of_getElem? VA,rfl⟩⟩),oB Iv,oI (K7) (by omega)] (by kernel_rfl)⟩
     ·
      have agI:=of_decide_eq_false Rl
      refine kO ah ai [oB Rl] (by kernel_rfl) ?_
      exact⟨0,kF ah ai [] (by kernel_rfl)⟩
theorem BZ (m:Int):∃F:Tree→Tree→Int,∀b x,T .bO b∧T .aD x→R2 (cf m) 43 b x (.int .i64 (F b x)):=by
 have key:∀(b:Tree),T .bO b→∀(k:K) (x:Tree),T k x→(k=.aD→∃r:Int,R2 (cf m) 43 b x (.int .i64 r))∧(k=.bh→∃r:Int,R2 (cf m) 43 b (Is x) (.int .i64 r)):=by
  intro b hb k x h
  have go:∀(k1:Int) (s:List UInt8) (os bs:List Tree),os.length≤4194304→(∀y∈os,T .aD y)→bs.length≤4194304→(∀y∈bs,T .bh y)→(∀y∈os,∃r:Int,R2 (cf m) 43 b y (.int .i64 r))→(∀y∈bs,∃r:Int,R2 (cf m) 43 b (Is y) (.int .i64 r))→
    ∃r:Int,R2 (cf m) 43 b (.agg [.int .u8 k1,.str s,.sl os,.sl bs]) (.int .i64 r):=by
   intro k1 s os bs l1 h1 l2 h2 i1 i2
   obtain⟨fW,hW⟩:=eF (P:=fun y=>y∈os∨∃a∈bs,y=Is a) (Q:=fun y (r:Int)=>R2 (cf m) 43 b y (.int .i64 r)) fun y hy=>by
    rcases hy with hy|⟨a,ha,rfl⟩
    · exact i1 y hy
    · exact i2 a ha
   exact Rk m b hb _ (.aD k1 s os bs l1 h1 l2 h2) fW hW
  induction h with
  |aD k1 s os bs l1 h1 l2 h2 i1 i2=>exact⟨fun _=>go k1 s os bs l1 h1 l2 h2 (fun y hy=>(i1 y hy).1 rfl) (fun y hy=>(i2 y hy).2 rfl),fun e=>(by cases e)⟩
  |bh nm k1 s os bs l1 h1 l2 h2 i1 i2=>exact⟨fun e=>(by cases e),fun _=>go k1 s os bs l1 h1 l2 h2 (fun y hy=>(i1 y hy).1 rfl) (fun y hy=>(i2 y hy).2 rfl)⟩
  |_=>exact⟨fun e=>(by cases e),fun e=>(by cases e)⟩
 exact xd (Tree.int .i64) fun b x h=>(key b h.1 _ x h.2).1 rfl
theorem wI {n m:Nat}(hle:n≤m){x:Tree}(h:Dp n x):Dp m x:=by
 induction hle with
 |refl=>exact h
 |step _ ih=>exact Dp.up _ _ ih
theorem uniform {P:Nat→Tree→Prop}(hm:∀n m x,n≤m→P n x→P m x):∀{l:List Tree},(∀y∈l,∃n,P n y)→∃n,∀y∈l,P n y
 | [],_=>⟨0,fun _ h=>by cases h⟩
 |a::r,h=>by
  obtain⟨n,hn⟩:=uniform hm fun y hy=>h y (List.mem_cons_of_mem _ hy)
  obtain⟨k,hk⟩:=h a List.mem_cons_self
  refine⟨max n k,fun y hy=> ?_⟩
  rcases List.mem_cons.1 hy with rfl|hy
  · exact hm _ _ _ (Nat.le_max_right _ _) hk
  · exact hm _ _ _ (Nat.le_max_left _ _) (hn y hy)
theorem Gx {x:Tree}(h:T .aD x):∃n,Dp n x:=by
 have key:∀(k:K) (x:Tree),T k x→(k=.aD→∃n,Dp n x)∧(k=.bh→∃nm r n,x=.agg (.str nm::r)∧Dp n (.agg r)):=by
  intro k x h
  have go:∀(k1:Int) (s:List UInt8) (os bs:List Tree),os.length≤4194304→bs.length≤4194304→(∀y∈os,∃n,Dp n y)→(∀y∈bs,∃nm r n,y=.agg (.str nm::r)∧Dp n (.agg r))→∃n,Dp n (.agg [.int .u8 k1,.str s,.sl os,.sl bs]):=by
   intro k1 s os bs l1 l2 i1 i2
   obtain⟨n1,h1⟩:=uniform (P:=Dp) (fun _ _ _ hle h=>wI hle h) i1
   obtain⟨n2,h2⟩:=uniform (P:=fun n y=>∃nm r,y=.agg (.str nm::r)∧Dp n (.agg r)) (fun _ _ _ hle ⟨nm,r,e,h⟩=>⟨nm,r,e,wI hle h⟩) (l:=bs) fun y hy=>by
    obtain⟨nm,r,n,e,h⟩:=i2 y hy
    exact⟨n,nm,r,e,h⟩
   refine⟨max n1 n2+1,k1,s,os,bs,rfl,l1,l2,fun o ho=>wI (Nat.le_max_left _ _) (h1 o ho),fun e he=> ?_⟩
   obtain⟨nm,r,e1,h⟩:=h2 e he
   exact⟨nm,r,e1,wI (Nat.le_max_right _ _) h⟩
  induction h with
  |aD k1 s os bs l1 h1 l2 h2 i1 i2=>exact⟨fun _=>go k1 s os bs l1 l2 (fun y hy=>(i1 y hy).1 rfl) (fun y hy=>(i2 y hy).2 rfl),fun e=>(by cases e)⟩
  |bh nm k1 s os bs l1 h1 l2 h2 i1 i2=>
   refine⟨fun e=>(by cases e),fun _=> ?_⟩
   obtain⟨n,hn⟩:=go k1 s os bs l1 l2 (fun y hy=>(i1 y hy).1 rfl) (fun y hy=>(i2 y hy).2 rfl)
   exact⟨nm,_,n,rfl,hn⟩
  |_=>exact⟨fun e=>(by cases e),fun e=>(by cases e)⟩
 exact(key _ x h).1 rfl
theorem CF (m:Int):∃F:Tree→Int,∀x,T .aD x→R1 (cf m) 13 x (.int .i64 (F x))∧(F x=0→xG x):=eF (P:=T .aD) (Q:=fun x (r:Int)=>R1 (cf m) 13 x (.int .i64 r)∧(r=0→xG x)) fun x hx=>by
 obtain⟨n,hn⟩:=Gx hx
 obtain⟨ck,Sw⟩:=U2 m n
 exact⟨_,(Sw x hn).1,fun h=>⟨n,(Sw x hn).2 h⟩⟩
end
end Go.Proofs.YtijfhoelihclbaaGreatDoor.w.e

namespace Go.Proofs.YtijfhoelihclbaaGreatDoor.w.e
open Go Go.Abs Go.Abs.Ty
set_option linter.unusedVariables false
set_option maxRecDepth 100000
set_option maxHeartbeats 2000000
noncomputable section
def Iw (s1 s2:List TV→List aV→Option bG):List TV→List aV→Option bG:=fun a o=>(s1 a o).or (s2 a o)
theorem Iy {C:dI}{g:FuncId}{s1 s2:List TV→List aV→Option bG}(h1:kY C g s1)(h2:kY C g s2):kY C g (Iw s1 s2):=fun a o r h=>by
 unfold Iw at h
 cases hs:s1 a o with
 |none=>rw[hs] at h;exact h2 a o r h
 |some q=>rw[hs] at h;cases h;exact h1 a o _ hs
theorem Iz {g:FuncId}{ev:aW}{s1 s2:List TV→List aV→Option bG}(h:Has ev g (Iw s1 s2)):Has ev g s1:=fun a o r hs=>h a o r (by unfold Iw;rw[hs];rfl)
theorem VC {g:FuncId}{ev:aW}{s1:List TV→List aV→Option bG}{args:List TV}{aX:List aV}{r:bG}(h:Has ev g (Iw s1 (px args aX r)))(hn:s1 args aX=none):ev g args aX=some r:=h _ _ _ (by
 unfold Iw
 rw[hn]
 show px args aX r args aX=some r
 exact if_pos ⟨rfl,rfl⟩)
theorem K8 (m:Int):∃F:Tree→List UInt8,∀x,(T .string x)→R1 (cf m) 72 x (.str (F x))∧(True):=by
 refine wT (P:=fun x=>T .string x) (mk:=fun(r:List UInt8)=>.str r) (Post:=fun x r=>True) fun x hx=> ?_
 show ∃r:{r:List UInt8 // True},ay (cf m) 72 [.t x] [] (.ret (.t (.str r.1)) [] [])
 have cv:=hx
 obtain⟨v_1,rfl⟩:=T.cT cv
 obtain⟨ev,ai⟩:∃ev,aF (cf m) ev:=⟨_,aH⟩
 refine AX.start 4 1 Tryz.func72 rfl (by decide) rfl rfl (by decide) ?_
 refine AX.frames ?_
 refine⟨⟨v_1, ?_⟩,kF ah ai [] (by kernel_rfl)⟩
 trivial
theorem Rm (m:Int):∃F:Tree→Tree→Bool,∀x y,(T .bl x∧y=.fn (.func 72))→R2 (cf m) 71 x y (.bool (F x y))∧(True):=by
  refine tO (P:=fun x y=>T .bl x∧y=.fn (.func 72)) (mk:=fun(r:Bool)=>.bool r) (Post:=fun x y r=>True) fun x y hx=> ?_
  obtain⟨hx,hy⟩:=hx
  show ∃r:{r:Bool // True},ay (cf m) 71 [.t x,.t y] [] (.ret (.t (.bool r.1)) [] [])
  have cv:=hx
  obtain⟨v_1,rfl,eT,bq⟩:=T.iV cv
  subst hy
  obtain⟨Ew,VD⟩:=K8 m
  obtain⟨ev,ai,Ae⟩:∃ev,aF (cf m) ev∧Has ev 72 (jP (fun x=>T .string x) (fun x=>.str (Ew x))):=⟨_,(ax (bp (fun x h=>(VD x h).1)) aH),az⟩
  refine AX.start 26 2 Tryz.func71 rfl (by decide) rfl rfl (by decide) ?_
  refine AX.frames ?_
  refine eo (f:=0) (n:=3000) (once:=[]) (k:=26) (T:=0) (S:=[]) (ks:=[]) (live:=[0,1,5]) ah ai (α:=Nat) (fun x=>⟨bH 26 [(0,.t (.sl v_1)),(1,.t (.fn (.func 72))),(5,.t (.int .i64 ((x:Nat):Int)))],[],0⟩) (fun x=>(x≤(v_1.length+1))∧(1≤x)) (fun x=>(v_1.length+1) - x) 1 (iA (Tryz.f71.body.getD .skip) 2) [] (by kernel_rfl) (by show(1≤(v_1.length+1))∧(1≤1);first|trivial|omega|(refine⟨?_, ?_⟩<;>first|omega|exact SM.nil)|simp) (fun x hok=> ?_)
  obtain⟨i_2,mJ⟩:∃y,y=x:=⟨x,rfl⟩
  subst mJ
  replace hok:(i_2≤(v_1.length+1))∧(1≤i_2):=hok
  obtain⟨pH,iW⟩:=hok
  rcases aK (decide (((i_2:Nat):Int)<((v_1.length:Nat):Int))) with bM|bM
  ·
   have lF:=of_decide_eq_true bM
   obtain⟨e4,qU⟩:=lC v_1 (i_2 - 1) (by first|omega|(simp;omega))
   have k8:=(bq e4 (List.mem_of_getElem? qU))
   obtain⟨Xw,rfl⟩:=T.cT k8
   obtain⟨e6,zA⟩:=lC v_1 i_2 (by first|omega|(simp;omega))
   have IA:=(bq e6 (List.mem_of_getElem? zA))
   obtain⟨v_7,rfl⟩:=T.cT IA
   rcases aK ((!(jw (Ew (.str Xw)) (Ew (.str v_7))))) with gp|gp
   ·
    refine kO ah ai [oB bM,oS (i_2) iW (by omega),oE qU,oC (bf Ae (x:=.str Xw) k8),oE zA,oC (bf Ae (x:=.str v_7) IA),oB gp] (by kernel_rfl) ?_
    refine⟨⟨false, ?_⟩,kF ah ai [] (by kernel_rfl)⟩
    trivial
   ·
    exact⟨.inl ⟨i_2+1,⟨⟨(by show(i_2+1)≤(v_1.length+1);omega),(by show 1≤(i_2+1);first|omega|(simp only[List.length_append,List.length_cons,List.length_nil,List.length_singleton] at*;omega)|(simp;done)|(simp;omega))⟩,(by show((v_1.length+1) - (i_2+1))<((v_1.length+1) - i_2);omega)⟩⟩,bB (f:=0) (n:=3000) (once:=[]) (k:=26) (T:=0) (S:=[]) (ks:=[]) (live:=[0,1,5]) ah ai [oB bM,oS (i_2) iW (by omega),oE qU,oC (bf Ae (x:=.str Xw) k8),oE zA,oC (bf Ae (x:=.str v_7) IA),oB gp,oI (i_2) (by omega)] (by kernel_rfl)⟩
  ·
   have lF:=of_decide_eq_false bM
   refine kO ah ai [oB bM] (by kernel_rfl) ?_
   refine⟨⟨true, ?_⟩,kF ah ai [] (by kernel_rfl)⟩
   trivial
theorem Gy (m:Int):∃F:Tree→Bool,∀x,(T .bl x)→R1 (cf m) 27 x (.bool (F x))∧(True):=by
  refine wT (P:=fun x=>T .bl x) (mk:=fun(r:Bool)=>.bool r) (Post:=fun x r=>True) fun x hx=> ?_
  show ∃r:{r:Bool // True},ay (cf m) 27 [.t x] [] (.ret (.t (.bool r.1)) [] [])
  have cv:=hx
  obtain⟨v_1,rfl,eT,bq⟩:=T.iV cv
  obtain⟨VE,acP⟩:=Rm m
  obtain⟨ev,ai,acQ⟩:∃ev,aF (cf m) ev∧Has ev 71 (r7 (fun x y=>T .bl x∧y=.fn (.func 72)) (fun x y=>.bool (VE x y))):=⟨_,(ax (dH (fun x y h=>(acP x y h).1)) aH),az⟩
  refine AX.start 10 1 Tryz.func27 rfl (by decide) rfl rfl (by decide) ?_
  refine AX.frames ?_
  rcases aK (decide (((v_1.length:Nat):Int)≤16)) with hg2|hg2
  ·
   have HT:=of_decide_eq_true hg2
   refine⟨⟨(VE (.sl v_1) (.fn (.func 72))), ?_⟩,kF ah ai [oB hg2,oB hg2,oC (dm acQ (x:=.sl v_1) (y:=.fn (.func 72)) ⟨cv,rfl⟩),oB hg2] (by kernel_rfl)⟩
   trivial
  ·
   have HT:=of_decide_eq_false hg2
   refine⟨⟨false, ?_⟩,kF ah ai [oB hg2,oB hg2,oB hg2] (by kernel_rfl)⟩
   trivial
theorem Fh (m:Int):∃F:Tree→Bool,∀x,(T .string x)→R1 (cf m) 26 x (.bool (F x))∧(True):=by
  refine wT (P:=fun x=>T .string x) (mk:=fun(r:Bool)=>.bool r) (Post:=fun x r=>True) fun x hx=> ?_
  show ∃r:{r:Bool // True},ay (cf m) 26 [.t x] [] (.ret (.t (.bool r.1)) [] [])
  have acR:T .bl (.sl (A5.map Tree.str)):=.bl _ (by decide) (fun y hy=>by obtain⟨s,_,rfl⟩:=List.mem_map.1 hy;exact .string s)
  have cv:=hx
  obtain⟨v_1,rfl⟩:=T.cT cv
  obtain⟨wU,M9⟩:=Cw m
  obtain⟨KW,U8⟩:=KV m
  obtain⟨ev,ai,Bg,agK,KZ⟩:∃ev,aF (cf m) ev∧Has ev 68 (jP (fun x=>PS x) (fun x=>.bool (wU x)))∧Has ev 70 (nG ou tD)∧Has ev 69 (r7 (fun x y=>T .bl x∧T .string y) (fun x y=>.bool (KW x y))):=⟨_,(ax (bp (fun x h=>(M9 x h))) (ax ((show kY (cf m) 70 (nG ou tD) from fun args aX r h=>live.DY m tD aH args aX r h)) (ax (dH (fun x y h=>(U8 x y h).1)) aH))),az,(aj rfl az),(aj rfl (aj rfl az))⟩
  refine AX.start 11 1 Tryz.func26 rfl (by decide) rfl rfl (by decide) ?_
  refine AX.frames ?_
  rcases aK ((wU (.str v_1))) with hg2|hg2
  ·
   refine⟨⟨(!(KW (.sl (A5.map Tree.str)) (.str v_1))), ?_⟩,kF ah ai [oC (bf Bg (x:=.str v_1) ⟨_,rfl⟩),oB hg2,oC (show ev 70 [.t (.str [66,111,111,108,32,76,111,110,103,32,83,116,114,105,110,103,32,83,101,116,32,65,99,116,105,111,110])] []=some (bG.ret (.t (.sl (A5.map Tree.str))) [] []) from(agK _ _ _ rfl)),oB hg2,oB hg2,oC (dm KZ (x:=.sl (A5.map Tree.str)) (y:=.str v_1) ⟨acR,cv⟩),oB hg2,oB hg2] (by kernel_rfl)⟩
   trivial
  ·
   refine⟨⟨false, ?_⟩,kF ah ai [oC (bf Bg (x:=.str v_1) ⟨_,rfl⟩),oB hg2,oB hg2,oB hg2,oB hg2,oB hg2] (by kernel_rfl)⟩
   trivial
theorem VG (m:Int):∃F:Tree→Bool,∀x,(T .aC x)→R1 (cf m) 25 x (.bool (F x))∧(True):=by
  refine wT (P:=fun x=>T .aC x) (mk:=fun(r:Bool)=>.bool r) (Post:=fun x r=>True) fun x hx=> ?_
  show ∃r:{r:Bool // True},ay (cf m) 25 [.t x] [] (.ret (.t (.bool r.1)) [] [])
  have cv:=hx
  obtain⟨nM,kL,jH,rfl,eT,bq,jQ,dP⟩:=T.bg cv
  obtain⟨Ex,Nl⟩:=Fh m
  obtain⟨Br,Nn⟩:=Gy m
  obtain⟨ev,ai,Ey,Ez⟩:∃ev,aF (cf m) ev∧Has ev 26 (jP (fun x=>T .string x) (fun x=>.bool (Ex x)))∧Has ev 27 (jP (fun x=>T .bl x) (fun x=>.bool (Br x))):=⟨_,(ax (bp (fun x h=>(Nl x h).1)) (ax (bp (fun x h=>(Nn x h).1)) aH)),az,(aj rfl az)⟩
  refine AX.start 13 1 Tryz.func25 rfl (by decide) rfl rfl (by decide) ?_
  refine AX.frames ?_
  rcases aK ((!(Ex (.str nM)))) with hg2|hg2
  ·
   refine⟨⟨true, ?_⟩,kF ah ai [oC (bf Ey (x:=.str nM) (.string _)),oB hg2,oB hg2,oB hg2,oB hg2,oB hg2] (by kernel_rfl)⟩
   trivial
  ·
   refine⟨⟨(!(Br (.sl kL))), ?_⟩,kF ah ai [oC (bf Ey (x:=.str nM) (.string _)),oB hg2,oB hg2,oB hg2,oC (bf Ez (x:=.sl kL) (.bl _ (by first|assumption|omega|(simp;done)|(simp;omega)) bq)),oB hg2,oB hg2] (by kernel_rfl)⟩
   trivial
theorem VH (m:Int):∃F:Tree→Bool,∀x,(T .aY x)→R1 (cf m) 28 x (.bool (F x))∧(True):=by
  refine wT (P:=fun x=>T .aY x) (mk:=fun(r:Bool)=>.bool r) (Post:=fun x r=>True) fun x hx=> ?_
  show ∃r:{r:Bool // True},ay (cf m) 28 [.t x] [] (.ret (.t (.bool r.1)) [] [])
  have cv:=hx
  obtain⟨qI,iu,jq,gq,rfl,eT,bq,jQ,dP,Nj,ya⟩:=T.bP cv
  obtain⟨Cf,Nb⟩:=tS m
  obtain⟨Br,Nn⟩:=Gy m
  obtain⟨ev,ai,wW,Ez⟩:∃ev,aF (cf m) ev∧Has ev 29 (jP (fun x=>PS x) (fun x=>.bool (Cf x)))∧Has ev 27 (jP (fun x=>T .bl x) (fun x=>.bool (Br x))):=⟨_,(ax (bp (fun x h=>(Nb x h))) (ax (bp (fun x h=>(Nn x h).1)) aH)),az,(aj rfl az)⟩
  refine AX.start 25 1 Tryz.func28 rfl (by decide) rfl rfl (by decide) ?_
  refine AX.frames ?_
  rcases aK (decide (((qI.length:Nat):Int)>64)) with hg2|hg2
  ·
   have HT:=of_decide_eq_true hg2
   refine⟨⟨true, ?_⟩,kF ah ai [oB hg2,oB hg2,oB hg2,oB hg2,oB hg2,oT,oT,oT,oT,oT,oT,oT,oT,oT,oT] (by kernel_rfl)⟩
   trivial
  ·
   have HT:=of_decide_eq_false hg2
   rcases aK ((!(Cf (.str qI)))) with hg3|hg3
   ·
    refine⟨⟨true, ?_⟩,kF ah ai [oB hg2,oB hg2,oB hg2,oC (bf wW (x:=.str qI) ⟨_,rfl⟩),oB hg2,oB hg2,oB hg3,oB hg3,oB hg3,oB hg3,oB hg3,oT,oT,oT,oT,oT] (by kernel_rfl)⟩
    trivial
   ·
    rcases aK ((!(Br (.sl iu)))) with hg4|hg4
    ·
     refine⟨⟨true, ?_⟩,kF ah ai [oB hg2,oB hg2,oB hg2,oC (bf wW (x:=.str qI) ⟨_,rfl⟩),oB hg2,oB hg2,oB hg3,oB hg3,oB hg3,oC (bf Ez (x:=.sl iu) (.bl _ (by first|assumption|omega|(simp;done)|(simp;omega)) bq)),oB hg3,oB hg3,oB hg4,oB hg4,oB hg4,oB hg4,oB hg4] (by kernel_rfl)⟩
     trivial
    ·
     refine⟨⟨(!(Br (.sl jq))), ?_⟩,kF ah ai [oB hg2,oB hg2,oB hg2,oC (bf wW (x:=.str qI) ⟨_,rfl⟩),oB hg2,oB hg2,oB hg3,oB hg3,oB hg3,oC (bf Ez (x:=.sl iu) (.bl _ (by first|assumption|omega|(simp;done)|(simp;omega)) bq)),oB hg3,oB hg3,oB hg4,oB hg4,oB hg4,oC (bf Ez (x:=.sl jq) (.bl _ (by first|assumption|omega|(simp;done)|(simp;omega)) dP)),oB hg4,oB hg4] (by kernel_rfl)⟩
     trivial
theorem K9 (m:Int):∃F:Tree→Tree→Int,∀x y,(T .dK x∧T .bool y)→R2 (cf m) 30 x y (.int .i64 (F x y))∧(True):=by
  refine tO (P:=fun x y=>T .dK x∧T .bool y) (mk:=fun(r:Int)=>.int .i64 r) (Post:=fun x y r=>True) fun x y hx=> ?_
  obtain⟨hx,hy⟩:=hx
  show ∃r:{r:Int // True},ay (cf m) 30 [.t x,.t y] [] (.ret (.t (.int .i64 r.1)) [] [])
  have cv:=hx
  obtain⟨v_1,rfl⟩:=T.zi cv
  have ng:=hy
  obtain⟨v_2,rfl⟩:=T.Tz ng
  obtain⟨ev,ai⟩:∃ev,aF (cf m) ev:=⟨_,aH⟩
  refine AX.start 7 2 Tryz.func30 rfl (by decide) rfl rfl (by decide) ?_
  refine AX.frames ?_
  rcases aK (v_2) with bM|bM
  ·
   refine⟨⟨9, ?_⟩,kF ah ai [oB bM] (by kernel_rfl)⟩
   trivial
  ·
   refine⟨⟨v_1, ?_⟩,kF ah ai [oB bM] (by kernel_rfl)⟩
   trivial
def VI (l:Tree):Tree:=.agg [.int .u8 6,.str [],.sl [],l]
theorem wJ (m:Int)(l:List Tree):R1 (cf m) 39 (.sl l) (VI (.sl l)):=by
 obtain⟨ev,ai⟩:∃ev,aF (cf m) ev:=⟨_,aH⟩
 refine ay.fu ?_
 refine AX.start 5 1 Tryz.func39 rfl (by decide) rfl rfl (by decide) ?_
 refine AX.frames ?_
 exact⟨(),kF ah ai [] (by kernel_rfl)⟩
end
end Go.Proofs.YtijfhoelihclbaaGreatDoor.w.e

namespace Go.Proofs.YtijfhoelihclbaaGreatDoor.w.e
open Go Go.Abs Go.Abs.Ty
set_option linter.unusedVariables false
set_option maxRecDepth 100000
set_option maxHeartbeats 2000000
noncomputable section
def VJ:Tree→List Tree
 |.agg [.sl l,_]=>l
 |_=>[]
theorem Rn (m:Int):∃F:Tree→Tree→Int,∀x y,(T .aZ x∧y=.fn (.func 25))→R2 (cf m) 74 x y (.int .i64 (F x y))∧(True):=by
  refine tO (P:=fun x y=>T .aZ x∧y=.fn (.func 25)) (mk:=fun(r:Int)=>.int .i64 r) (Post:=fun x y r=>True) fun x y hx=> ?_
  obtain⟨hx,hy⟩:=hx
  show ∃r:{r:Int // True},ay (cf m) 74 [.t x,.t y] [] (.ret (.t (.int .i64 r.1)) [] [])
  have cv:=hx
  obtain⟨v_1,rfl,eT,bq⟩:=T.jF cv
  subst hy
  obtain⟨aaw,agL⟩:=VG m
  obtain⟨ev,ai,aax⟩:∃ev,aF (cf m) ev∧Has ev 25 (jP (fun x=>T .aC x) (fun x=>.bool (aaw x))):=⟨_,(ax (bp (fun x h=>(agL x h).1)) aH),az⟩
  refine AX.start 19 2 Tryz.func74 rfl (by decide) rfl rfl (by decide) ?_
  refine AX.frames ?_
  refine eo (f:=0) (n:=3000) (once:=[]) (k:=19) (T:=0) (S:=[]) (ks:=[]) (live:=[0,1,7,8]) ah ai (α:=Nat) (fun x=>⟨bH 19 [(0,.t (.sl v_1)),(1,.t (.fn (.func 25))),(7,.t (.int .i64 ((v_1.length:Nat):Int))),(8,.t (.int .i64 ((x:Nat):Int)))],[],0⟩) (fun x=>(x≤v_1.length)) (fun x=>v_1.length - x) 0 (iA (Tryz.f74.body.getD .skip) 2) [] (by kernel_rfl) (by show(0≤v_1.length);first|trivial|omega|(refine⟨?_, ?_⟩<;>first|omega|exact SM.nil)|simp) (fun x hok=> ?_)
  obtain⟨i_2,mJ⟩:∃y,y=x:=⟨x,rfl⟩
  subst mJ
  replace hok:(i_2≤v_1.length):=hok
  have pH:=hok
  rcases aK (decide (((i_2:Nat):Int)<((v_1.length:Nat):Int))) with bM|bM
  ·
   have lF:=of_decide_eq_true bM
   obtain⟨e4,qU⟩:=lC v_1 i_2 (by first|omega|(simp;omega))
   have k8:=(bq e4 (List.mem_of_getElem? qU))
   obtain⟨nN,iC,kM,rfl,Ep,Er,Es,Et⟩:=T.bg k8
   rcases aK ((aaw (.agg [.str nN,.sl iC,.sl kM]))) with jX|jX
   ·
    refine kO ah ai [oB bM,oE qU,oC (bf aax (x:=.agg [.str nN,.sl iC,.sl kM]) k8),oB jX] (by kernel_rfl) ?_
    refine⟨⟨((i_2:Nat):Int), ?_⟩,kF ah ai [] (by kernel_rfl)⟩
    trivial
   ·
    exact⟨.inl ⟨i_2+1,⟨(by show(i_2+1)≤v_1.length;omega),(by show(v_1.length - (i_2+1))<(v_1.length - i_2);omega)⟩⟩,bB (f:=0) (n:=3000) (once:=[]) (k:=19) (T:=0) (S:=[]) (ks:=[]) (live:=[0,1,7,8]) ah ai [oB bM,oE qU,oC (bf aax (x:=.agg [.str nN,.sl iC,.sl kM]) k8),oB jX,oI (i_2) (by omega)] (by kernel_rfl)⟩
  ·
   have lF:=of_decide_eq_false bM
   refine kO ah ai [oB bM] (by kernel_rfl) ?_
   refine⟨⟨-1, ?_⟩,kF ah ai [] (by kernel_rfl)⟩
   trivial
theorem Ro (m:Int):∃F:Tree→Tree→Bool,∀x y,(T .aZ x∧y=.fn (.func 25))→R2 (cf m) 31 x y (.bool (F x y))∧(True):=by
 refine tO (P:=fun x y=>T .aZ x∧y=.fn (.func 25)) (mk:=fun(r:Bool)=>.bool r) (Post:=fun x y r=>True) fun x y hx=> ?_
 obtain⟨hx,hy⟩:=hx
 show ∃r:{r:Bool // True},ay (cf m) 31 [.t x,.t y] [] (.ret (.t (.bool r.1)) [] [])
 have cv:=hx
 obtain⟨v_1,rfl,eT,bq⟩:=T.jF cv
 subst hy
 obtain⟨VK,acS⟩:=Rn m
 obtain⟨ev,ai,acT⟩:∃ev,aF (cf m) ev∧Has ev 74 (r7 (fun x y=>T .aZ x∧y=.fn (.func 25)) (fun x y=>.int .i64 (VK x y))):=⟨_,(ax (dH (fun x y h=>(acS x y h).1)) aH),az⟩
 refine AX.start 9 2 Tryz.func31 rfl (by decide) rfl rfl (by decide) ?_
 refine AX.frames ?_
 refine⟨⟨decide ((VK (.sl v_1) (.fn (.func 25)))≥0), ?_⟩,kF ah ai [oC (dm acT (x:=.sl v_1) (y:=.fn (.func 25)) ⟨cv,rfl⟩)] (by kernel_rfl)⟩
 trivial
theorem Rp (m:Int):∃F:Tree→Tree→Int,∀x y,(T .bY x∧y=.fn (.func 28))→R2 (cf m) 75 x y (.int .i64 (F x y))∧(True):=by
  refine tO (P:=fun x y=>T .bY x∧y=.fn (.func 28)) (mk:=fun(r:Int)=>.int .i64 r) (Post:=fun x y r=>True) fun x y hx=> ?_
  obtain⟨hx,hy⟩:=hx
  show ∃r:{r:Int // True},ay (cf m) 75 [.t x,.t y] [] (.ret (.t (.int .i64 r.1)) [] [])
  have cv:=hx
  obtain⟨v_1,rfl,eT,bq⟩:=T.mI cv
  subst hy
  obtain⟨aay,agM⟩:=VH m
  obtain⟨ev,ai,aaz⟩:∃ev,aF (cf m) ev∧Has ev 28 (jP (fun x=>T .aY x) (fun x=>.bool (aay x))):=⟨_,(ax (bp (fun x h=>(agM x h).1)) aH),az⟩
  refine AX.start 19 2 Tryz.func75 rfl (by decide) rfl rfl (by decide) ?_
  refine AX.frames ?_
  refine eo (f:=0) (n:=3000) (once:=[]) (k:=19) (T:=0) (S:=[]) (ks:=[]) (live:=[0,1,7,8]) ah ai (α:=Nat) (fun x=>⟨bH 19 [(0,.t (.sl v_1)),(1,.t (.fn (.func 28))),(7,.t (.int .i64 ((v_1.length:Nat):Int))),(8,.t (.int .i64 ((x:Nat):Int)))],[],0⟩) (fun x=>(x≤v_1.length)) (fun x=>v_1.length - x) 0 (iA (Tryz.f75.body.getD .skip) 2) [] (by kernel_rfl) (by show(0≤v_1.length);first|trivial|omega|(refine⟨?_, ?_⟩<;>first|omega|exact SM.nil)|simp) (fun x hok=> ?_)
  obtain⟨i_2,mJ⟩:∃y,y=x:=⟨x,rfl⟩
  subst mJ
  replace hok:(i_2≤v_1.length):=hok
  have pH:=hok
  rcases aK (decide (((i_2:Nat):Int)<((v_1.length:Nat):Int))) with bM|bM
  ·
   have lF:=of_decide_eq_true bM
   obtain⟨e4,qU⟩:=lC v_1 i_2 (by first|omega|(simp;omega))
   have k8:=(bq e4 (List.mem_of_getElem? qU))
   obtain⟨uF,eY,fP,iN,rfl,Ep,Er,Es,Et,Vt,Vu⟩:=T.bP k8
   rcases aK ((aay (.agg [.str uF,.sl eY,.sl fP,.sl iN]))) with jX|jX
   ·
    refine kO ah ai [oB bM,oE qU,oC (bf aaz (x:=.agg [.str uF,.sl eY,.sl fP,.sl iN]) k8),oB jX] (by kernel_rfl) ?_
    refine⟨⟨((i_2:Nat):Int), ?_⟩,kF ah ai [] (by kernel_rfl)⟩
    trivial
   ·
    exact⟨.inl ⟨i_2+1,⟨(by show(i_2+1)≤v_1.length;omega),(by show(v_1.length - (i_2+1))<(v_1.length - i_2);omega)⟩⟩,bB (f:=0) (n:=3000) (once:=[]) (k:=19) (T:=0) (S:=[]) (ks:=[]) (live:=[0,1,7,8]) ah ai [oB bM,oE qU,oC (bf aaz (x:=.agg [.str uF,.sl eY,.sl fP,.sl iN]) k8),oB jX,oI (i_2) (by omega)] (by kernel_rfl)⟩
  ·
   have lF:=of_decide_eq_false bM
   refine kO ah ai [oB bM] (by kernel_rfl) ?_
   refine⟨⟨-1, ?_⟩,kF ah ai [] (by kernel_rfl)⟩
   trivial
theorem Rq (m:Int):∃F:Tree→Tree→Bool,∀x y,(T .bY x∧y=.fn (.func 28))→R2 (cf m) 32 x y (.bool (F x y))∧(True):=by
 refine tO (P:=fun x y=>T .bY x∧y=.fn (.func 28)) (mk:=fun(r:Bool)=>.bool r) (Post:=fun x y r=>True) fun x y hx=> ?_
 obtain⟨hx,hy⟩:=hx
 show ∃r:{r:Bool // True},ay (cf m) 32 [.t x,.t y] [] (.ret (.t (.bool r.1)) [] [])
 have cv:=hx
 obtain⟨v_1,rfl,eT,bq⟩:=T.mI cv
 subst hy
 obtain⟨VN,acU⟩:=Rp m
 obtain⟨ev,ai,acV⟩:∃ev,aF (cf m) ev∧Has ev 75 (r7 (fun x y=>T .bY x∧y=.fn (.func 28)) (fun x y=>.int .i64 (VN x y))):=⟨_,(ax (dH (fun x y h=>(acU x y h).1)) aH),az⟩
 refine AX.start 9 2 Tryz.func32 rfl (by decide) rfl rfl (by decide) ?_
 refine AX.frames ?_
 refine⟨⟨decide ((VN (.sl v_1) (.fn (.func 28)))≥0), ?_⟩,kF ah ai [oC (dm acV (x:=.sl v_1) (y:=.fn (.func 28)) ⟨cv,rfl⟩)] (by kernel_rfl)⟩
 trivial
theorem VO (m:Int):∃F:Tree→Int,∀x,(T .aC x)→R1 (cf m) 38 x (.int .i64 (F x))∧((F x)=0→xG (aG 6 [] [] (LU x))):=by
 refine wT (P:=fun x=>T .aC x) (mk:=fun(r:Int)=>.int .i64 r) (Post:=fun x r=>r=0→xG (aG 6 [] [] (LU x))) fun x hx=> ?_
 show ∃r:{r:Int // r=0→xG (aG 6 [] [] (LU x))},ay (cf m) 38 [.t x] [] (.ret (.t (.int .i64 r.1)) [] [])
 have cv:=hx
 obtain⟨nM,kL,jH,rfl,eT,bq,jQ,dP⟩:=T.bg cv
 obtain⟨VP,VQ⟩:=CF m
 obtain⟨ev,ai,B0,Np⟩:∃ev,aF (cf m) ev∧Has ev 39 (jP (fun x=>∃l,x=.sl l) VI)∧Has ev 13 (jP (fun x=>T .aD x) (fun x=>.int .i64 (VP x))):=⟨_,(ax (bp fun x ⟨l,e⟩=>by subst e;exact wJ m l) (ax (bp (fun x h=>(VQ x h).1)) aH)),az,(aj rfl az)⟩
 refine AX.start 7 1 Tryz.func38 rfl (by decide) rfl rfl (by decide) ?_
 refine AX.frames ?_
 have hp2:=(VQ (.agg [.int .u8 6,.str [],.sl ([]:List Tree),.sl jH]) (.aD _ _ _ _ (by first|assumption|omega|(simp;done)|(simp;omega)) (by simp) (by first|assumption|omega|(simp;done)|(simp;omega)) dP)).2
 refine⟨⟨(VP (.agg [.int .u8 6,.str [],.sl ([]:List Tree),.sl jH])), ?_⟩,kF ah ai [oC (bf B0 (x:=.sl jH) ⟨_,rfl⟩),oC (bf Np (x:=.agg [.int .u8 6,.str [],.sl ([]:List Tree),.sl jH]) (.aD _ _ _ _ (by first|assumption|omega|(simp;done)|(simp;omega)) (by simp) (by first|assumption|omega|(simp;done)|(simp;omega)) dP))] (by kernel_rfl)⟩
 exact hp2
theorem VU (m:Int):∃F:Tree→Int,∀x,(T .aY x)→R1 (cf m) 41 x (.int .i64 (F x))∧(True):=by
 refine wT (P:=fun x=>T .aY x) (mk:=fun(r:Int)=>.int .i64 r) (Post:=fun x r=>True) fun x hx=> ?_
 show ∃r:{r:Int // True},ay (cf m) 41 [.t x] [] (.ret (.t (.int .i64 r.1)) [] [])
 have cv:=hx
 obtain⟨qI,iu,jq,gq,rfl,eT,bq,jQ,dP,Nj,ya⟩:=T.bP cv
 obtain⟨VP,VQ⟩:=CF m
 obtain⟨ev,ai,B0,Np⟩:∃ev,aF (cf m) ev∧Has ev 39 (jP (fun x=>∃l,x=.sl l) VI)∧Has ev 13 (jP (fun x=>T .aD x) (fun x=>.int .i64 (VP x))):=⟨_,(ax (bp fun x ⟨l,e⟩=>by subst e;exact wJ m l) (ax (bp (fun x h=>(VQ x h).1)) aH)),az,(aj rfl az)⟩
 refine AX.start 7 1 Tryz.func41 rfl (by decide) rfl rfl (by decide) ?_
 refine AX.frames ?_
 have hp2:=(VQ (.agg [.int .u8 6,.str [],.sl ([]:List Tree),.sl gq]) (.aD _ _ _ _ (by first|assumption|omega|(simp;done)|(simp;omega)) (by simp) (by first|assumption|omega|(simp;done)|(simp;omega)) ya)).2
 refine⟨⟨(VP (.agg [.int .u8 6,.str [],.sl ([]:List Tree),.sl gq])), ?_⟩,kF ah ai [oC (bf B0 (x:=.sl gq) ⟨_,rfl⟩),oC (bf Np (x:=.agg [.int .u8 6,.str [],.sl ([]:List Tree),.sl gq]) (.aD _ _ _ _ (by first|assumption|omega|(simp;done)|(simp;omega)) (by simp) (by first|assumption|omega|(simp;done)|(simp;omega)) ya))] (by kernel_rfl)⟩
 trivial
theorem VV (m:Int):∃F:Tree→Tree→Int,∀x y,(T .aZ x∧y=.fn (.func 38))→R2 (cf m) 37 x y (.int .i64 (F x y))∧((F x y)=0→∀t∈lG x,xG (aG 6 [] [] (LU t))):=by
  refine tO (P:=fun x y=>T .aZ x∧y=.fn (.func 38)) (mk:=fun(r:Int)=>.int .i64 r) (Post:=fun x y r=>r=0→∀t∈lG x,xG (aG 6 [] [] (LU t))) fun x y hx=> ?_
  obtain⟨hx,hy⟩:=hx
  show ∃r:{r:Int // r=0→∀t∈lG x,xG (aG 6 [] [] (LU t))},ay (cf m) 37 [.t x,.t y] [] (.ret (.t (.int .i64 r.1)) [] [])
  have cv:=hx
  obtain⟨v_1,rfl,eT,bq⟩:=T.jF cv
  subst hy
  obtain⟨VW,aaA⟩:=VO m
  obtain⟨ev,ai,aaB⟩:∃ev,aF (cf m) ev∧Has ev 38 (jP (fun x=>T .aC x) (fun x=>.int .i64 (VW x))):=⟨_,(ax (bp (fun x h=>(aaA x h).1)) aH),az⟩
  refine AX.start 21 2 Tryz.func37 rfl (by decide) rfl rfl (by decide) ?_
  refine AX.frames ?_
  refine eo (f:=0) (n:=3000) (once:=[]) (k:=21) (T:=0) (S:=[]) (ks:=[]) (live:=[1,8,9,10]) ah ai (α:=Nat) (fun x=>⟨bH 21 [(1,.t (.fn (.func 38))),(8,.t (.sl v_1)),(9,.t (.int .i64 ((v_1.length:Nat):Int))),(10,.t (.int .i64 ((x:Nat):Int)))],[],0⟩) (fun x=>(x≤v_1.length)∧(∀j,j<x→∀y,v_1[j]?=some y→xG (aG 6 [] [] (LU y)))) (fun x=>v_1.length - x) 0 (iA (Tryz.f37.body.getD .skip) 2) [] (by kernel_rfl) ⟨Nat.zero_le _,fun j hj=>absurd hj (Nat.not_lt_zero j)⟩ (fun x hok=> ?_)
  obtain⟨i_2,mJ⟩:∃y,y=x:=⟨x,rfl⟩
  subst mJ
  replace hok:(i_2≤v_1.length)∧(∀j,j<i_2→∀y,v_1[j]?=some y→xG (aG 6 [] [] (LU y))):=hok
  obtain⟨pH,iW⟩:=hok
  rcases aK (decide (((i_2:Nat):Int)<((v_1.length:Nat):Int))) with bM|bM
  ·
   have lF:=of_decide_eq_true bM
   obtain⟨e4,qU⟩:=lC v_1 i_2 (by first|omega|(simp;omega))
   have k8:=(bq e4 (List.mem_of_getElem? qU))
   obtain⟨nN,iC,kM,rfl,Ep,Er,Es,Et⟩:=T.bg k8
   have hp6:=(aaA (.agg [.str nN,.sl iC,.sl kM]) k8).2
   rcases aK (((VW (.agg [.str nN,.sl iC,.sl kM])) != 0)) with uE|uE
   ·
    have M4:=aA uE
    refine kO ah ai [oB bM,oE qU,oC (bf aaB (x:=.agg [.str nN,.sl iC,.sl kM]) k8),oB uE] (by kernel_rfl) ?_
    refine⟨⟨(VW (.agg [.str nN,.sl iC,.sl kM])), ?_⟩,kF ah ai [] (by kernel_rfl)⟩
    exact fun h=>absurd h (aA uE)
   ·
    have M4:=aq uE
    exact⟨.inl ⟨i_2+1,⟨⟨(by show(i_2+1)≤v_1.length;omega),(jM (G:=fun y=>xG (aG 6 [] [] (LU y))) qU (hp6 (aq uE)) iW)⟩,(by show(v_1.length - (i_2+1))<(v_1.length - i_2);omega)⟩⟩,bB (f:=0) (n:=3000) (once:=[]) (k:=21) (T:=0) (S:=[]) (ks:=[]) (live:=[1,8,9,10]) ah ai [oB bM,oE qU,oC (bf aaB (x:=.agg [.str nN,.sl iC,.sl kM]) k8),oB uE,oI (i_2) (by omega)] (by kernel_rfl)⟩
  ·
   have lF:=of_decide_eq_false bM
   refine kO ah ai [oB bM] (by kernel_rfl) ?_
   refine⟨⟨0, ?_⟩,kF ah ai [] (by kernel_rfl)⟩
   exact fun _ y hy=>k7 (G:=fun y=>xG (aG 6 [] [] (LU y))) (l:=v_1) (fun j hj=>iW j (by omega)) y hy
theorem VX (m:Int):∃F:Tree→Tree→Int,∀x y,(T .bY x∧y=.fn (.func 41))→R2 (cf m) 40 x y (.int .i64 (F x y))∧(True):=by
  refine tO (P:=fun x y=>T .bY x∧y=.fn (.func 41)) (mk:=fun(r:Int)=>.int .i64 r) (Post:=fun x y r=>True) fun x y hx=> ?_
  obtain⟨hx,hy⟩:=hx
  show ∃r:{r:Int // True},ay (cf m) 40 [.t x,.t y] [] (.ret (.t (.int .i64 r.1)) [] [])
  have cv:=hx
  obtain⟨v_1,rfl,eT,bq⟩:=T.mI cv
  subst hy
  obtain⟨VY,agN⟩:=VU m
  obtain⟨ev,ai,aaC⟩:∃ev,aF (cf m) ev∧Has ev 41 (jP (fun x=>T .aY x) (fun x=>.int .i64 (VY x))):=⟨_,(ax (bp (fun x h=>(agN x h).1)) aH),az⟩
  refine AX.start 21 2 Tryz.func40 rfl (by decide) rfl rfl (by decide) ?_
  refine AX.frames ?_
  refine eo (f:=0) (n:=3000) (once:=[]) (k:=21) (T:=0) (S:=[]) (ks:=[]) (live:=[1,8,9,10]) ah ai (α:=Nat) (fun x=>⟨bH 21 [(1,.t (.fn (.func 41))),(8,.t (.sl v_1)),(9,.t (.int .i64 ((v_1.length:Nat):Int))),(10,.t (.int .i64 ((x:Nat):Int)))],[],0⟩) (fun x=>(x≤v_1.length)) (fun x=>v_1.length - x) 0 (iA (Tryz.f40.body.getD .skip) 2) [] (by kernel_rfl) (by show(0≤v_1.length);first|trivial|omega|(refine⟨?_, ?_⟩<;>first|omega|exact SM.nil)|simp) (fun x hok=> ?_)
  obtain⟨i_2,mJ⟩:∃y,y=x:=⟨x,rfl⟩
  subst mJ
  replace hok:(i_2≤v_1.length):=hok
  have pH:=hok
  rcases aK (decide (((i_2:Nat):Int)<((v_1.length:Nat):Int))) with bM|bM
  ·
   have lF:=of_decide_eq_true bM
   obtain⟨e4,qU⟩:=lC v_1 i_2 (by first|omega|(simp;omega))
   have k8:=(bq e4 (List.mem_of_getElem? qU))
   obtain⟨uF,eY,fP,iN,rfl,Ep,Er,Es,Et,Vt,Vu⟩:=T.bP k8
   rcases aK (((VY (.agg [.str uF,.sl eY,.sl fP,.sl iN])) != 0)) with jX|jX
   ·
    have vM:=aA jX
    refine kO ah ai [oB bM,oE qU,oC (bf aaC (x:=.agg [.str uF,.sl eY,.sl fP,.sl iN]) k8),oB jX] (by kernel_rfl) ?_
    refine⟨⟨(VY (.agg [.str uF,.sl eY,.sl fP,.sl iN])), ?_⟩,kF ah ai [] (by kernel_rfl)⟩
    trivial
   ·
    have vM:=aq jX
    exact⟨.inl ⟨i_2+1,⟨(by show(i_2+1)≤v_1.length;omega),(by show(v_1.length - (i_2+1))<(v_1.length - i_2);omega)⟩⟩,bB (f:=0) (n:=3000) (once:=[]) (k:=21) (T:=0) (S:=[]) (ks:=[]) (live:=[1,8,9,10]) ah ai [oB bM,oE qU,oC (bf aaC (x:=.agg [.str uF,.sl eY,.sl fP,.sl iN]) k8),oB jX,oI (i_2) (by omega)] (by kernel_rfl)⟩
  ·
   have lF:=of_decide_eq_false bM
   refine kO ah ai [oB bM] (by kernel_rfl) ?_
   refine⟨⟨0, ?_⟩,kF ah ai [] (by kernel_rfl)⟩
   trivial
theorem acW (m:Int)(ts ac:List Tree)(lt:ts.length≤4194304)(ht:∀y∈ts,T .aC y)(la:ac.length≤4194304)(ha:∀y∈ac,T .aY y)(e:Tree)(he:T .aC e):∃r:Int,ay (cf m) 42 (.t e::[.ptr (.arg 0) 0,.ptr (.arg 1) 0]) [.cells 84 [.t (.fn (.func 30))],.cells 79 [.t (.sl ts),.t (.sl ac)]] (.ret (.t (.int .i64 r)) [.cells 84 [.t (.fn (.func 30))],.cells 79 [.t (.sl ts),.t (.sl ac)]] []):=by
 have cv:=he
 obtain⟨nM,kL,jH,rfl,eT,bq,jQ,dP⟩:=T.bg cv
 obtain⟨mQ,EA⟩:=BZ m
 obtain⟨lW,Bt⟩:=Ac m
 obtain⟨Gz,VZ⟩:=K9 m
 obtain⟨ev,ai,B0,Af,sU,Pm⟩:∃ev,aF (cf m) ev∧Has ev 39 (jP (fun x=>∃l,x=.sl l) VI)∧Has ev 43 (r7 (fun x y=>T .bO x∧T .aD y) (fun x y=>.int .i64 (mQ x y)))∧Has ev 44 (r7 (fun x y=>T .bO x∧T .bl y) (fun x y=>.bool (lW x y)))∧Has ev 30 (r7 (fun x y=>T .dK x∧T .bool y) (fun x y=>.int .i64 (Gz x y))):=⟨_,(ax (bp fun x ⟨l,e⟩=>by subst e;exact wJ m l) (ax (dH (fun x y h=>(EA x y h))) (ax (dH (fun x y h=>(Bt x y h).1)) (ax (dH (fun x y h=>(VZ x y h).1)) aH)))),az,(aj rfl az),(aj rfl (aj rfl az)),(aj rfl (aj rfl (aj rfl az)))⟩
 refine AX.start 16 3 Tryz.func42 rfl (by decide) rfl rfl (by decide) ?_
 refine AX.frames ?_
 exact⟨(Gz (.int .i64 (mQ (.agg [.sl ts,.sl ac]) (.agg [.int .u8 6,.str [],.sl ([]:List Tree),.sl jH]))) (.bool (lW (.agg [.sl ts,.sl ac]) (.sl kL)))),kF ah ai [oC (bf B0 (x:=.sl jH) ⟨_,rfl⟩),oC (dm Af (x:=.agg [.sl ts,.sl ac]) (y:=.agg [.int .u8 6,.str [],.sl ([]:List Tree),.sl jH]) ⟨(.bO _ _ (by first|assumption|omega|(simp;done)|(simp;omega)) ht (by first|assumption|omega|(simp;done)|(simp;omega)) ha),(.aD _ _ _ _ (by first|assumption|omega|(simp;done)|(simp;omega)) (by simp) (by first|assumption|omega|(simp;done)|(simp;omega)) dP)⟩),oC (dm sU (x:=.agg [.sl ts,.sl ac]) (y:=.sl kL) ⟨(.bO _ _ (by first|assumption|omega|(simp;done)|(simp;omega)) ht (by first|assumption|omega|(simp;done)|(simp;omega)) ha),(.bl _ (by first|assumption|omega|(simp;done)|(simp;omega)) bq)⟩),oC (dm Pm (x:=.int .i64 (mQ (.agg [.sl ts,.sl ac]) (.agg [.int .u8 6,.str [],.sl ([]:List Tree),.sl jH]))) (y:=.bool (lW (.agg [.sl ts,.sl ac]) (.sl kL))) ⟨(.dK _),(.bool _)⟩)] (by kernel_rfl)⟩
theorem acX (m:Int)(ts ac:List Tree)(lt:ts.length≤4194304)(ht:∀y∈ts,T .aC y)(la:ac.length≤4194304)(ha:∀y∈ac,T .aY y):∃q:Tree→Int,∀e,T .aC e→RK (cf m) 42 [.ptr (.arg 0) 0,.ptr (.arg 1) 0] [.cells 84 [.t (.fn (.func 30))],.cells 79 [.t (.sl ts),.t (.sl ac)]] e (.int .i64 (q e)):=eF (P:=T .aC) (Q:=fun e r=>RK (cf m) 42 [.ptr (.arg 0) 0,.ptr (.arg 1) 0] [.cells 84 [.t (.fn (.func 30))],.cells 79 [.t (.sl ts),.t (.sl ac)]] e (.int .i64 r)) fun e he=>acW m ts ac lt ht la ha e he
theorem acY (m:Int)(ts ac:List Tree)(lt:ts.length≤4194304)(ht:∀y∈ts,T .aC y)(la:ac.length≤4194304)(ha:∀y∈ac,T .aY y)(e:Tree)(he:T .aY e):∃r:Int,ay (cf m) 45 (.t e::[.ptr (.arg 0) 0,.ptr (.arg 1) 0]) [.cells 84 [.t (.fn (.func 30))],.cells 79 [.t (.sl ts),.t (.sl ac)]] (.ret (.t (.int .i64 r)) [.cells 84 [.t (.fn (.func 30))],.cells 79 [.t (.sl ts),.t (.sl ac)]] []):=by
  have cv:=he
  obtain⟨qI,iu,jq,gq,rfl,eT,bq,jQ,dP,Nj,ya⟩:=T.bP cv
  obtain⟨mQ,EA⟩:=BZ m
  obtain⟨lW,Bt⟩:=Ac m
  obtain⟨Gz,VZ⟩:=K9 m
  obtain⟨ev,ai,B0,Af,sU,Pm⟩:∃ev,aF (cf m) ev∧Has ev 39 (jP (fun x=>∃l,x=.sl l) VI)∧Has ev 43 (r7 (fun x y=>T .bO x∧T .aD y) (fun x y=>.int .i64 (mQ x y)))∧Has ev 44 (r7 (fun x y=>T .bO x∧T .bl y) (fun x y=>.bool (lW x y)))∧Has ev 30 (r7 (fun x y=>T .dK x∧T .bool y) (fun x y=>.int .i64 (Gz x y))):=⟨_,(ax (bp fun x ⟨l,e⟩=>by subst e;exact wJ m l) (ax (dH (fun x y h=>(EA x y h))) (ax (dH (fun x y h=>(Bt x y h).1)) (ax (dH (fun x y h=>(VZ x y h).1)) aH)))),az,(aj rfl az),(aj rfl (aj rfl az)),(aj rfl (aj rfl (aj rfl az)))⟩
  refine AX.start 22 3 Tryz.func45 rfl (by decide) rfl rfl (by decide) ?_
  refine AX.frames ?_
  rcases aK ((lW (.agg [.sl ts,.sl ac]) (.sl iu))) with hg2|hg2
  ·
   exact⟨(Gz (.int .i64 (mQ (.agg [.sl ts,.sl ac]) (.agg [.int .u8 6,.str [],.sl ([]:List Tree),.sl gq]))) (.bool true)),kF ah ai [oC (bf B0 (x:=.sl gq) ⟨_,rfl⟩),oC (dm Af (x:=.agg [.sl ts,.sl ac]) (y:=.agg [.int .u8 6,.str [],.sl ([]:List Tree),.sl gq]) ⟨(.bO _ _ (by first|assumption|omega|(simp;done)|(simp;omega)) ht (by first|assumption|omega|(simp;done)|(simp;omega)) ha),(.aD _ _ _ _ (by first|assumption|omega|(simp;done)|(simp;omega)) (by simp) (by first|assumption|omega|(simp;done)|(simp;omega)) ya)⟩),oC (dm sU (x:=.agg [.sl ts,.sl ac]) (y:=.sl iu) ⟨(.bO _ _ (by first|assumption|omega|(simp;done)|(simp;omega)) ht (by first|assumption|omega|(simp;done)|(simp;omega)) ha),(.bl _ (by first|assumption|omega|(simp;done)|(simp;omega)) bq)⟩),oB hg2,oB hg2,oB hg2,oB hg2,oB hg2,oC (dm Pm (x:=.int .i64 (mQ (.agg [.sl ts,.sl ac]) (.agg [.int .u8 6,.str [],.sl ([]:List Tree),.sl gq]))) (y:=.bool true) ⟨(.dK _),(.bool _)⟩)] (by kernel_rfl)⟩
  ·
   exact⟨(Gz (.int .i64 (mQ (.agg [.sl ts,.sl ac]) (.agg [.int .u8 6,.str [],.sl ([]:List Tree),.sl gq]))) (.bool (lW (.agg [.sl ts,.sl ac]) (.sl jq)))),kF ah ai [oC (bf B0 (x:=.sl gq) ⟨_,rfl⟩),oC (dm Af (x:=.agg [.sl ts,.sl ac]) (y:=.agg [.int .u8 6,.str [],.sl ([]:List Tree),.sl gq]) ⟨(.bO _ _ (by first|assumption|omega|(simp;done)|(simp;omega)) ht (by first|assumption|omega|(simp;done)|(simp;omega)) ha),(.aD _ _ _ _ (by first|assumption|omega|(simp;done)|(simp;omega)) (by simp) (by first|assumption|omega|(simp;done)|(simp;omega)) ya)⟩),oC (dm sU (x:=.agg [.sl ts,.sl ac]) (y:=.sl iu) ⟨(.bO _ _ (by first|assumption|omega|(simp;done)|(simp;omega)) ht (by first|assumption|omega|(simp;done)|(simp;omega)) ha),(.bl _ (by first|assumption|omega|(simp;done)|(simp;omega)) bq)⟩),oB hg2,oB hg2,oB hg2,oB hg2,oC (dm sU (x:=.agg [.sl ts,.sl ac]) (y:=.sl jq) ⟨(.bO _ _ (by first|assumption|omega|(simp;done)|(simp;omega)) ht (by first|assumption|omega|(simp;done)|(simp;omega)) ha),(.bl _ (by first|assumption|omega|(simp;done)|(simp;omega)) dP)⟩),oB hg2,oC (dm Pm (x:=.int .i64 (mQ (.agg [.sl ts,.sl ac]) (.agg [.int .u8 6,.str [],.sl ([]:List Tree),.sl gq]))) (y:=.bool (lW (.agg [.sl ts,.sl ac]) (.sl jq))) ⟨(.dK _),(.bool _)⟩)] (by kernel_rfl)⟩
theorem acZ (m:Int)(ts ac:List Tree)(lt:ts.length≤4194304)(ht:∀y∈ts,T .aC y)(la:ac.length≤4194304)(ha:∀y∈ac,T .aY y):∃q:Tree→Int,∀e,T .aY e→RK (cf m) 45 [.ptr (.arg 0) 0,.ptr (.arg 1) 0] [.cells 84 [.t (.fn (.func 30))],.cells 79 [.t (.sl ts),.t (.sl ac)]] e (.int .i64 (q e)):=eF (P:=T .aY) (Q:=fun e r=>RK (cf m) 45 [.ptr (.arg 0) 0,.ptr (.arg 1) 0] [.cells 84 [.t (.fn (.func 30))],.cells 79 [.t (.sl ts),.t (.sl ac)]] e (.int .i64 r)) fun e he=>acY m ts ac lt ht la ha e he
theorem ac1 (m:Int)(ts ac:List Tree)(lt:ts.length≤4194304)(ht:∀y∈ts,T .aC y)(la:ac.length≤4194304)(ha:∀y∈ac,T .aY y)(q:Tree→Int)(hq:∀e,T .aC e→RK (cf m) 42 [.ptr (.arg 0) 0,.ptr (.arg 1) 0] [.cells 84 [.t (.fn (.func 30))],.cells 79 [.t (.sl ts),.t (.sl ac)]] e (.int .i64 (q e)))(l:List Tree)(hl:l.length≤4194304)(hl2:∀y∈l,T .aC y):∃r:Int,ay (cf m) 37 (.t (.sl l)::[.fn (.func 42) [] [.ptr (.arg 0) 0,.ptr (.arg 1) 0]]) [.cells 84 [.t (.fn (.func 30))],.cells 79 [.t (.sl ts),.t (.sl ac)]] (.ret (.t (.int .i64 r)) [.cells 84 [.t (.fn (.func 30))],.cells 79 [.t (.sl ts),.t (.sl ac)]] []):=by
  obtain⟨ev,ai,e_q⟩:∃ev,aF (cf m) ev∧Has ev 42 (pk [.ptr (.arg 0) 0,.ptr (.arg 1) 0] [.cells 84 [.t (.fn (.func 30))],.cells 79 [.t (.sl ts),.t (.sl ac)]] (T .aC) fun x=>.int .i64 (q x)):=⟨_,(ax (F7 hq) aH),az⟩
  refine AX.start 21 2 Tryz.func37 rfl (by decide) rfl rfl (by decide) ?_
  refine AX.frames ?_
  refine eo (f:=0) (n:=3000) (once:=[]) (k:=21) (T:=0) (S:=[]) (ks:=[.arg 0,.arg 1]) (live:=[1,8,9,10]) ah ai (α:=Nat) (fun x=>⟨bH 21 [(1,.fn (.func 42) [] [.ptr (.arg 0) 0,.ptr (.arg 1) 0]),(8,.t (.sl l)),(9,.t (.int .i64 ((l.length:Nat):Int))),(10,.t (.int .i64 ((x:Nat):Int)))],[(.arg 0,.cells 84 [.t (.fn (.func 30))]),(.arg 1,.cells 79 [.t (.sl ts),.t (.sl ac)])],0⟩) (fun x=>(x≤l.length)) (fun x=>l.length - x) 0 (iA (Tryz.f37.body.getD .skip) 2) [] (by kernel_rfl) (by show(0≤l.length);first|trivial|omega|(refine⟨?_, ?_⟩<;>first|omega|exact SM.nil)|simp) (fun x hok=> ?_)
  obtain⟨i_1,mJ⟩:∃y,y=x:=⟨x,rfl⟩
  subst mJ
  replace hok:(i_1≤l.length):=hok
  have iX:=hok
  rcases aK (decide (((i_1:Nat):Int)<((l.length:Nat):Int))) with bD|bD
  ·
   have gM:=of_decide_eq_true bD
   obtain⟨e3,gY⟩:=lC l i_1 (by first|omega|(simp;omega))
   have iI:=(hl2 e3 (List.mem_of_getElem? gY))
   obtain⟨cq,cI,cE,rfl,mO,kU,mP,jR⟩:=T.bg iI
   rcases aK (((q (.agg [.str cq,.sl cI,.sl cE])) != 0)) with kC|kC
   ·
    have vJ:=aA kC
    refine kO ah ai [oB bD,oE gY,oC (A9 e_q (x:=.agg [.str cq,.sl cI,.sl cE]) iI),oB kC] (by kernel_rfl) ?_
    exact⟨(q (.agg [.str cq,.sl cI,.sl cE])),kF ah ai [] (by kernel_rfl)⟩
   ·
    have vJ:=aq kC
    exact⟨.inl ⟨i_1+1,⟨(by show(i_1+1)≤l.length;omega),(by show(l.length - (i_1+1))<(l.length - i_1);omega)⟩⟩,bB (f:=0) (n:=3000) (once:=[]) (k:=21) (T:=0) (S:=[]) (ks:=[.arg 0,.arg 1]) (live:=[1,8,9,10]) ah ai [oB bD,oE gY,oC (A9 e_q (x:=.agg [.str cq,.sl cI,.sl cE]) iI),oB kC,oI (i_1) (by omega)] (by kernel_rfl)⟩
  ·
   have gM:=of_decide_eq_false bD
   refine kO ah ai [oB bD] (by kernel_rfl) ?_
   exact⟨0,kF ah ai [] (by kernel_rfl)⟩
theorem ac2 (m:Int)(ts ac:List Tree)(lt:ts.length≤4194304)(ht:∀y∈ts,T .aC y)(la:ac.length≤4194304)(ha:∀y∈ac,T .aY y)(q:Tree→Int)(hq:∀e,T .aY e→RK (cf m) 45 [.ptr (.arg 0) 0,.ptr (.arg 1) 0] [.cells 84 [.t (.fn (.func 30))],.cells 79 [.t (.sl ts),.t (.sl ac)]] e (.int .i64 (q e)))(l:List Tree)(hl:l.length≤4194304)(hl2:∀y∈l,T .aY y):∃r:Int,ay (cf m) 40 (.t (.sl l)::[.fn (.func 45) [] [.ptr (.arg 0) 0,.ptr (.arg 1) 0]]) [.cells 84 [.t (.fn (.func 30))],.cells 79 [.t (.sl ts),.t (.sl ac)]] (.ret (.t (.int .i64 r)) [.cells 84 [.t (.fn (.func 30))],.cells 79 [.t (.sl ts),.t (.sl ac)]] []):=by
  obtain⟨ev,ai,e_q⟩:∃ev,aF (cf m) ev∧Has ev 45 (pk [.ptr (.arg 0) 0,.ptr (.arg 1) 0] [.cells 84 [.t (.fn (.func 30))],.cells 79 [.t (.sl ts),.t (.sl ac)]] (T .aY) fun x=>.int .i64 (q x)):=⟨_,(ax (F7 hq) aH),az⟩
  refine AX.start 21 2 Tryz.func40 rfl (by decide) rfl rfl (by decide) ?_
  refine AX.frames ?_
  refine eo (f:=0) (n:=3000) (once:=[]) (k:=21) (T:=0) (S:=[]) (ks:=[.arg 0,.arg 1]) (live:=[1,8,9,10]) ah ai (α:=Nat) (fun x=>⟨bH 21 [(1,.fn (.func 45) [] [.ptr (.arg 0) 0,.ptr (.arg 1) 0]),(8,.t (.sl l)),(9,.t (.int .i64 ((l.length:Nat):Int))),(10,.t (.int .i64 ((x:Nat):Int)))],[(.arg 0,.cells 84 [.t (.fn (.func 30))]),(.arg 1,.cells 79 [.t (.sl ts),.t (.sl ac)])],0⟩) (fun x=>(x≤l.length)) (fun x=>l.length - x) 0 (iA (Tryz.f40.body.getD .skip) 2) [] (by kernel_rfl) (by show(0≤l.length);first|trivial|omega|(refine⟨?_, ?_⟩<;>first|omega|exact SM.nil)|simp) (fun x hok=> ?_)
  obtain⟨i_1,mJ⟩:∃y,y=x:=⟨x,rfl⟩
  subst mJ
  replace hok:(i_1≤l.length):=hok
  have iX:=hok
  rcases aK (decide (((i_1:Nat):Int)<((l.length:Nat):Int))) with bD|bD
  ·
   have gM:=of_decide_eq_true bD
   obtain⟨e3,gY⟩:=lC l i_1 (by first|omega|(simp;omega))
   have iI:=(hl2 e3 (List.mem_of_getElem? gY))
   obtain⟨EB,jI,ku,nO,rfl,mO,kU,mP,jR,ac3,V0⟩:=T.bP iI
   rcases aK (((q (.agg [.str EB,.sl jI,.sl ku,.sl nO])) != 0)) with kC|kC
   ·
    have vJ:=aA kC
    refine kO ah ai [oB bD,oE gY,oC (A9 e_q (x:=.agg [.str EB,.sl jI,.sl ku,.sl nO]) iI),oB kC] (by kernel_rfl) ?_
    exact⟨(q (.agg [.str EB,.sl jI,.sl ku,.sl nO])),kF ah ai [] (by kernel_rfl)⟩
   ·
    have vJ:=aq kC
    exact⟨.inl ⟨i_1+1,⟨(by show(i_1+1)≤l.length;omega),(by show(l.length - (i_1+1))<(l.length - i_1);omega)⟩⟩,bB (f:=0) (n:=3000) (once:=[]) (k:=21) (T:=0) (S:=[]) (ks:=[.arg 0,.arg 1]) (live:=[1,8,9,10]) ah ai [oB bD,oE gY,oC (A9 e_q (x:=.agg [.str EB,.sl jI,.sl ku,.sl nO]) iI),oB kC,oI (i_1) (by omega)] (by kernel_rfl)⟩
  ·
   have gM:=of_decide_eq_false bD
   refine kO ah ai [oB bD] (by kernel_rfl) ?_
   exact⟨0,kF ah ai [] (by kernel_rfl)⟩
theorem vS (m:Int):∃F:Tree→Int,∀x,(T .dA x)→R1 (cf m) 16 x (.int .i64 (F x))∧(((F x)=0→∀y∈lG x,y=.int .i64 0)∧((∀y∈lG x,y=.int .i64 0)→(F x)=0)):=by
  refine wT (P:=fun x=>T .dA x) (mk:=fun(r:Int)=>.int .i64 r) (Post:=fun x r=>(r=0→∀y∈lG x,y=.int .i64 0)∧((∀y∈lG x,y=.int .i64 0)→r=0)) fun x hx=> ?_
  show ∃r:{r:Int //(r=0→∀y∈lG x,y=.int .i64 0)∧((∀y∈lG x,y=.int .i64 0)→r=0)},ay (cf m) 16 [.t x] [] (.ret (.t (.int .i64 r.1)) [] [])
  have cv:=hx
  obtain⟨v_1,rfl,eT,bq⟩:=T.Fa cv
  obtain⟨ev,ai⟩:∃ev,aF (cf m) ev:=⟨_,aH⟩
  refine AX.start 18 1 Tryz.func16 rfl (by decide) rfl rfl (by decide) ?_
  refine AX.frames ?_
  refine eo (f:=0) (n:=3000) (once:=[]) (k:=18) (T:=0) (S:=[]) (ks:=[]) (live:=[3,6,7,8]) ah ai (α:=Nat) (fun x=>⟨bH 18 [(3,.t (.int .i64 0)),(6,.t (.sl v_1)),(7,.t (.int .i64 ((v_1.length:Nat):Int))),(8,.t (.int .i64 ((x:Nat):Int)))],[],0⟩) (fun x=>(x≤v_1.length)∧(∀j,j<x→∀y,v_1[j]?=some y→y=.int .i64 0)) (fun x=>v_1.length - x) 0 (iA (Tryz.f16.body.getD .skip) 3) [] (by kernel_rfl) ⟨Nat.zero_le _,fun j hj=>absurd hj (Nat.not_lt_zero j)⟩ (fun x hok=> ?_)
  obtain⟨i_2,mJ⟩:∃y,y=x:=⟨x,rfl⟩
  subst mJ
  replace hok:(i_2≤v_1.length)∧(∀j,j<i_2→∀y,v_1[j]?=some y→y=.int .i64 0):=hok
  obtain⟨pH,iW⟩:=hok
  rcases aK (decide (((i_2:Nat):Int)<((v_1.length:Nat):Int))) with bM|bM
  ·
   have lF:=of_decide_eq_true bM
   obtain⟨e4,qU⟩:=lC v_1 i_2 (by first|omega|(simp;omega))
   have k8:=(bq e4 (List.mem_of_getElem? qU))
   obtain⟨Xw,rfl⟩:=T.zi k8
   rcases aK ((Xw != 0)) with jX|jX
   ·
    have vM:=aA jX
    refine kO ah ai [oB bM,oE qU,oB jX] (by kernel_rfl) ?_
    refine⟨⟨Xw, ?_⟩,kF ah ai [] (by kernel_rfl)⟩
    exact⟨fun h=>absurd h (aA jX),fun h=>absurd (Tree.int.inj (h _ (List.mem_of_getElem? qU))).2 (aA jX)⟩
   ·
    have vM:=aq jX
    exact⟨.inl ⟨i_2+1,⟨⟨(by show(i_2+1)≤v_1.length;omega),(jM (G:=fun y=>y=.int .i64 0) qU (congrArg (Tree.int .i64) (aq jX)) iW)⟩,(by show(v_1.length - (i_2+1))<(v_1.length - i_2);omega)⟩⟩,bB (f:=0) (n:=3000) (once:=[]) (k:=18) (T:=0) (S:=[]) (ks:=[]) (live:=[3,6,7,8]) ah ai [oB bM,oE qU,oB jX,oI (i_2) (by omega)] (by kernel_rfl)⟩
  ·
   have lF:=of_decide_eq_false bM
   refine kO ah ai [oB bM] (by kernel_rfl) ?_
   refine⟨⟨0, ?_⟩,kF ah ai [] (by kernel_rfl)⟩
   exact⟨fun _ y hy=>k7 (G:=fun y=>y=.int .i64 0) (l:=v_1) (fun j hj=>iW j (by omega)) y hy,fun _=>rfl⟩
end
end Go.Proofs.YtijfhoelihclbaaGreatDoor.w.e

namespace Go.Proofs.YtijfhoelihclbaaGreatDoor.w.e
open Go Go.Abs Go.Abs.Ty
set_option linter.unusedVariables false
set_option maxRecDepth 100000
set_option maxHeartbeats 2000000
noncomputable section
theorem La (m:Int):∃F:Tree→Int,∀x,(T .dw x)→R1 (cf m) 11 x (.int .i64 (F x))∧((F x)=0→∀t∈VJ x,xG (aG 6 [] [] (LU t))):=by
  refine wT (P:=fun x=>T .dw x) (mk:=fun(r:Int)=>.int .i64 r) (Post:=fun x r=>r=0→∀t∈VJ x,xG (aG 6 [] [] (LU t))) fun x hx=> ?_
  show ∃r:{r:Int // r=0→∀t∈VJ x,xG (aG 6 [] [] (LU t))},ay (cf m) 11 [.t x] [] (.ret (.t (.int .i64 r.1)) [] [])
  have cv:=hx
  obtain⟨dG,bW,rfl,eT,bq,jQ,dP⟩:=T.xb cv
  obtain⟨V1,ac4⟩:=Ro m
  obtain⟨V2,ac5⟩:=Rq m
  obtain⟨aaD,agO⟩:=Vo m
  obtain⟨aaE,agP⟩:=Vr m
  obtain⟨fp,hp⟩:=VV m
  obtain⟨qp,hqp⟩:=acX m dG bW (by first|assumption|omega|(simp;done)|(simp;omega)) bq (by first|assumption|omega|(simp;done)|(simp;omega)) dP
  obtain⟨rp,hrp⟩:=ac1 m dG bW (by first|assumption|omega|(simp;done)|(simp;omega)) bq (by first|assumption|omega|(simp;done)|(simp;omega)) dP qp hqp dG (by first|assumption|omega|(simp;done)|(simp;omega)) bq
  obtain⟨fq,hq⟩:=VX m
  obtain⟨qq,hqq⟩:=acZ m dG bW (by first|assumption|omega|(simp;done)|(simp;omega)) bq (by first|assumption|omega|(simp;done)|(simp;omega)) dP
  obtain⟨rq,hrq⟩:=ac2 m dG bW (by first|assumption|omega|(simp;done)|(simp;omega)) bq (by first|assumption|omega|(simp;done)|(simp;omega)) dP qq hqq bW (by first|assumption|omega|(simp;done)|(simp;omega)) dP
  obtain⟨aaF,aaG⟩:=vS m
  obtain⟨ev,ai,EC,IB,V3,aaH,agQ,agR,agS⟩:∃ev,aF (cf m) ev∧Has ev 31 (r7 (fun x y=>T .aZ x∧y=.fn (.func 25)) (fun x y=>.bool (V1 x y)))∧Has ev 32 (r7 (fun x y=>T .bY x∧y=.fn (.func 28)) (fun x y=>.bool (V2 x y)))∧Has ev 33 (r7 (fun x y=>T .aZ x∧y=.fn (.func 34)) (fun x y=>.bool (aaD x y)))∧Has ev 35 (r7 (fun x y=>T .bY x∧y=.fn (.func 36)) (fun x y=>.bool (aaE x y)))∧Has ev 37 (Iw (r7 (fun x y=>T .aZ x∧y=.fn (.func 38)) (fun x y=>.int .i64 (fp x y))) (px (.t (.sl dG)::[.fn (.func 42) [] [.ptr (.arg 0) 0,.ptr (.arg 1) 0]]) [.cells 84 [.t (.fn (.func 30))],.cells 79 [.t (.sl dG),.t (.sl bW)]] (.ret (.t (.int .i64 rp)) [.cells 84 [.t (.fn (.func 30))],.cells 79 [.t (.sl dG),.t (.sl bW)]] [])))∧Has ev 40 (Iw (r7 (fun x y=>T .bY x∧y=.fn (.func 41)) (fun x y=>.int .i64 (fq x y))) (px (.t (.sl bW)::[.fn (.func 45) [] [.ptr (.arg 0) 0,.ptr (.arg 1) 0]]) [.cells 84 [.t (.fn (.func 30))],.cells 79 [.t (.sl dG),.t (.sl bW)]] (.ret (.t (.int .i64 rq)) [.cells 84 [.t (.fn (.func 30))],.cells 79 [.t (.sl dG),.t (.sl bW)]] [])))∧Has ev 16 (jP (fun x=>T .dA x) (fun x=>.int .i64 (aaF x))):=⟨_,(ax (dH (fun x y h=>(ac4 x y h).1)) (ax (dH (fun x y h=>(ac5 x y h).1)) (ax (dH (fun x y h=>(agO x y h).1)) (ax (dH (fun x y h=>(agP x y h).1)) (ax ((Iy (dH fun x y h=>(hp x y h).1) (jY hrp))) (ax ((Iy (dH fun x y h=>(hq x y h).1) (jY hrq))) (ax (bp (fun x h=>(aaG x h).1)) aH))))))),az,(aj rfl az),(aj rfl (aj rfl az)),(aj rfl (aj rfl (aj rfl az))),(aj rfl (aj rfl (aj rfl (aj rfl az)))),(aj rfl (aj rfl (aj rfl (aj rfl (aj rfl az))))),(aj rfl (aj rfl (aj rfl (aj rfl (aj rfl (aj rfl az))))))⟩
  refine AX.start 54 1 Tryz.func11 rfl (by decide) rfl rfl (by decide) ?_
  refine AX.frames ?_
  rcases aK (decide ((max ((dG.length:Nat):Int) ((bW.length:Nat):Int))>16)) with bD|bD
  ·
   have gM:=of_decide_eq_true bD
   refine⟨⟨2, ?_⟩,kF ah ai [oG .i64 ((dG.length:Nat):Int) ((bW.length:Nat):Int),oB bD] (by kernel_rfl)⟩
   exact fun h=>absurd h (by decide)
  ·
   have gM:=of_decide_eq_false bD
   rcases aK ((V1 (.sl dG) (.fn (.func 25)))) with hg3|hg3
   ·
    refine⟨⟨5, ?_⟩,kF ah ai [oG .i64 ((dG.length:Nat):Int) ((bW.length:Nat):Int),oB bD,oC (dm EC (x:=.sl dG) (y:=.fn (.func 25)) ⟨(.aZ _ (by first|assumption|omega|(simp;done)|(simp;omega)) bq),rfl⟩),oB hg3,oB hg3,oB hg3,oB hg3,oB hg3,oT] (by kernel_rfl)⟩
    exact fun h=>absurd h (by decide)
   ·
    rcases aK ((V2 (.sl bW) (.fn (.func 28)))) with s5|s5
    ·
     refine⟨⟨5, ?_⟩,kF ah ai [oG .i64 ((dG.length:Nat):Int) ((bW.length:Nat):Int),oB bD,oC (dm EC (x:=.sl dG) (y:=.fn (.func 25)) ⟨(.aZ _ (by first|assumption|omega|(simp;done)|(simp;omega)) bq),rfl⟩),oB hg3,oB hg3,oB hg3,oB hg3,oC (dm IB (x:=.sl bW) (y:=.fn (.func 28)) ⟨(.bY _ (by first|assumption|omega|(simp;done)|(simp;omega)) dP),rfl⟩),oB hg3,oB s5] (by kernel_rfl)⟩
     exact fun h=>absurd h (by decide)
    ·
     rcases aK ((aaD (.sl dG) (.fn (.func 34)))) with bu|bu
     ·
      refine⟨⟨10, ?_⟩,kF ah ai [oG .i64 ((dG.length:Nat):Int) ((bW.length:Nat):Int),oB bD,oC (dm EC (x:=.sl dG) (y:=.fn (.func 25)) ⟨(.aZ _ (by first|assumption|omega|(simp;done)|(simp;omega)) bq),rfl⟩),oB hg3,oB hg3,oB hg3,oB hg3,oC (dm IB (x:=.sl bW) (y:=.fn (.func 28)) ⟨(.bY _ (by first|assumption|omega|(simp;done)|(simp;omega)) dP),rfl⟩),oB hg3,oB s5,oC (dm V3 (x:=.sl dG) (y:=.fn (.func 34)) ⟨(.aZ _ (by first|assumption|omega|(simp;done)|(simp;omega)) bq),rfl⟩),oB bu,oB bu,oB bu,oB bu,oT] (by kernel_rfl)⟩
      exact fun h=>absurd h (by decide)
     ·
      rcases aK ((aaE (.sl bW) (.fn (.func 36)))) with jX|jX
      ·
       refine⟨⟨10, ?_⟩,kF ah ai [oG .i64 ((dG.length:Nat):Int) ((bW.length:Nat):Int),oB bD,oC (dm EC (x:=.sl dG) (y:=.fn (.func 25)) ⟨(.aZ _ (by first|assumption|omega|(simp;done)|(simp;omega)) bq),rfl⟩),oB hg3,oB hg3,oB hg3,oB hg3,oC (dm IB (x:=.sl bW) (y:=.fn (.func 28)) ⟨(.bY _ (by first|assumption|omega|(simp;done)|(simp;omega)) dP),rfl⟩),oB hg3,oB s5,oC (dm V3 (x:=.sl dG) (y:=.fn (.func 34)) ⟨(.aZ _ (by first|assumption|omega|(simp;done)|(simp;omega)) bq),rfl⟩),oB bu,oB bu,oB bu,oC (dm aaH (x:=.sl bW) (y:=.fn (.func 36)) ⟨(.bY _ (by first|assumption|omega|(simp;done)|(simp;omega)) dP),rfl⟩),oB bu,oB jX] (by kernel_rfl)⟩
       exact fun h=>absurd h (by decide)
      ·
       refine⟨⟨(aaF (.sl [.int .i64 (fp (.sl dG) (.fn (.func 38))),.int .i64 (fq (.sl bW) (.fn (.func 41))),.int .i64 rp,.int .i64 rq])), ?_⟩,kF ah ai [oG .i64 ((dG.length:Nat):Int) ((bW.length:Nat):Int),oB bD,oC (dm EC (x:=.sl dG) (y:=.fn (.func 25)) ⟨(.aZ _ (by first|assumption|omega|(simp;done)|(simp;omega)) bq),rfl⟩),oB hg3,oB hg3,oB hg3,oB hg3,oC (dm IB (x:=.sl bW) (y:=.fn (.func 28)) ⟨(.bY _ (by first|assumption|omega|(simp;done)|(simp;omega)) dP),rfl⟩),oB hg3,oB s5,oC (dm V3 (x:=.sl dG) (y:=.fn (.func 34)) ⟨(.aZ _ (by first|assumption|omega|(simp;done)|(simp;omega)) bq),rfl⟩),oB bu,oB bu,oB bu,oC (dm aaH (x:=.sl bW) (y:=.fn (.func 36)) ⟨(.bY _ (by first|assumption|omega|(simp;done)|(simp;omega)) dP),rfl⟩),oB bu,oB jX,oC (dm (Iz agQ) (x:=.sl dG) (y:=.fn (.func 38)) ⟨(.aZ _ (by first|assumption|omega|(simp;done)|(simp;omega)) bq),rfl⟩),oC (dm (Iz agR) (x:=.sl bW) (y:=.fn (.func 41)) ⟨(.bY _ (by first|assumption|omega|(simp;done)|(simp;omega)) dP),rfl⟩),oC (VC agQ rfl),oC (VC agR rfl),oC (bf agS (x:=.sl [.int .i64 (fp (.sl dG) (.fn (.func 38))),.int .i64 (fq (.sl bW) (.fn (.func 41))),.int .i64 rp,.int .i64 rq]) (.dA _ (by simp) (by intro y hy;simp only[List.mem_cons,List.not_mem_nil,or_false] at hy;rcases hy with rfl|rfl|rfl|rfl<;>exact .dK _)))] (by kernel_rfl)⟩
       exact fun h=>(hp (.sl dG) (.fn (.func 38)) ⟨(.aZ _ (by first|assumption|omega|(simp;done)|(simp;omega)) bq),rfl⟩).2 (Tree.int.inj ((aaG (.sl [.int .i64 (fp (.sl dG) (.fn (.func 38))),.int .i64 (fq (.sl bW) (.fn (.func 41))),.int .i64 rp,.int .i64 rq]) (.dA _ (by simp) (by intro y hy;simp only[List.mem_cons,List.not_mem_nil,or_false] at hy;rcases hy with rfl|rfl|rfl|rfl<;>exact .dK _))).2.1 h _ List.mem_cons_self)).2
end
end Go.Proofs.YtijfhoelihclbaaGreatDoor.w.e

namespace Go.Proofs.YtijfhoelihclbaaGreatDoor.w.e
open Go Go.Abs Go.Abs.Ty
set_option linter.unusedVariables false
set_option maxRecDepth 100000
set_option maxHeartbeats 2000000
noncomputable section
theorem iF {l:List Tree}(h:∀y∈l,T .string y):cu false 1 l:=fun y hy=>by
 obtain⟨v,rfl⟩:=T.cT (h y hy)
 exact⟨rfl,rfl,rfl⟩
theorem kz {l:List Tree}(h:∀y∈l,T .aD y):cu true 4 l:=fun y hy=>by
 obtain⟨kind,name,Xu,attrs,rfl,_,_,_,_⟩:=T.aR (h y hy)
 exact⟨rfl,rfl,rfl⟩
theorem kA {l:List Tree}(h:∀y∈l,T .bh y):cu true 5 l:=fun y hy=>by
 obtain⟨name,pZ,p5,nU,jc,rfl,_,_,_,_⟩:=T.eV (h y hy)
 exact⟨rfl,rfl,rfl⟩
theorem Y1 {m:Int}{ev:aW}(ai:aF (cf m) ev):ay (cf m) 52 [.t (.sl [])] [] (.ret (.t (.sl [])) [] []):=by
 refine nD 8 1 Tryz.func52 rfl (by decide) rfl rfl (by decide) ?_
 refine AW.seq ?_
 refine AW.region ?_
 refine fC.go (f:=0) ai (by first|exact gj rfl|exact au rfl) ?_
 refine fC.nil ?_
 refine AW.seq ?_
 refine AW.seq ?_
 refine AW.region ?_
 refine fC.go (f:=0) ai (by first|exact lp rfl|exact av rfl) ?_
 refine fC.Qx rfl rfl kJ rfl (fun b hb=> ?_)
 refine fC.nil ?_
 refine AW.cond rfl (fun h4=> ?_) (fun h4=> ?_)
 ·
  refine AW.seq ?_
  refine AW.region ?_
  refine fC.go (f:=0) ai (by first|exact gj rfl|exact au rfl) ?_
  refine fC.nil ?_
  refine AW.ret ?_
  exact .inl rfl
 ·
  refine AW.skip ?_
  refine AW.seq ?_
  refine AW.region ?_
  refine fC.go (f:=0) ai (qw rfl kJ rfl kB rfl rfl) ?_
  refine fC.go (f:=0) ai (by first|exact lp rfl|exact av rfl) ?_
  refine fC.go (f:=0) ai (vw DK rfl rfl (.inl (.inl rfl)) (.inr (.inr ⟨_,rfl⟩))) ?_
  refine fC.go (f:=0) ai (by first|exact gj rfl|exact au rfl) ?_
  refine fC.nil ?_
  refine AW.ret ?_
  exact .inl rfl
theorem Y2 {m:Int}{ev:aW}(ai:aF (cf m) ev)(es:List Tree)(hne:es≠ [])(hu:cu false 1 es)(hl:es.length≤4194304):
  ay (cf m) 52 [.t (.sl es)] [] (.ret (.t (.sl es)) [] []):=by
 refine nD 8 1 Tryz.func52 rfl (by decide) rfl rfl (by decide) ?_
 refine AW.seq ?_
 refine AW.region ?_
 refine fC.go (f:=0) ai (by first|exact gj rfl|exact au rfl) ?_
 refine fC.nil ?_
 refine AW.seq ?_
 refine AW.seq ?_
 refine AW.region ?_
 refine fC.go (f:=0) ai (by first|exact lp rfl|exact av rfl) ?_
 refine fC.Qx rfl rfl kJ rfl (fun b hb=> ?_)
 have hb:=hb hne
 subst hb
 refine fC.nil ?_
 refine AW.cond rfl (fun h=>absurd h (by decide)) (fun h=> ?_)
 refine AW.skip ?_
 refine AW.seq ?_
 refine AW.region ?_
 refine fC.go (f:=0) ai (qw rfl kJ rfl kB rfl rfl) ?_
 refine fC.go (f:=0) ai (by first|exact lp rfl|exact av rfl) ?_
 refine fC.go (f:=0) ai (Mr DK rfl rfl (.inl rfl) hu hne (by show es.length*16≤70368744177664;omega)) ?_
 refine fC.go (f:=0) ai (by first|exact gj rfl|exact au rfl) ?_
 refine fC.nil ?_
 refine AW.ret ?_
 exact .inl (SV rfl (kZ rfl hu (by decide) rfl rfl))
theorem V4 (m:Int):∀x,T .bl x→R1 (cf m) 52 x x:=fun x hx=>by
 obtain⟨l,rfl,hl,h2⟩:=T.iV hx
 by_cases h:l=[]
 · subst h;exact Y1 aH
 · exact Y2 aH l h (iF h2) hl
theorem ac6 (m:Int)(k:Int)(s:List UInt8)(os:List Tree)(hne:os≠ [])(lo:os.length≤4194304)(ho:∀y∈os,T .aD y)(hO:∀y∈os,R1 (cf m) 94 y y)(bs:List Tree)(lb:bs.length≤4194304)(hb:∀y∈bs,T .bh y)(hA:R1 (cf m) 53 (.sl bs) (.sl bs)):R1 (cf m) 94 (aG k s os bs) (aG k s os bs):=by
  obtain⟨ev,ai,jh,Nq,sQ⟩:∃ev,aF (cf m) ev∧Has ev 64 k4∧Has ev 53 (jP (fun y=>y=.sl bs) (fun x=>x))∧Has ev 94 (jP (fun y=>y∈os) (fun x=>x)):=⟨_,(ax (lU m) (ax (bp fun x h=>by subst h;exact hA) (ax (bp hO) aH))),az,(aj rfl az),(aj rfl (aj rfl az))⟩
  refine ay.fu ?_
  refine AX.start 30 1 Tryz.func94 rfl (by decide) rfl rfl (by decide) ?_
  refine AX.frames ?_
  refine uR (f:=0) (n:=3000) (once:=[]) (k:=30) (T:=2) (S:=[.loc [0],.loc [1]]) (ks:=[.loc [0],.loc [1]]) (live:=[1,2]) ah ai (Tryz.f94.body.getD .skip) 1 rfl (⟨bH 30 [(1,.ptr (.loc [0]) 0),(2,.ptr (.loc [1]) 0)],[(.loc [0],.cells 38 [.t (.int .u8 k),.t (.str s),.t (.sl os),.t (.sl bs)]),(.loc [1],.cells 38 [.t (.int .u8 0),.t (.str []),.aL,.aL])],2⟩) [] (by kernel_rfl) ?_
  refine AX.draw (f:=0) ah ai ?_
  refine aJ.go rfl (aB rfl lB rfl) ?_
  refine aJ.go rfl (aS rfl (ld iU rfl rfl)) ?_
  refine aJ.go rfl (wC (uQ rfl) (vK jh (by assumption) (kz ho) (by assumption)) rfl sD) ?_
  refine aJ.go rfl (aB rfl iM rfl) ?_
  refine aJ.go rfl (aS rfl (ld iH rfl rfl)) ?_
  refine aJ.go rfl (bU (uQ rfl) (bf Nq rfl)) ?_
  refine aJ.go rfl (aB rfl lB rfl) ?_
  refine aJ.lQ rfl (br rfl rfl (mX iU rfl rfl)) ?_
  refine aJ.go rfl (aB rfl iM rfl) ?_
  refine aJ.lQ rfl (br rfl rfl (mX iH rfl rfl)) ?_
  refine aJ.nil (eE rfl rfl ?_)
  refine eo (f:=0) (n:=3000) (once:=[]) (k:=30) (T:=3) (S:=[.loc [0],.loc [1],.loc [4,5]]) (ks:=[.loc [0],.loc [1],.loc [4,5]]) (live:=[1,2,14,15]) ah ai (α:=Nat) (fun x=>⟨bH 30 [(1,.ptr (.loc [0]) 0),(2,.ptr (.loc [1]) 0),(14,.t (.int .i64 ((os.length:Nat):Int))),(15,.t (.int .i64 ((x:Nat):Int)))],[(.loc [0],.cells 38 [.t (.int .u8 k),.t (.str s),.ref (.loc [2]) 0 os.length,.t (.sl bs)]),(.loc [1],.cells 38 [.t (.int .u8 0),.t (.str []),.aL,.aL]),(.loc [2],.arr (38,true) 4 false ((flat os).map .t))],3⟩) (fun x=>(x≤os.length)) (fun x=>os.length - x) 0 (iA (Tryz.f94.body.getD .skip) 3) [oN (o:=.arr (38,true) 4 false ((flat os).map .t)) (fun _=>bw)] (by kernel_rfl) (by show(0≤os.length);first|trivial|omega|(refine⟨?_, ?_⟩<;>first|omega|exact SM.nil)|simp) (fun x hok=> ?_)
  obtain⟨i_1,mJ⟩:∃y,y=x:=⟨x,rfl⟩
  subst mJ
  replace hok:(i_1≤os.length):=hok
  have iX:=hok
  rcases aK (decide (((i_1:Nat):Int)<((os.length:Nat):Int))) with bD|bD
  ·
   have gM:=of_decide_eq_true bD
   obtain⟨e3,gY⟩:=lC os i_1 (by first|omega|(simp;omega))
   have iI:=(ho e3 (List.mem_of_getElem? gY))
   obtain⟨qM,cq,vU,cE,rfl,mO,kU,mP,jR⟩:=T.aR iI
   exact⟨.inl ⟨i_1+1,⟨(by show(i_1+1)≤os.length;omega),(by show(os.length - (i_1+1))<(os.length - i_1);omega)⟩⟩,bB (f:=0) (n:=3000) (once:=[]) (k:=30) (T:=3) (S:=[.loc [0],.loc [1],.loc [2]]) (ks:=[.loc [0],.loc [1],.loc [2]]) (live:=[1,2,14,15]) ah ai [oB bD,oW true 4 os (kz ho),oH gY,oQ os,oO (sC (m:=4) (i:=i_1) (j:=0) (cu.lens (kz ho)) gY (by decide)),oC (bf sQ (x:=.agg [.int .u8 qM,.str cq,.sl vU,.sl cE]) (List.mem_of_getElem? gY)),oW true 4 os (kz ho),oH gY,oQ os,oR _ _ (Gb (j:=0) (m:=4) (cu.lens (kz ho)) gY (by decide)),oK (wB (j:=0) (m:=4) (cu.lens (kz ho)) gY (by decide)),oI (i_1) (by omega),oN (o:=.arr (38,true) 4 false ((flat os).map .t)) (fun _=>bw)] (by kernel_rfl)⟩
  ·
   have gM:=of_decide_eq_false bD
   refine kO ah ai [oB bD] (by kernel_rfl) ?_
   exact⟨(),kF ah ai [oW true 4 os (kz ho)] (by kernel_rfl)⟩
theorem ac7 (m:Int)(k:Int)(s:List UInt8)(bs:List Tree)(lb:bs.length≤4194304)(hb:∀y∈bs,T .bh y)(hA:R1 (cf m) 53 (.sl bs) (.sl bs)):R1 (cf m) 94 (aG k s [] bs) (aG k s [] bs):=by
 obtain⟨ev,ai,jh,Nq⟩:∃ev,aF (cf m) ev∧Has ev 64 k4∧Has ev 53 (jP (fun y=>y=.sl bs) (fun x=>x)):=⟨_,(ax (lU m) (ax (bp fun x h=>by subst h;exact hA) aH)),az,(aj rfl az)⟩
 refine ay.fu ?_
 refine AX.start 30 1 Tryz.func94 rfl (by decide) rfl rfl (by decide) ?_
 refine AX.frames ?_
 exact⟨(),QS (f:=0) (n:=3000) (once:=[3]) ah ai [oC (show ev 64 [.t (.sl [])] []=some (bG.ret (.t (.sl [])) [] []) from(jh _ _ _ rfl)),oC (bf Nq (x:=.sl bs) rfl),oF] (by kernel_rfl)⟩
theorem aaI (m:Int)(bs:List Tree)(hne:bs≠ [])(lb:bs.length≤4194304)(hb:∀y∈bs,T .bh y)(hO:∀a∈bs,R1 (cf m) 94 (Is a) (Is a)):R1 (cf m) 53 (.sl bs) (.sl bs):=by
  obtain⟨ev,ai,ji,sQ⟩:∃ev,aF (cf m) ev∧Has ev 65 k5∧Has ev 94 (jP (fun y=>∃a∈bs,y=Is a) (fun x=>x)):=⟨_,(ax (lV m) (ax (bp fun x h=>by obtain⟨a,ha,e⟩:=h;subst e;exact hO a ha) aH)),az,(aj rfl az)⟩
  refine ay.fu ?_
  refine AX.start 23 1 Tryz.func53 rfl (by decide) rfl rfl (by decide) ?_
  refine AX.frames ?_
  refine uR (f:=0) (n:=3000) (once:=[]) (k:=23) (T:=0) (S:=[]) (ks:=[]) (live:=[0,2]) ah ai (Tryz.f53.body.getD .skip) 1 rfl (⟨bH 23 [(0,.t (.sl bs)),(2,.aL)],[],0⟩) [] (by kernel_rfl) ?_
  refine AX.region ?_
  refine ak.go (f:=0) ai (av rfl) ?_
  refine ak.go (f:=0) ai (wC (uQ rfl) (vL ji (by assumption) (kA hb) (by assumption)) rfl sD) ?_
  refine ak.go (f:=0) ai (au rfl) ?_
  refine ak.nil ?_
  refine eo (f:=0) (n:=3000) (once:=[]) (k:=23) (T:=1) (S:=[.loc [1,5]]) (ks:=[.loc [1,5]]) (live:=[0,7,8]) ah ai (α:=Nat) (fun x=>⟨bH 23 [(0,.ref (.loc [0]) 0 bs.length),(7,.t (.int .i64 ((bs.length:Nat):Int))),(8,.t (.int .i64 ((x:Nat):Int)))],[(.loc [0],.arr (45,true) 5 false ((flat bs).map .t))],1⟩) (fun x=>(x≤bs.length)) (fun x=>bs.length - x) 0 (iA (Tryz.f53.body.getD .skip) 3) [oN (o:=.arr (45,true) 5 false ((flat bs).map .t)) (fun _=>bw)] (by kernel_rfl) (by show(0≤bs.length);first|trivial|omega|(refine⟨?_, ?_⟩<;>first|omega|exact SM.nil)|simp) (fun x hok=> ?_)
  obtain⟨i_1,mJ⟩:∃y,y=x:=⟨x,rfl⟩
  subst mJ
  replace hok:(i_1≤bs.length):=hok
  have iX:=hok
  rcases aK (decide (((i_1:Nat):Int)<((bs.length:Nat):Int))) with bD|bD
  ·
   have gM:=of_decide_eq_true bD
   obtain⟨e3,gY⟩:=lC bs i_1 (by first|omega|(simp;omega))
   have iI:=(hb e3 (List.mem_of_getElem? gY))
   obtain⟨cq,fQ,fR,iO,eZ,rfl,mO,kU,mP,jR⟩:=T.eV iI
   exact⟨.inl ⟨i_1+1,⟨(by show(i_1+1)≤bs.length;omega),(by show(bs.length - (i_1+1))<(bs.length - i_1);omega)⟩⟩,bB (f:=0) (n:=3000) (once:=[]) (k:=23) (T:=1) (S:=[.loc [0]]) (ks:=[.loc [0]]) (live:=[0,7,8]) ah ai [oB bD,oW true 5 bs (kA hb),oH gY,oQ bs,oQ bs,oO (sC (m:=4) (i:=i_1) (j:=1) (cu.lens (kA hb)) gY (by decide)),oC (bf sQ (x:=.agg [.int .u8 fQ,.str fR,.sl iO,.sl eZ]) ⟨_,List.mem_of_getElem? gY,rfl⟩),oW true 5 bs (kA hb),oH gY,oQ bs,oQ bs,oR _ _ (Gb (j:=1) (m:=4) (cu.lens (kA hb)) gY (by decide)),oK (wB (j:=1) (m:=4) (cu.lens (kA hb)) gY (by decide)),oI (i_1) (by omega),oN (o:=.arr (45,true) 5 false ((flat bs).map .t)) (fun _=>bw)] (by kernel_rfl)⟩
  ·
   have gM:=of_decide_eq_false bD
   refine kO ah ai [oB bD] (by kernel_rfl) ?_
   exact⟨(),kF ah ai [oW true 5 bs (kA hb)] (by kernel_rfl)⟩
theorem aaJ (m:Int):R1 (cf m) 53 (.sl []) (.sl []):=by
 obtain⟨ev,ai,ji⟩:∃ev,aF (cf m) ev∧Has ev 65 k5:=⟨_,(ax (lV m) aH),az⟩
 refine ay.fu ?_
 refine AX.start 23 1 Tryz.func53 rfl (by decide) rfl rfl (by decide) ?_
 refine AX.frames ?_
 exact⟨(),QS (f:=0) (n:=3000) (once:=[3]) ah ai [oC (show ev 65 [.t (.sl [])] []=some (bG.ret (.t (.sl [])) [] []) from(ji _ _ _ rfl)),oF] (by kernel_rfl)⟩
theorem V5 (m:Int):∀(k:K) (x:Tree),T k x→(k=.aD→R1 (cf m) 94 x x)∧(k=.bh→R1 (cf m) 94 (Is x) (Is x)):=by
 intro k x h
 have go:∀(k1:Int) (s:List UInt8) (os bs:List Tree),os.length≤4194304→(∀y∈os,T .aD y)→bs.length≤4194304→(∀y∈bs,T .bh y)→(∀y∈os,R1 (cf m) 94 y y)→(∀y∈bs,R1 (cf m) 94 (Is y) (Is y))→
   R1 (cf m) 94 (aG k1 s os bs) (aG k1 s os bs):=by
  intro k1 s os bs l1 h1 l2 h2 i1 i2
  have hA:R1 (cf m) 53 (.sl bs) (.sl bs):=by
   by_cases hb:bs=[]
   · subst hb;exact aaJ m
   · exact aaI m bs hb l2 h2 i2
  by_cases ho:os=[]
  · subst ho;exact ac7 m k1 s bs l2 h2 hA
  · exact ac6 m k1 s os ho l1 h1 i1 bs l2 h2 hA
 induction h with
 | @aD k1 s os bs l1 h1 l2 h2 i1 i2=>exact⟨fun _=>go k1 s os bs l1 h1 l2 h2 (fun y hy=>(i1 y hy).1 rfl) (fun y hy=>(i2 y hy).2 rfl),fun e=>(by cases e)⟩
 | @bh nm k1 s os bs l1 h1 l2 h2 i1 i2=>exact⟨fun e=>(by cases e),fun _=>go k1 s os bs l1 h1 l2 h2 (fun y hy=>(i1 y hy).1 rfl) (fun y hy=>(i2 y hy).2 rfl)⟩
 |_=>exact⟨fun e=>(by cases e),fun e=>(by cases e)⟩
theorem aaK (m:Int):∀x,T .dW x→R1 (cf m) 53 x x:=fun x hx=>by
 obtain⟨l,rfl,hl,h2⟩:=T.zh hx
 by_cases h:l=[]
 · subst h;exact aaJ m
 · exact aaI m l h hl h2 fun y hy=>(V5 m _ y (h2 y hy)).2 rfl
end
end Go.Proofs.YtijfhoelihclbaaGreatDoor.w.e

namespace Go.Proofs.YtijfhoelihclbaaGreatDoor.w.e
open Go Go.Abs Go.Abs.Ty
set_option linter.unusedVariables false
set_option maxRecDepth 100000
set_option maxHeartbeats 2000000
noncomputable section
theorem Nr (m:Int)(ts ac:List Tree)(lt:ts.length≤4194304)(ht:∀y∈ts,T .aC y)(la:ac.length≤4194304)(ha:∀y∈ac,T .aY y)(s:List UInt8):R2 (cf m) 17 (.agg [.sl ts,.sl ac]) (.str s) (.bX [(cr r6 s ts).1,.int .i64 (cr r6 s ts).2]):=by
  obtain⟨ev,ai,Pn,Nq⟩:∃ev,aF (cf m) ev∧Has ev 52 (jP (T .bl) (fun x=>x))∧Has ev 53 (jP (T .dW) (fun x=>x)):=⟨_,(ax (bp (V4 m)) (ax (bp (aaK m)) aH)),az,(aj rfl az)⟩
  refine ay.fu ?_
  refine AX.start 30 2 Tryz.func17 rfl (by decide) rfl rfl (by decide) ?_
  refine AX.frames ?_
  refine eo (f:=0) (n:=3000) (once:=[]) (k:=30) (T:=1) (S:=[.loc [1]]) (ks:=[.loc [1]]) (live:=[1,4,9,10,11]) ah ai (α:=Nat) (fun x=>⟨bH 30 [(1,.t (.str s)),(4,.ptr (.loc [0]) 0),(9,.t (.sl ts)),(10,.t (.int .i64 ((ts.length:Nat):Int))),(11,.t (.int .i64 ((x:Nat):Int)))],[(.loc [0],.cells 49 [.t (.str []),.aL,.aL])],1⟩) (fun x=>(x≤ts.length)∧(∀j,j<x→∀x,ts[j]?=some x→(uO x==s)=false)) (fun x=>ts.length - x) 0 (iA (Tryz.f17.body.getD .skip) 2) [] (by kernel_rfl) ⟨Nat.zero_le _,fun j hj=>absurd hj (Nat.not_lt_zero j)⟩ (fun x hok=> ?_)
  obtain⟨i_1,mJ⟩:∃y,y=x:=⟨x,rfl⟩
  subst mJ
  replace hok:(i_1≤ts.length)∧(∀j,j<i_1→∀x,ts[j]?=some x→(uO x==s)=false):=hok
  obtain⟨iX,bN⟩:=hok
  rcases aK (decide (((i_1:Nat):Int)<((ts.length:Nat):Int))) with bD|bD
  ·
   have gM:=of_decide_eq_true bD
   obtain⟨e3,gY⟩:=lC ts i_1 (by first|omega|(simp;omega))
   have iI:=(ht e3 (List.mem_of_getElem? gY))
   obtain⟨cq,cI,cE,rfl,mO,kU,mP,jR⟩:=T.bg iI
   rcases aK ((cq==s)) with kC|kC
   ·
    have vJ:=eq_of_beq kC
    refine kO ah ai [oB bD,oE gY,oB kC,oC (bf Pn (x:=.sl cI) (.bl _ (by first|assumption|omega|(simp;done)|(simp;omega)) kU)),oC (bf Nq (x:=.sl cE) (.dW _ (by first|assumption|omega|(simp;done)|(simp;omega)) jR))] (by kernel_rfl) ?_
    have hres:cr r6 s ts=(.agg [.str cq,.sl cI,.sl cE],0):=qu (Dj bN gY kC)
    show ∃_:Unit,KE (cf m) (cB (cf m) _ 0 (.ret (.t (.bX [(cr r6 s ts).1,.int .i64 (cr r6 s ts).2])) [] [])) _ _ _
    rw[hres]
    exact⟨(),kF ah ai [] (by kernel_rfl)⟩
   ·
    have vJ:=ne_of_beq_false kC
    exact⟨.inl ⟨i_1+1,⟨⟨(by show(i_1+1)≤ts.length;omega),(JK bN gY kC)⟩,(by show(ts.length - (i_1+1))<(ts.length - i_1);omega)⟩⟩,bB (f:=0) (n:=3000) (once:=[]) (k:=30) (T:=1) (S:=[.loc [0]]) (ks:=[.loc [0]]) (live:=[1,4,9,10,11]) ah ai [oB bD,oE gY,oB kC,oI (i_1) (by omega)] (by kernel_rfl)⟩
  ·
   have gM:=of_decide_eq_false bD
   refine kO ah ai [oB bD] (by kernel_rfl) ?_
   have hres:cr r6 s ts=(.agg [.str [],.sl [],.sl []],9):=qv (Dk (fun j hj=>bN j (by omega)))
   show ∃_:Unit,KE (cf m) (cB (cf m) _ 0 (.ret (.t (.bX [(cr r6 s ts).1,.int .i64 (cr r6 s ts).2])) [] [])) _ _ _
   rw[hres]
   exact⟨(),kF ah ai [] (by kernel_rfl)⟩
theorem ac8 (m:Int)(ts ac:List Tree)(lt:ts.length≤4194304)(ht:∀y∈ts,T .aC y)(la:ac.length≤4194304)(ha:∀y∈ac,T .aY y)(s:List UInt8):R2 (cf m) 95 (.agg [.sl ts,.sl ac]) (.str s) (.bX [(cr Mm s ac).1,.int .i64 (cr Mm s ac).2]):=by
  obtain⟨ev,ai,Pn,Nq⟩:∃ev,aF (cf m) ev∧Has ev 52 (jP (T .bl) (fun x=>x))∧Has ev 53 (jP (T .dW) (fun x=>x)):=⟨_,(ax (bp (V4 m)) (ax (bp (aaK m)) aH)),az,(aj rfl az)⟩
  refine ay.fu ?_
  refine AX.start 34 2 Tryz.func95 rfl (by decide) rfl rfl (by decide) ?_
  refine AX.frames ?_
  refine eo (f:=0) (n:=3000) (once:=[]) (k:=34) (T:=1) (S:=[.loc [1]]) (ks:=[.loc [1]]) (live:=[1,4,9,10,11]) ah ai (α:=Nat) (fun x=>⟨bH 34 [(1,.t (.str s)),(4,.ptr (.loc [0]) 0),(9,.t (.sl ac)),(10,.t (.int .i64 ((ac.length:Nat):Int))),(11,.t (.int .i64 ((x:Nat):Int)))],[(.loc [0],.cells 76 [.t (.str []),.aL,.aL,.aL])],1⟩) (fun x=>(x≤ac.length)∧(∀j,j<x→∀x,ac[j]?=some x→(uO x==s)=false)) (fun x=>ac.length - x) 0 (iA (Tryz.f95.body.getD .skip) 2) [] (by kernel_rfl) ⟨Nat.zero_le _,fun j hj=>absurd hj (Nat.not_lt_zero j)⟩ (fun x hok=> ?_)
  obtain⟨i_1,mJ⟩:∃y,y=x:=⟨x,rfl⟩
  subst mJ
  replace hok:(i_1≤ac.length)∧(∀j,j<i_1→∀x,ac[j]?=some x→(uO x==s)=false):=hok
  obtain⟨iX,bN⟩:=hok
  rcases aK (decide (((i_1:Nat):Int)<((ac.length:Nat):Int))) with bD|bD
  ·
   have gM:=of_decide_eq_true bD
   obtain⟨e3,gY⟩:=lC ac i_1 (by first|omega|(simp;omega))
   have iI:=(ha e3 (List.mem_of_getElem? gY))
   obtain⟨EB,jI,ku,nO,rfl,mO,kU,mP,jR,ac3,V0⟩:=T.bP iI
   rcases aK ((EB==s)) with kC|kC
   ·
    have vJ:=eq_of_beq kC
    refine kO ah ai [oB bD,oE gY,oB kC,oC (bf Pn (x:=.sl jI) (.bl _ (by first|assumption|omega|(simp;done)|(simp;omega)) kU)),oC (bf Pn (x:=.sl ku) (.bl _ (by first|assumption|omega|(simp;done)|(simp;omega)) jR)),oC (bf Nq (x:=.sl nO) (.dW _ (by first|assumption|omega|(simp;done)|(simp;omega)) V0))] (by kernel_rfl) ?_
    have hres:cr Mm s ac=(.agg [.str EB,.sl jI,.sl ku,.sl nO],0):=qu (Dj bN gY kC)
    show ∃_:Unit,KE (cf m) (cB (cf m) _ 0 (.ret (.t (.bX [(cr Mm s ac).1,.int .i64 (cr Mm s ac).2])) [] [])) _ _ _
    rw[hres]
    exact⟨(),kF ah ai [] (by kernel_rfl)⟩
   ·
    have vJ:=ne_of_beq_false kC
    exact⟨.inl ⟨i_1+1,⟨⟨(by show(i_1+1)≤ac.length;omega),(JK bN gY kC)⟩,(by show(ac.length - (i_1+1))<(ac.length - i_1);omega)⟩⟩,bB (f:=0) (n:=3000) (once:=[]) (k:=34) (T:=1) (S:=[.loc [0]]) (ks:=[.loc [0]]) (live:=[1,4,9,10,11]) ah ai [oB bD,oE gY,oB kC,oI (i_1) (by omega)] (by kernel_rfl)⟩
  ·
   have gM:=of_decide_eq_false bD
   refine kO ah ai [oB bD] (by kernel_rfl) ?_
   have hres:cr Mm s ac=(.agg [.str [],.sl [],.sl [],.sl []],9):=qv (Dk (fun j hj=>bN j (by omega)))
   show ∃_:Unit,KE (cf m) (cB (cf m) _ 0 (.ret (.t (.bX [(cr Mm s ac).1,.int .i64 (cr Mm s ac).2])) [] [])) _ _ _
   rw[hres]
   exact⟨(),kF ah ai [] (by kernel_rfl)⟩
end
end Go.Proofs.YtijfhoelihclbaaGreatDoor.w.e
