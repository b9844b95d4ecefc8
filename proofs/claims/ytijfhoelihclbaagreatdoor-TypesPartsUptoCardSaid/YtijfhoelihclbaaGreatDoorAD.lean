/- Names of a schema: known, twice. -/
import Derived.Test.YtijfhoelihclbaaGreatDoorAC
import Derived.Test.YtijfhoelihclbaaGreatDoorS
import Derived.Test.YtijfhoelihclbaaGreatDoorG
namespace Go.Proofs.YtijfhoelihclbaaGreatDoor.w.e
open Go Go.Abs Go.Abs.Ty
set_option linter.unusedVariables false
set_option maxRecDepth 100000
set_option maxHeartbeats 2000000
noncomputable section
abbrev ti3:TI:={size:=1,bytes:=8,agg:=false,zero:=some (.t (.int .i64 0)),desc:=.int .i64}
theorem ty3 {m:Int}:(cf m).P.ty 3=some ti3:=by kernel_rfl
abbrev afo:TI:={size:=1,bytes:=8,agg:=false,zero:=some (.t .gN),desc:=.map 9 3}
theorem On {m:Int}:(cf m).P.ty 134=some afo:=by kernel_rfl
theorem ko9 {m:Int}(b:Bool)(s:List UInt8):s8 (cf m).P b 9 (.t (.str s))=true:=by cases b<;>kernel_rfl
theorem abA (m:Int)(s:List UInt8)(e:Tree)(he:T .aG e):∃r:Bool,ay (cf m) 111 (.t e::[.ptr (.arg 0) 0]) [.cells 9 [.t (.str s)]] (.ret (.t (.bool r)) [.cells 9 [.t (.str s)]] []):=by
 have bY:=he
 obtain⟨mJ,jS,jb,rfl,dY,bh,ji,dD⟩:=T.bu bY
 obtain⟨ev,ai⟩:∃ev,aF (cf m) ev:=⟨_,aH⟩
 refine AX.start 8 2 Tryz.func111 rfl (by decide) rfl rfl (by decide) ?_
 refine AX.frames ?_
 exact⟨(mJ==s),kF ah ai [] (by kernel_rfl)⟩
theorem abB (m:Int)(s:List UInt8):∃q:Tree→Bool,∀e,T .aG e→RK (cf m) 111 [.ptr (.arg 0) 0] [.cells 9 [.t (.str s)]] e (.bool (q e)):=dQ (P:=T .aG) (Q:=fun e r=>RK (cf m) 111 [.ptr (.arg 0) 0] [.cells 9 [.t (.str s)]] e (.bool r)) fun e he=>abA m s e he
theorem abC (m:Int)(s:List UInt8)(q:Tree→Bool)(hq:∀e,T .aG e→RK (cf m) 111 [.ptr (.arg 0) 0] [.cells 9 [.t (.str s)]] e (.bool (q e)))(l:List Tree)(hl:l.length≤4194304)(hl2:∀y∈l,T .aG y):∃r:Int,ay (cf m) 74 (.t (.sl l)::[.fn (.func 111) [] [.ptr (.arg 0) 0]]) [.cells 9 [.t (.str s)]] (.ret (.t (.int .i64 r)) [.cells 9 [.t (.str s)]] []):=by
  obtain⟨ev,ai,e_q⟩:∃ev,aF (cf m) ev∧Has ev 111 (pk [.ptr (.arg 0) 0] [.cells 9 [.t (.str s)]] (T .aG) fun x=>.bool (q x)):=⟨_,(ax (Ft hq) aH),az⟩
  refine AX.start 19 2 Tryz.func74 rfl (by decide) rfl rfl (by decide) ?_
  refine AX.frames ?_
  refine eF (f:=0) (n:=3000) (once:=[]) (k:=19) (T:=0) (S:=[]) (ks:=[.arg 0]) (live:=[0,1,7,8]) ah ai (α:=Nat) (fun x=>⟨bX 19 [(0,.t (.sl l)),(1,.fn (.func 111) [] [.ptr (.arg 0) 0]),(7,.t (.int .i64 ((l.length:Nat):Int))),(8,.t (.int .i64 ((x:Nat):Int)))],[(.arg 0,.cells 9 [.t (.str s)])],0⟩) (fun x=>(x≤l.length)) (fun x=>l.length - x) 0 (iF (Tryz.f74.body.getD .skip) 2) [] (by kernel_rfl) (by show(0≤l.length);first|trivial|omega|(refine⟨?_, ?_⟩<;>first|omega|exact SM.nil)|simp) (fun x hok=> ?_)
  obtain⟨i_1,k3⟩:∃y,y=x:=⟨x,rfl⟩
  subst k3
  replace hok:(i_1≤l.length):=hok
  have jR:=hok
  rcases aL (decide (((i_1:Nat):Int)<((l.length:Nat):Int))) with bE|bE
  ·
   have gR:=of_decide_eq_true bE
   obtain⟨e3,iD⟩:=ou l i_1 (by first|omega|(simp;omega))
   have jw:=(hl2 e3 (List.mem_of_getElem? iD))
   obtain⟨gU,gW,iw,rfl,qI,nI,qJ,lN⟩:=T.bu jw
   rcases aL ((q (.agg [.str gU,.sl gW,.sl iw]))) with jX|jX
   ·
    refine kO ah ai [oB bE,oE iD,oC (Af e_q (x:=.agg [.str gU,.sl gW,.sl iw]) jw),oB jX] (by kernel_rfl) ?_
    exact⟨((i_1:Nat):Int),kF ah ai [] (by kernel_rfl)⟩
   ·
    exact⟨.inl ⟨i_1+1,⟨(by show(i_1+1)≤l.length;omega),(by show(l.length - (i_1+1))<(l.length - i_1);omega)⟩⟩,bS (f:=0) (n:=3000) (once:=[]) (k:=19) (T:=0) (S:=[]) (ks:=[.arg 0]) (live:=[0,1,7,8]) ah ai [oB bE,oE iD,oC (Af e_q (x:=.agg [.str gU,.sl gW,.sl iw]) jw),oB jX,oI (i_1) (by omega)] (by kernel_rfl)⟩
  ·
   have gR:=of_decide_eq_false bE
   refine kO ah ai [oB bE] (by kernel_rfl) ?_
   exact⟨-1,kF ah ai [] (by kernel_rfl)⟩
theorem abD (m:Int)(s:List UInt8)(q:Tree→Bool)(hq:∀e,T .aG e→RK (cf m) 111 [.ptr (.arg 0) 0] [.cells 9 [.t (.str s)]] e (.bool (q e)))(l:List Tree)(hl:l.length≤4194304)(hl2:∀y∈l,T .aG y):∃r:Bool,ay (cf m) 31 (.t (.sl l)::[.fn (.func 111) [] [.ptr (.arg 0) 0]]) [.cells 9 [.t (.str s)]] (.ret (.t (.bool r)) [.cells 9 [.t (.str s)]] []):=by
 obtain⟨ri,hri⟩:=abC m s q hq l hl hl2
 obtain⟨ev,ai,abE⟩:∃ev,aF (cf m) ev∧Has ev 74 (px (.t (.sl l)::[.fn (.func 111) [] [.ptr (.arg 0) 0]]) [.cells 9 [.t (.str s)]] (.ret (.t (.int .i64 ri)) [.cells 9 [.t (.str s)]] [])):=⟨_,(ax (kV hri) aH),az⟩
 refine AX.start 9 2 Tryz.func31 rfl (by decide) rfl rfl (by decide) ?_
 refine AX.frames ?_
 exact⟨decide (ri≥0),kF ah ai [oC (lX abE)] (by kernel_rfl)⟩
theorem DG (m:Int):∃F:Tree→Tree→Bool,∀x y,(T .bI x∧T .string y)→R2 (cf m) 76 x y (.bool (F x y))∧(True):=by
 refine sL (P:=fun x y=>T .bI x∧T .string y) (mk:=fun(r:Bool)=>.bool r) (Post:=fun x y r=>True) fun x y hx=> ?_
 obtain⟨hx,hy⟩:=hx
 show ∃r:{r:Bool // True},ay (cf m) 76 [.t x,.t y] [] (.ret (.t (.bool r.1)) [] [])
 have bY:=hx
 obtain⟨aP,aN,rfl,dY,bh,ji,dD⟩:=T.pH bY
 have Bv:=hy
 obtain⟨v_2,rfl⟩:=T.cT Bv
 obtain⟨qa,hqa⟩:=abB m v_2
 obtain⟨ra,hra⟩:=abD m v_2 qa hqa aP (by first|assumption|omega|(simp;done)|(simp;omega)) bh
 obtain⟨ev,ai,abF⟩:∃ev,aF (cf m) ev∧Has ev 31 (px (.t (.sl aP)::[.fn (.func 111) [] [.ptr (.arg 0) 0]]) [.cells 9 [.t (.str v_2)]] (.ret (.t (.bool ra)) [.cells 9 [.t (.str v_2)]] [])):=⟨_,(ax (kV hra) aH),az⟩
 refine AX.start 10 2 Tryz.func76 rfl (by decide) rfl rfl (by decide) ?_
 refine AX.frames ?_
 refine⟨⟨ra, ?_⟩,kF ah ai [oC (lX abF)] (by kernel_rfl)⟩
 trivial
theorem UE (m:Int):∃F:Tree→List UInt8,∀x,(T .aG x)→R1 (cf m) 34 x (.str (F x))∧(True):=by
 refine vz (P:=fun x=>T .aG x) (mk:=fun(r:List UInt8)=>.str r) (Post:=fun x r=>True) fun x hx=> ?_
 show ∃r:{r:List UInt8 // True},ay (cf m) 34 [.t x] [] (.ret (.t (.str r.1)) [] [])
 have bY:=hx
 obtain⟨mJ,jS,jb,rfl,dY,bh,ji,dD⟩:=T.bu bY
 obtain⟨ev,ai⟩:∃ev,aF (cf m) ev:=⟨_,aH⟩
 refine AX.start 5 1 Tryz.func34 rfl (by decide) rfl rfl (by decide) ?_
 refine AX.frames ?_
 refine⟨⟨mJ, ?_⟩,kF ah ai [] (by kernel_rfl)⟩
 trivial
theorem UF (m:Int):∃F:Tree→List UInt8,∀x,(T .aZ x)→R1 (cf m) 36 x (.str (F x))∧(True):=by
 refine vz (P:=fun x=>T .aZ x) (mk:=fun(r:List UInt8)=>.str r) (Post:=fun x r=>True) fun x hx=> ?_
 show ∃r:{r:List UInt8 // True},ay (cf m) 36 [.t x] [] (.ret (.t (.str r.1)) [] [])
 have bY:=hx
 obtain⟨pP,gq,iM,fG,rfl,dY,bh,ji,dD,MB,wV⟩:=T.eM bY
 obtain⟨ev,ai⟩:∃ev,aF (cf m) ev:=⟨_,aH⟩
 refine AX.start 5 1 Tryz.func36 rfl (by decide) rfl rfl (by decide) ?_
 refine AX.frames ?_
 refine⟨⟨pP, ?_⟩,kF ah ai [] (by kernel_rfl)⟩
 trivial
theorem UG (m:Int):∃F:Tree→Tree→Bool,∀x y,(T .aU x∧y=.fn (.func 34))→R2 (cf m) 33 x y (.bool (F x y))∧(True):=by
  refine sL (P:=fun x y=>T .aU x∧y=.fn (.func 34)) (mk:=fun(r:Bool)=>.bool r) (Post:=fun x y r=>True) fun x y hx=> ?_
  obtain⟨hx,hy⟩:=hx
  show ∃r:{r:Bool // True},ay (cf m) 33 [.t x,.t y] [] (.ret (.t (.bool r.1)) [] [])
  have bY:=hx
  obtain⟨v_1,rfl,dY,bh⟩:=T.iZ bY
  subst hy
  obtain⟨UH,afp⟩:=UE m
  obtain⟨ev,ai,afq⟩:∃ev,aF (cf m) ev∧Has ev 34 (kY (fun x=>T .aG x) (fun x=>.str (UH x))):=⟨_,(ax (bD (fun x h=>(afp x h).1)) aH),az⟩
  refine AX.start 27 2 Tryz.func33 rfl (by decide) rfl rfl (by decide) ?_
  refine AX.frames ?_
  refine eF (f:=0) (n:=3000) (once:=[]) (k:=27) (T:=1) (S:=[.loc [1]]) (ks:=[.loc [1]]) (live:=[0,1,5,9,10,11]) ah ai (α:=Nat×List (TV×TV×Nat)×Nat) (fun x=>⟨bX 27 [(0,.t (.sl v_1)),(1,.t (.fn (.func 34))),(5,.map (.loc [0])),(9,.t (.sl v_1)),(10,.t (.int .i64 ((v_1.length:Nat):Int))),(11,.t (.int .i64 ((x.1:Nat):Int)))],[(.loc [0],.map x.2.1 x.2.2)],1⟩) (fun x=>(x.1≤v_1.length)∧(SM x.2.1)) (fun x=>v_1.length - x.1) (⟨0,[],0⟩) (iF (Tryz.f33.body.getD .skip) 3) [oN (o:=.map [] 0) (fun _=>GP SM.nil)] (by kernel_rfl) (by show(0≤v_1.length)∧(SM []);first|trivial|omega|(refine⟨?_, ?_⟩<;>first|omega|exact SM.nil)|simp) (fun x hok=> ?_)
  obtain⟨i_2,UI,abG⟩:=x
  replace hok:(i_2≤v_1.length)∧(SM UI):=hok
  obtain⟨nQ,iq⟩:=hok
  rcases aL (decide (((i_2:Nat):Int)<((v_1.length:Nat):Int))) with bF|bF
  ·
   have kH:=of_decide_eq_true bF
   obtain⟨e4,pW⟩:=ou v_1 i_2 (by first|omega|(simp;omega))
   have kn:=(bh e4 (List.mem_of_getElem? pW))
   obtain⟨mK,gG,jT,rfl,DI,DJ,DK,DL⟩:=T.bu kn
   obtain⟨lk6,abH⟩:=Jp (P:=(cf m).P) (s:=(UH (.agg [.str mK,.sl gG,.sl jT]))) On rfl j9 rfl ty3 rfl (fun b=>ko9 b _) iq
   obtain⟨Kb,Kc,Ke,abI⟩:=NK (P:=(cf m).P) (s:=(UH (.agg [.str mK,.sl gG,.sl jT]))) (v:=(IntKind.wrap .i64 (lk6+1))) On rfl j9 rfl (fun b=>ko9 b _) iq abG
   exact⟨.inl ⟨⟨i_2+1,Kb,Kc⟩,⟨⟨(by show(i_2+1)≤v_1.length;omega),Ke⟩,(by show(v_1.length - (i_2+1))<(v_1.length - i_2);omega)⟩⟩,bS (f:=0) (n:=3000) (once:=[]) (k:=27) (T:=1) (S:=[.loc [0]]) (ks:=[.loc [0]]) (live:=[0,1,5,9,10,11]) ah ai [oB bF,oE pW,oC (bk afq (x:=.agg [.str mK,.sl gG,.sl jT]) kn),oO abH,oZ,oM abI,oI (i_2) (by omega),oN (o:=.map Kb Kc) (fun _=>GP Ke)] (by kernel_rfl)⟩
  ·
   have kH:=of_decide_eq_false bF
   refine kO ah ai [oB bF] (by kernel_rfl) ?_
   refine⟨⟨decide (((UI.length:Nat):Int)<((v_1.length:Nat):Int)), ?_⟩,kF ah ai [] (by kernel_rfl)⟩
   trivial
theorem UJ (m:Int):∃F:Tree→Tree→Bool,∀x y,(T .bP x∧y=.fn (.func 36))→R2 (cf m) 35 x y (.bool (F x y))∧(True):=by
  refine sL (P:=fun x y=>T .bP x∧y=.fn (.func 36)) (mk:=fun(r:Bool)=>.bool r) (Post:=fun x y r=>True) fun x y hx=> ?_
  obtain⟨hx,hy⟩:=hx
  show ∃r:{r:Bool // True},ay (cf m) 35 [.t x,.t y] [] (.ret (.t (.bool r.1)) [] [])
  have bY:=hx
  obtain⟨v_1,rfl,dY,bh⟩:=T.lG bY
  subst hy
  obtain⟨UK,afr⟩:=UF m
  obtain⟨ev,ai,afs⟩:∃ev,aF (cf m) ev∧Has ev 36 (kY (fun x=>T .aZ x) (fun x=>.str (UK x))):=⟨_,(ax (bD (fun x h=>(afr x h).1)) aH),az⟩
  refine AX.start 27 2 Tryz.func35 rfl (by decide) rfl rfl (by decide) ?_
  refine AX.frames ?_
  refine eF (f:=0) (n:=3000) (once:=[]) (k:=27) (T:=1) (S:=[.loc [1]]) (ks:=[.loc [1]]) (live:=[0,1,5,9,10,11]) ah ai (α:=Nat×List (TV×TV×Nat)×Nat) (fun x=>⟨bX 27 [(0,.t (.sl v_1)),(1,.t (.fn (.func 36))),(5,.map (.loc [0])),(9,.t (.sl v_1)),(10,.t (.int .i64 ((v_1.length:Nat):Int))),(11,.t (.int .i64 ((x.1:Nat):Int)))],[(.loc [0],.map x.2.1 x.2.2)],1⟩) (fun x=>(x.1≤v_1.length)∧(SM x.2.1)) (fun x=>v_1.length - x.1) (⟨0,[],0⟩) (iF (Tryz.f35.body.getD .skip) 3) [oN (o:=.map [] 0) (fun _=>GP SM.nil)] (by kernel_rfl) (by show(0≤v_1.length)∧(SM []);first|trivial|omega|(refine⟨?_, ?_⟩<;>first|omega|exact SM.nil)|simp) (fun x hok=> ?_)
  obtain⟨i_2,UI,abG⟩:=x
  replace hok:(i_2≤v_1.length)∧(SM UI):=hok
  obtain⟨nQ,iq⟩:=hok
  rcases aL (decide (((i_2:Nat):Int)<((v_1.length:Nat):Int))) with bF|bF
  ·
   have kH:=of_decide_eq_true bF
   obtain⟨e4,pW⟩:=ou v_1 i_2 (by first|omega|(simp;omega))
   have kn:=(bh e4 (List.mem_of_getElem? pW))
   obtain⟨tA,ez,eZ,gX,rfl,DI,DJ,DK,DL,UL,UM⟩:=T.eM kn
   obtain⟨lk6,abH⟩:=Jp (P:=(cf m).P) (s:=(UK (.agg [.str tA,.sl ez,.sl eZ,.sl gX]))) On rfl j9 rfl ty3 rfl (fun b=>ko9 b _) iq
   obtain⟨Kb,Kc,Ke,abI⟩:=NK (P:=(cf m).P) (s:=(UK (.agg [.str tA,.sl ez,.sl eZ,.sl gX]))) (v:=(IntKind.wrap .i64 (lk6+1))) On rfl j9 rfl (fun b=>ko9 b _) iq abG
   exact⟨.inl ⟨⟨i_2+1,Kb,Kc⟩,⟨⟨(by show(i_2+1)≤v_1.length;omega),Ke⟩,(by show(v_1.length - (i_2+1))<(v_1.length - i_2);omega)⟩⟩,bS (f:=0) (n:=3000) (once:=[]) (k:=27) (T:=1) (S:=[.loc [0]]) (ks:=[.loc [0]]) (live:=[0,1,5,9,10,11]) ah ai [oB bF,oE pW,oC (bk afs (x:=.agg [.str tA,.sl ez,.sl eZ,.sl gX]) kn),oO abH,oZ,oM abI,oI (i_2) (by omega),oN (o:=.map Kb Kc) (fun _=>GP Ke)] (by kernel_rfl)⟩
  ·
   have kH:=of_decide_eq_false bF
   refine kO ah ai [oB bF] (by kernel_rfl) ?_
   refine⟨⟨decide (((UI.length:Nat):Int)<((v_1.length:Nat):Int)), ?_⟩,kF ah ai [] (by kernel_rfl)⟩
   trivial
end
end Go.Proofs.YtijfhoelihclbaaGreatDoor.w.e

namespace Go.Proofs.YtijfhoelihclbaaGreatDoor.w.e
open Go Go.Abs Go.Abs.Ty
set_option linter.unusedVariables false
set_option maxRecDepth 100000
set_option maxHeartbeats 2000000
noncomputable section
theorem abJ (m:Int)(ts ac:List Tree)(lt:ts.length≤4194304)(ht:∀y∈ts,T .aG y)(la:ac.length≤4194304)(ha:∀y∈ac,T .aZ y)(e:Tree)(he:T .string e):∃r:Bool,ay (cf m) 78 (.t e::[.ptr (.arg 0) 0]) [.cells 79 [.t (.sl ts),.t (.sl ac)]] (.ret (.t (.bool r)) [.cells 79 [.t (.sl ts),.t (.sl ac)]] []):=by
 have bY:=he
 obtain⟨v_1,rfl⟩:=T.cT bY
 obtain⟨zc,HE⟩:=DG m
 obtain⟨ev,ai,BT⟩:∃ev,aF (cf m) ev∧Has ev 76 (rD (fun x y=>T .bI x∧T .string y) (fun x y=>.bool (zc x y))):=⟨_,(ax (dn (fun x y h=>(HE x y h).1)) aH),az⟩
 refine AX.start 8 2 Tryz.func78 rfl (by decide) rfl rfl (by decide) ?_
 refine AX.frames ?_
 exact⟨(!(zc (.agg [.sl ts,.sl ac]) (.str v_1))),kF ah ai [oC (dr BT (x:=.agg [.sl ts,.sl ac]) (y:=.str v_1) ⟨(.bI _ _ (by first|assumption|omega|(simp;done)|(simp;omega)) ht (by first|assumption|omega|(simp;done)|(simp;omega)) ha),bY⟩)] (by kernel_rfl)⟩
theorem abK (m:Int)(ts ac:List Tree)(lt:ts.length≤4194304)(ht:∀y∈ts,T .aG y)(la:ac.length≤4194304)(ha:∀y∈ac,T .aZ y):∃q:Tree→Bool,∀e,T .string e→RK (cf m) 78 [.ptr (.arg 0) 0] [.cells 79 [.t (.sl ts),.t (.sl ac)]] e (.bool (q e)):=dQ (P:=T .string) (Q:=fun e r=>RK (cf m) 78 [.ptr (.arg 0) 0] [.cells 79 [.t (.sl ts),.t (.sl ac)]] e (.bool r)) fun e he=>abJ m ts ac lt ht la ha e he
theorem abL (m:Int)(ts ac:List Tree)(lt:ts.length≤4194304)(ht:∀y∈ts,T .aG y)(la:ac.length≤4194304)(ha:∀y∈ac,T .aZ y)(q:Tree→Bool)(hq:∀e,T .string e→RK (cf m) 78 [.ptr (.arg 0) 0] [.cells 79 [.t (.sl ts),.t (.sl ac)]] e (.bool (q e)))(l:List Tree)(hl:l.length≤4194304)(hl2:∀y∈l,T .string y):∃r:Int,ay (cf m) 112 (.t (.sl l)::[.fn (.func 78) [] [.ptr (.arg 0) 0]]) [.cells 79 [.t (.sl ts),.t (.sl ac)]] (.ret (.t (.int .i64 r)) [.cells 79 [.t (.sl ts),.t (.sl ac)]] []):=by
  obtain⟨ev,ai,e_q⟩:∃ev,aF (cf m) ev∧Has ev 78 (pk [.ptr (.arg 0) 0] [.cells 79 [.t (.sl ts),.t (.sl ac)]] (T .string) fun x=>.bool (q x)):=⟨_,(ax (Ft hq) aH),az⟩
  refine AX.start 19 2 Tryz.func112 rfl (by decide) rfl rfl (by decide) ?_
  refine AX.frames ?_
  refine eF (f:=0) (n:=3000) (once:=[]) (k:=19) (T:=0) (S:=[]) (ks:=[.arg 0]) (live:=[0,1,7,8]) ah ai (α:=Nat) (fun x=>⟨bX 19 [(0,.t (.sl l)),(1,.fn (.func 78) [] [.ptr (.arg 0) 0]),(7,.t (.int .i64 ((l.length:Nat):Int))),(8,.t (.int .i64 ((x:Nat):Int)))],[(.arg 0,.cells 79 [.t (.sl ts),.t (.sl ac)])],0⟩) (fun x=>(x≤l.length)) (fun x=>l.length - x) 0 (iF (Tryz.f112.body.getD .skip) 2) [] (by kernel_rfl) (by show(0≤l.length);first|trivial|omega|(refine⟨?_, ?_⟩<;>first|omega|exact SM.nil)|simp) (fun x hok=> ?_)
  obtain⟨i_1,k3⟩:∃y,y=x:=⟨x,rfl⟩
  subst k3
  replace hok:(i_1≤l.length):=hok
  have jR:=hok
  rcases aL (decide (((i_1:Nat):Int)<((l.length:Nat):Int))) with bE|bE
  ·
   have gR:=of_decide_eq_true bE
   obtain⟨e3,iD⟩:=ou l i_1 (by first|omega|(simp;omega))
   have jw:=(hl2 e3 (List.mem_of_getElem? iD))
   obtain⟨v_4,rfl⟩:=T.cT jw
   rcases aL ((q (.str v_4))) with jX|jX
   ·
    refine kO ah ai [oB bE,oE iD,oC (Af e_q (x:=.str v_4) jw),oB jX] (by kernel_rfl) ?_
    exact⟨((i_1:Nat):Int),kF ah ai [] (by kernel_rfl)⟩
   ·
    exact⟨.inl ⟨i_1+1,⟨(by show(i_1+1)≤l.length;omega),(by show(l.length - (i_1+1))<(l.length - i_1);omega)⟩⟩,bS (f:=0) (n:=3000) (once:=[]) (k:=19) (T:=0) (S:=[]) (ks:=[.arg 0]) (live:=[0,1,7,8]) ah ai [oB bE,oE iD,oC (Af e_q (x:=.str v_4) jw),oB jX,oI (i_1) (by omega)] (by kernel_rfl)⟩
  ·
   have gR:=of_decide_eq_false bE
   refine kO ah ai [oB bE] (by kernel_rfl) ?_
   exact⟨-1,kF ah ai [] (by kernel_rfl)⟩
theorem abM (m:Int)(ts ac:List Tree)(lt:ts.length≤4194304)(ht:∀y∈ts,T .aG y)(la:ac.length≤4194304)(ha:∀y∈ac,T .aZ y)(q:Tree→Bool)(hq:∀e,T .string e→RK (cf m) 78 [.ptr (.arg 0) 0] [.cells 79 [.t (.sl ts),.t (.sl ac)]] e (.bool (q e)))(l:List Tree)(hl:l.length≤4194304)(hl2:∀y∈l,T .string y):∃r:Bool,ay (cf m) 77 (.t (.sl l)::[.fn (.func 78) [] [.ptr (.arg 0) 0]]) [.cells 79 [.t (.sl ts),.t (.sl ac)]] (.ret (.t (.bool r)) [.cells 79 [.t (.sl ts),.t (.sl ac)]] []):=by
 obtain⟨ri,hri⟩:=abL m ts ac lt ht la ha q hq l hl hl2
 obtain⟨ev,ai,abE⟩:∃ev,aF (cf m) ev∧Has ev 112 (px (.t (.sl l)::[.fn (.func 78) [] [.ptr (.arg 0) 0]]) [.cells 79 [.t (.sl ts),.t (.sl ac)]] (.ret (.t (.int .i64 ri)) [.cells 79 [.t (.sl ts),.t (.sl ac)]] [])):=⟨_,(ax (kV hri) aH),az⟩
 refine AX.start 9 2 Tryz.func77 rfl (by decide) rfl rfl (by decide) ?_
 refine AX.frames ?_
 exact⟨decide (ri≥0),kF ah ai [oC (lX abE)] (by kernel_rfl)⟩
theorem zf (m:Int):∃F:Tree→Tree→Bool,∀x y,(T .bI x∧T .aY y)→R2 (cf m) 44 x y (.bool (F x y))∧(True):=by
 refine sL (P:=fun x y=>T .bI x∧T .aY y) (mk:=fun(r:Bool)=>.bool r) (Post:=fun x y r=>True) fun x y hx=> ?_
 obtain⟨hx,hy⟩:=hx
 show ∃r:{r:Bool // True},ay (cf m) 44 [.t x,.t y] [] (.ret (.t (.bool r.1)) [] [])
 have bY:=hx
 obtain⟨aP,aN,rfl,dY,bh,ji,dD⟩:=T.pH bY
 have Bv:=hy
 obtain⟨v_2,rfl,abN,DM⟩:=T.ij Bv
 obtain⟨qa,hqa⟩:=abK m aP aN (by first|assumption|omega|(simp;done)|(simp;omega)) bh (by first|assumption|omega|(simp;done)|(simp;omega)) dD
 obtain⟨ra,hra⟩:=abM m aP aN (by first|assumption|omega|(simp;done)|(simp;omega)) bh (by first|assumption|omega|(simp;done)|(simp;omega)) dD qa hqa v_2 (by first|assumption|omega|(simp;done)|(simp;omega)) DM
 obtain⟨ev,ai,abF⟩:∃ev,aF (cf m) ev∧Has ev 77 (px (.t (.sl v_2)::[.fn (.func 78) [] [.ptr (.arg 0) 0]]) [.cells 79 [.t (.sl aP),.t (.sl aN)]] (.ret (.t (.bool ra)) [.cells 79 [.t (.sl aP),.t (.sl aN)]] [])):=⟨_,(ax (kV hra) aH),az⟩
 refine AX.start 8 2 Tryz.func44 rfl (by decide) rfl rfl (by decide) ?_
 refine AX.frames ?_
 refine⟨⟨ra, ?_⟩,kF ah ai [oC (lX abF)] (by kernel_rfl)⟩
 trivial
def QZ:Tree→Tree
 |.agg (_::r)=>.agg r
 |x=>x
def ajE:Tree→List Tree
 |.agg [_,_,.sl l,_]=>l
 |_=>[]
def ajF:Tree→List Tree
 |.agg [_,_,_,.sl l]=>l
 |_=>[]
theorem Qv (m:Int)(b:Tree)(hb:T .bI b)(x:Tree)(hx:T .aB x)(fW:Tree→Int)(hW:∀y,(y∈ajE x∨∃a∈ajF x,y=QZ a)→R2 (cf m) 43 b y (.int .i64 (fW y))):∃r:Int,ay (cf m) 43 [.t b,.t x] [] (.ret (.t (.int .i64 r)) [] []):=by
  have bY:=hb
  obtain⟨aP,aN,rfl,dY,bh,ji,dD⟩:=T.pH bY
  have Bv:=hx
  obtain⟨DN,wW,fC,cm,rfl,abN,DM,ajG,MC⟩:=T.aT Bv
  obtain⟨zc,HE⟩:=DG m
  obtain⟨ev,ai,BT,e_self⟩:∃ev,aF (cf m) ev∧Has ev 76 (rD (fun x y=>T .bI x∧T .string y) (fun x y=>.bool (zc x y)))∧Has ev 43 (rD (fun x y=>x=(.agg [.sl aP,.sl aN])∧(y∈fC∨∃a∈cm,y=QZ a)) fun _ y=>.int .i64 (fW y)):=⟨_,(ax (dn (fun x y h=>(HE x y h).1)) (ax (dn fun x y h=>by obtain⟨e,h⟩:=h;rw[e];exact hW y h) aH)),az,(aq rfl az)⟩
  refine AX.start 60 2 Tryz.func43 rfl (by decide) rfl rfl (by decide) ?_
  refine AX.frames ?_
  rcases aL ((DN==0)) with bF|bF
  ·
   have kH:=eq_of_beq bF
   exact⟨7,kF ah ai [oB bF] (by kernel_rfl)⟩
  ·
   have kH:=ne_of_beq_false bF
   rcases aL ((DN==4)) with hg4|hg4
   ·
    have Ml:=eq_of_beq hg4
    rcases aL ((!(wW==[65,99,116,105,111,110]))) with bw|bw
    ·
     have He:=ne_of_beq_false (eT bw)
     rcases aL ((!(zc (.agg [.sl aP,.sl aN]) (.str wW)))) with qu|qu
     ·
      exact⟨9,kF ah ai [oB bF,oB hg4,oB hg4,oB hg4,oB hg4,oB bw,oB bw,oB bw,oB bw,oC (dr BT (x:=.agg [.sl aP,.sl aN]) (y:=.str wW) ⟨bY,(.string _)⟩),oB bw,oB bw,oB qu] (by kernel_rfl)⟩
     ·
      refine eF (f:=0) (n:=3000) (once:=[]) (k:=60) (T:=2) (S:=[.loc [0],.loc [1]]) (ks:=[.loc [0],.loc [1]]) (live:=[2,3,32,33,34]) ah ai (α:=Nat) (fun x=>⟨bX 60 [(2,.ptr (.loc [0]) 0),(3,.ptr (.loc [1]) 0),(32,.t (.sl fC)),(33,.t (.int .i64 ((fC.length:Nat):Int))),(34,.t (.int .i64 ((x:Nat):Int)))],[(.loc [0],.cells 79 [.t (.sl aP),.t (.sl aN)]),(.loc [1],.cells 38 [.t (.int .u8 DN),.t (.str wW),.t (.sl fC),.t (.sl cm)])],2⟩) (fun x=>(x≤fC.length)) (fun x=>fC.length - x) 0 (iF (Tryz.f43.body.getD .skip) 6) [oB bF,oB hg4,oB hg4,oB hg4,oB hg4,oB bw,oB bw,oB bw,oB bw,oC (dr BT (x:=.agg [.sl aP,.sl aN]) (y:=.str wW) ⟨bY,(.string _)⟩),oB bw,oB bw,oB qu] (by kernel_rfl) (by show(0≤fC.length);first|trivial|omega|(refine⟨?_, ?_⟩<;>first|omega|exact SM.nil)|simp) (fun x hok=> ?_)
      obtain⟨Hr,k3⟩:∃y,y=x:=⟨x,rfl⟩
      subst k3
      replace hok:(Hr≤fC.length):=hok
      have XN:=hok
      rcases aL (decide (((Hr:Nat):Int)<((fC.length:Nat):Int))) with fF|fF
      ·
       have wH:=of_decide_eq_true fF
       obtain⟨e9,XO⟩:=ou fC Hr (by first|omega|(simp;omega))
       have DO:=(DM e9 (List.mem_of_getElem? XO))
       obtain⟨sU,qx,wX,pS,rfl,Oo,Oq,Ot,Ou⟩:=T.aT DO
       rcases aL (((fW (.agg [.int .u8 sU,.str qx,.sl wX,.sl pS])) != 0)) with cN|cN
       ·
        have yH:=aA cN
        refine kO ah ai [oB fF,oE XO,oC (dr e_self (x:=.agg [.sl aP,.sl aN]) (y:=.agg [.int .u8 sU,.str qx,.sl wX,.sl pS]) ⟨rfl,.inl (List.mem_of_getElem? XO)⟩),oB cN] (by kernel_rfl) ?_
        exact⟨(fW (.agg [.int .u8 sU,.str qx,.sl wX,.sl pS])),kF ah ai [] (by kernel_rfl)⟩
       ·
        have yH:=av cN
        exact⟨.inl ⟨Hr+1,⟨(by show(Hr+1)≤fC.length;omega),(by show(fC.length - (Hr+1))<(fC.length - Hr);omega)⟩⟩,bS (f:=0) (n:=3000) (once:=[]) (k:=60) (T:=2) (S:=[.loc [0],.loc [1]]) (ks:=[.loc [0],.loc [1]]) (live:=[2,3,32,33,34]) ah ai [oB fF,oE XO,oC (dr e_self (x:=.agg [.sl aP,.sl aN]) (y:=.agg [.int .u8 sU,.str qx,.sl wX,.sl pS]) ⟨rfl,.inl (List.mem_of_getElem? XO)⟩),oB cN,oI (Hr) (by omega)] (by kernel_rfl)⟩
      ·
       have wH:=of_decide_eq_false fF
       refine kO ah ai [oB fF] (by kernel_rfl) ?_
       refine eF (f:=0) (n:=3000) (once:=[]) (k:=60) (T:=1) (S:=[.loc [0]]) (ks:=[.loc [0]]) (live:=[2,46,47,48]) ah ai (α:=Nat) (fun x=>⟨bX 60 [(2,.ptr (.loc [0]) 0),(46,.t (.sl cm)),(47,.t (.int .i64 ((cm.length:Nat):Int))),(48,.t (.int .i64 ((x:Nat):Int)))],[(.loc [0],.cells 79 [.t (.sl aP),.t (.sl aN)])],1⟩) (fun x=>(x≤cm.length)) (fun x=>cm.length - x) 0 (iF (Tryz.f43.body.getD .skip) 13) [] (by kernel_rfl) (by show(0≤cm.length);first|trivial|omega|(refine⟨?_, ?_⟩<;>first|omega|exact SM.nil)|simp) (fun x hok=> ?_)
       obtain⟨fQ,k3⟩:∃y,y=x:=⟨x,rfl⟩
       subst k3
       replace hok:(fQ≤cm.length):=hok
       have TW:=hok
       rcases aL (decide (((fQ:Nat):Int)<((cm.length:Nat):Int))) with iI|iI
       ·
        have Dm:=of_decide_eq_true iI
        obtain⟨e14,Hs⟩:=ou cm fQ (by first|omega|(simp;omega))
        have aft:=(MC e14 (List.mem_of_getElem? Hs))
        obtain⟨agT,nW,nX,sV,mP,rfl,agU,agV,agW,agX⟩:=T.eY aft
        rcases aL (((fW (.agg [.int .u8 nW,.str nX,.sl sV,.sl mP])) != 0)) with hc16|hc16
        ·
         have TX:=aA hc16
         refine kO ah ai [oB iI,oE Hs,oC (dr e_self (x:=.agg [.sl aP,.sl aN]) (y:=.agg [.int .u8 nW,.str nX,.sl sV,.sl mP]) ⟨rfl,.inr ⟨_,List.mem_of_getElem? Hs,rfl⟩⟩),oB hc16] (by kernel_rfl) ?_
         exact⟨(fW (.agg [.int .u8 nW,.str nX,.sl sV,.sl mP])),kF ah ai [] (by kernel_rfl)⟩
        ·
         have TX:=av hc16
         exact⟨.inl ⟨fQ+1,⟨(by show(fQ+1)≤cm.length;omega),(by show(cm.length - (fQ+1))<(cm.length - fQ);omega)⟩⟩,bS (f:=0) (n:=3000) (once:=[]) (k:=60) (T:=1) (S:=[.loc [0]]) (ks:=[.loc [0]]) (live:=[2,46,47,48]) ah ai [oB iI,oE Hs,oC (dr e_self (x:=.agg [.sl aP,.sl aN]) (y:=.agg [.int .u8 nW,.str nX,.sl sV,.sl mP]) ⟨rfl,.inr ⟨_,List.mem_of_getElem? Hs,rfl⟩⟩),oB hc16,oI (fQ) (by omega)] (by kernel_rfl)⟩
       ·
        have Dm:=of_decide_eq_false iI
        refine kO ah ai [oB iI] (by kernel_rfl) ?_
        exact⟨0,kF ah ai [] (by kernel_rfl)⟩
    ·
     have He:=eq_of_beq (dm bw)
     refine eF (f:=0) (n:=3000) (once:=[]) (k:=60) (T:=2) (S:=[.loc [0],.loc [1]]) (ks:=[.loc [0],.loc [1]]) (live:=[2,3,32,33,34]) ah ai (α:=Nat) (fun x=>⟨bX 60 [(2,.ptr (.loc [0]) 0),(3,.ptr (.loc [1]) 0),(32,.t (.sl fC)),(33,.t (.int .i64 ((fC.length:Nat):Int))),(34,.t (.int .i64 ((x:Nat):Int)))],[(.loc [0],.cells 79 [.t (.sl aP),.t (.sl aN)]),(.loc [1],.cells 38 [.t (.int .u8 DN),.t (.str wW),.t (.sl fC),.t (.sl cm)])],2⟩) (fun x=>(x≤fC.length)) (fun x=>fC.length - x) 0 (iF (Tryz.f43.body.getD .skip) 6) [oB bF,oB hg4,oB hg4,oB hg4,oB hg4,oB bw,oB bw,oB bw,oB bw,oB bw,oB bw,oF] (by kernel_rfl) (by show(0≤fC.length);first|trivial|omega|(refine⟨?_, ?_⟩<;>first|omega|exact SM.nil)|simp) (fun x hok=> ?_)
     obtain⟨sN,k3⟩:∃y,y=x:=⟨x,rfl⟩
     subst k3
     replace hok:(sN≤fC.length):=hok
     have T3:=hok
     rcases aL (decide (((sN:Nat):Int)<((fC.length:Nat):Int))) with ki|ki
     ·
      have Dn:=of_decide_eq_true ki
      obtain⟨e19,Ht⟩:=ou fC sN (by first|omega|(simp;omega))
      have Ov:=(DM e19 (List.mem_of_getElem? Ht))
      obtain⟨u6,u7,Ax,rL,rfl,X1,X2,X3,X4⟩:=T.aT Ov
      rcases aL (((fW (.agg [.int .u8 u6,.str u7,.sl Ax,.sl rL])) != 0)) with UN|UN
      ·
       have afu:=aA UN
       refine kO ah ai [oB ki,oE Ht,oC (dr e_self (x:=.agg [.sl aP,.sl aN]) (y:=.agg [.int .u8 u6,.str u7,.sl Ax,.sl rL]) ⟨rfl,.inl (List.mem_of_getElem? Ht)⟩),oB UN] (by kernel_rfl) ?_
       exact⟨(fW (.agg [.int .u8 u6,.str u7,.sl Ax,.sl rL])),kF ah ai [] (by kernel_rfl)⟩
      ·
       have afu:=av UN
       exact⟨.inl ⟨sN+1,⟨(by show(sN+1)≤fC.length;omega),(by show(fC.length - (sN+1))<(fC.length - sN);omega)⟩⟩,bS (f:=0) (n:=3000) (once:=[]) (k:=60) (T:=2) (S:=[.loc [0],.loc [1]]) (ks:=[.loc [0],.loc [1]]) (live:=[2,3,32,33,34]) ah ai [oB ki,oE Ht,oC (dr e_self (x:=.agg [.sl aP,.sl aN]) (y:=.agg [.int .u8 u6,.str u7,.sl Ax,.sl rL]) ⟨rfl,.inl (List.mem_of_getElem? Ht)⟩),oB UN,oI (sN) (by omega)] (by kernel_rfl)⟩
     ·
      have Dn:=of_decide_eq_false ki
      refine kO ah ai [oB ki] (by kernel_rfl) ?_
      refine eF (f:=0) (n:=3000) (once:=[]) (k:=60) (T:=1) (S:=[.loc [0]]) (ks:=[.loc [0]]) (live:=[2,46,47,48]) ah ai (α:=Nat) (fun x=>⟨bX 60 [(2,.ptr (.loc [0]) 0),(46,.t (.sl cm)),(47,.t (.int .i64 ((cm.length:Nat):Int))),(48,.t (.int .i64 ((x:Nat):Int)))],[(.loc [0],.cells 79 [.t (.sl aP),.t (.sl aN)])],1⟩) (fun x=>(x≤cm.length)) (fun x=>cm.length - x) 0 (iF (Tryz.f43.body.getD .skip) 13) [] (by kernel_rfl) (by show(0≤cm.length);first|trivial|omega|(refine⟨?_, ?_⟩<;>first|omega|exact SM.nil)|simp) (fun x hok=> ?_)
      obtain⟨Kf,k3⟩:∃y,y=x:=⟨x,rfl⟩
      subst k3
      replace hok:(Kf≤cm.length):=hok
      have afv:=hok
      rcases aL (decide (((Kf:Nat):Int)<((cm.length:Nat):Int))) with Bw|Bw
      ·
       have UO:=of_decide_eq_true Bw
       obtain⟨e24,UQ⟩:=ou cm Kf (by first|omega|(simp;omega))
       have afw:=(MC e24 (List.mem_of_getElem? UQ))
       obtain⟨agY,nY,nZ,sW,mQ,rfl,agZ,ag0,ag1,ag2⟩:=T.eY afw
       rcases aL (((fW (.agg [.int .u8 nY,.str nZ,.sl sW,.sl mQ])) != 0)) with UR|UR
       ·
        have afx:=aA UR
        refine kO ah ai [oB Bw,oE UQ,oC (dr e_self (x:=.agg [.sl aP,.sl aN]) (y:=.agg [.int .u8 nY,.str nZ,.sl sW,.sl mQ]) ⟨rfl,.inr ⟨_,List.mem_of_getElem? UQ,rfl⟩⟩),oB UR] (by kernel_rfl) ?_
        exact⟨(fW (.agg [.int .u8 nY,.str nZ,.sl sW,.sl mQ])),kF ah ai [] (by kernel_rfl)⟩
       ·
        have afx:=av UR
        exact⟨.inl ⟨Kf+1,⟨(by show(Kf+1)≤cm.length;omega),(by show(cm.length - (Kf+1))<(cm.length - Kf);omega)⟩⟩,bS (f:=0) (n:=3000) (once:=[]) (k:=60) (T:=1) (S:=[.loc [0]]) (ks:=[.loc [0]]) (live:=[2,46,47,48]) ah ai [oB Bw,oE UQ,oC (dr e_self (x:=.agg [.sl aP,.sl aN]) (y:=.agg [.int .u8 nY,.str nZ,.sl sW,.sl mQ]) ⟨rfl,.inr ⟨_,List.mem_of_getElem? UQ,rfl⟩⟩),oB UR,oI (Kf) (by omega)] (by kernel_rfl)⟩
      ·
       have UO:=of_decide_eq_false Bw
       refine kO ah ai [oB Bw] (by kernel_rfl) ?_
       exact⟨0,kF ah ai [] (by kernel_rfl)⟩
   ·
    have Ml:=ne_of_beq_false hg4
    refine eF (f:=0) (n:=3000) (once:=[]) (k:=60) (T:=2) (S:=[.loc [0],.loc [1]]) (ks:=[.loc [0],.loc [1]]) (live:=[2,3,32,33,34]) ah ai (α:=Nat) (fun x=>⟨bX 60 [(2,.ptr (.loc [0]) 0),(3,.ptr (.loc [1]) 0),(32,.t (.sl fC)),(33,.t (.int .i64 ((fC.length:Nat):Int))),(34,.t (.int .i64 ((x:Nat):Int)))],[(.loc [0],.cells 79 [.t (.sl aP),.t (.sl aN)]),(.loc [1],.cells 38 [.t (.int .u8 DN),.t (.str wW),.t (.sl fC),.t (.sl cm)])],2⟩) (fun x=>(x≤fC.length)) (fun x=>fC.length - x) 0 (iF (Tryz.f43.body.getD .skip) 6) [oB bF,oB hg4,oB hg4,oB hg4,oB hg4,oF,oF,oF,oF,oF,oF,oF] (by kernel_rfl) (by show(0≤fC.length);first|trivial|omega|(refine⟨?_, ?_⟩<;>first|omega|exact SM.nil)|simp) (fun x hok=> ?_)
    obtain⟨Kg,k3⟩:∃y,y=x:=⟨x,rfl⟩
    subst k3
    replace hok:(Kg≤fC.length):=hok
    have afy:=hok
    rcases aL (decide (((Kg:Nat):Int)<((fC.length:Nat):Int))) with iB|iB
    ·
     have JU:=of_decide_eq_true iB
     obtain⟨e29,Ak⟩:=ou fC Kg (by first|omega|(simp;omega))
     have afz:=(DM e29 (List.mem_of_getElem? Ak))
     obtain⟨BU,BV,HF,zg,rfl,ag3,ag4,ag5,ag6⟩:=T.aT afz
     rcases aL (((fW (.agg [.int .u8 BU,.str BV,.sl HF,.sl zg])) != 0)) with Hu|Hu
     ·
      have T9:=aA Hu
      refine kO ah ai [oB iB,oE Ak,oC (dr e_self (x:=.agg [.sl aP,.sl aN]) (y:=.agg [.int .u8 BU,.str BV,.sl HF,.sl zg]) ⟨rfl,.inl (List.mem_of_getElem? Ak)⟩),oB Hu] (by kernel_rfl) ?_
      exact⟨(fW (.agg [.int .u8 BU,.str BV,.sl HF,.sl zg])),kF ah ai [] (by kernel_rfl)⟩
     ·
      have T9:=av Hu
      exact⟨.inl ⟨Kg+1,⟨(by show(Kg+1)≤fC.length;omega),(by show(fC.length - (Kg+1))<(fC.length - Kg);omega)⟩⟩,bS (f:=0) (n:=3000) (once:=[]) (k:=60) (T:=2) (S:=[.loc [0],.loc [1]]) (ks:=[.loc [0],.loc [1]]) (live:=[2,3,32,33,34]) ah ai [oB iB,oE Ak,oC (dr e_self (x:=.agg [.sl aP,.sl aN]) (y:=.agg [.int .u8 BU,.str BV,.sl HF,.sl zg]) ⟨rfl,.inl (List.mem_of_getElem? Ak)⟩),oB Hu,oI (Kg) (by omega)] (by kernel_rfl)⟩
    ·
     have JU:=of_decide_eq_false iB
     refine kO ah ai [oB iB] (by kernel_rfl) ?_
     refine eF (f:=0) (n:=3000) (once:=[]) (k:=60) (T:=1) (S:=[.loc [0]]) (ks:=[.loc [0]]) (live:=[2,46,47,48]) ah ai (α:=Nat) (fun x=>⟨bX 60 [(2,.ptr (.loc [0]) 0),(46,.t (.sl cm)),(47,.t (.int .i64 ((cm.length:Nat):Int))),(48,.t (.int .i64 ((x:Nat):Int)))],[(.loc [0],.cells 79 [.t (.sl aP),.t (.sl aN)])],1⟩) (fun x=>(x≤cm.length)) (fun x=>cm.length - x) 0 (iF (Tryz.f43.body.getD .skip) 13) [] (by kernel_rfl) (by show(0≤cm.length);first|trivial|omega|(refine⟨?_, ?_⟩<;>first|omega|exact SM.nil)|simp) (fun x hok=> ?_)
     obtain⟨Kh,k3⟩:∃y,y=x:=⟨x,rfl⟩
     subst k3
     replace hok:(Kh≤cm.length):=hok
     have afA:=hok
     rcases aL (decide (((Kh:Nat):Int)<((cm.length:Nat):Int))) with Qw|Qw
     ·
      have afB:=of_decide_eq_true Qw
      obtain⟨e34,UT⟩:=ou cm Kh (by first|omega|(simp;omega))
      have afC:=(MC e34 (List.mem_of_getElem? UT))
      obtain⟨ag7,oc,od,sX,mR,rfl,ag8,ag9,aha,ahb⟩:=T.eY afC
      rcases aL (((fW (.agg [.int .u8 oc,.str od,.sl sX,.sl mR])) != 0)) with HH|HH
      ·
       have UU:=aA HH
       refine kO ah ai [oB Qw,oE UT,oC (dr e_self (x:=.agg [.sl aP,.sl aN]) (y:=.agg [.int .u8 oc,.str od,.sl sX,.sl mR]) ⟨rfl,.inr ⟨_,List.mem_of_getElem? UT,rfl⟩⟩),oB HH] (by kernel_rfl) ?_
       exact⟨(fW (.agg [.int .u8 oc,.str od,.sl sX,.sl mR])),kF ah ai [] (by kernel_rfl)⟩
      ·
       have UU:=av HH
       exact⟨.inl ⟨Kh+1,⟨(by show(Kh+1)≤cm.length;omega),(by show(cm.length - (Kh+1))<(cm.length - Kh);omega)⟩⟩,bS (f:=0) (n:=3000) (once:=[]) (k:=60) (T:=1) (S:=[.loc [0]]) (ks:=[.loc [0]]) (live:=[2,46,47,48]) ah ai [oB Qw,oE UT,oC (dr e_self (x:=.agg [.sl aP,.sl aN]) (y:=.agg [.int .u8 oc,.str od,.sl sX,.sl mR]) ⟨rfl,.inr ⟨_,List.mem_of_getElem? UT,rfl⟩⟩),oB HH,oI (Kh) (by omega)] (by kernel_rfl)⟩
     ·
      have afB:=of_decide_eq_false Qw
      refine kO ah ai [oB Qw] (by kernel_rfl) ?_
      exact⟨0,kF ah ai [] (by kernel_rfl)⟩
theorem Bd (m:Int):∃F:Tree→Tree→Int,∀b x,T .bI b∧T .aB x→R2 (cf m) 43 b x (.int .i64 (F b x)):=by
 have key:∀(b:Tree),T .bI b→∀(k:K) (x:Tree),T k x→(k=.aB→∃r:Int,R2 (cf m) 43 b x (.int .i64 r))∧(k=.bx→∃r:Int,R2 (cf m) 43 b (QZ x) (.int .i64 r)):=by
  intro b hb k x h
  have go:∀(k1:Int) (s:List UInt8) (os bs:List Tree),os.length≤4194304→(∀y∈os,T .aB y)→bs.length≤4194304→(∀y∈bs,T .bx y)→(∀y∈os,∃r:Int,R2 (cf m) 43 b y (.int .i64 r))→(∀y∈bs,∃r:Int,R2 (cf m) 43 b (QZ y) (.int .i64 r))→
    ∃r:Int,R2 (cf m) 43 b (.agg [.int .u8 k1,.str s,.sl os,.sl bs]) (.int .i64 r):=by
   intro k1 s os bs l1 h1 l2 h2 i1 i2
   obtain⟨fW,hW⟩:=dQ (P:=fun y=>y∈os∨∃a∈bs,y=QZ a) (Q:=fun y (r:Int)=>R2 (cf m) 43 b y (.int .i64 r)) fun y hy=>by
    rcases hy with hy|⟨a,ha,rfl⟩
    · exact i1 y hy
    · exact i2 a ha
   exact Qv m b hb _ (.aB k1 s os bs l1 h1 l2 h2) fW hW
  induction h with
  |aB k1 s os bs l1 h1 l2 h2 i1 i2=>exact⟨fun _=>go k1 s os bs l1 h1 l2 h2 (fun y hy=>(i1 y hy).1 rfl) (fun y hy=>(i2 y hy).2 rfl),fun e=>(by cases e)⟩
  |bx nm k1 s os bs l1 h1 l2 h2 i1 i2=>exact⟨fun e=>(by cases e),fun _=>go k1 s os bs l1 h1 l2 h2 (fun y hy=>(i1 y hy).1 rfl) (fun y hy=>(i2 y hy).2 rfl)⟩
  |_=>exact⟨fun e=>(by cases e),fun e=>(by cases e)⟩
 exact vL (Tree.int .i64) fun b x h=>(key b h.1 _ x h.2).1 rfl
theorem ve {n m:Nat}(hle:n≤m){x:Tree}(h:Dp n x):Dp m x:=by
 induction hle with
 |refl=>exact h
 |step _ ih=>exact Dp.up _ _ ih
theorem uniform {P:Nat→Tree→Prop}(hm:∀n m x,n≤m→P n x→P m x):∀{l:List Tree},(∀y∈l,∃n,P n y)→∃n,∀y∈l,P n y
 | [],_=>⟨0,fun _ h=>by cases h⟩
 |a::r,h=>by
  obtain⟨n,hn⟩:=uniform hm fun y hy=>h y (List.mem_cons_of_mem _ hy)
  obtain⟨k,hk⟩:=h a List.mem_cons_self
  refine⟨max n k,fun y hy=> ?_⟩
  rcases List.mem_cons.1 hy with rfl|hy
  · exact hm _ _ _ (Nat.le_max_right _ _) hk
  · exact hm _ _ _ (Nat.le_max_left _ _) (hn y hy)
theorem FU {x:Tree}(h:T .aB x):∃n,Dp n x:=by
 have key:∀(k:K) (x:Tree),T k x→(k=.aB→∃n,Dp n x)∧(k=.bx→∃nm r n,x=.agg (.str nm::r)∧Dp n (.agg r)):=by
  intro k x h
  have go:∀(k1:Int) (s:List UInt8) (os bs:List Tree),os.length≤4194304→bs.length≤4194304→(∀y∈os,∃n,Dp n y)→(∀y∈bs,∃nm r n,y=.agg (.str nm::r)∧Dp n (.agg r))→∃n,Dp n (.agg [.int .u8 k1,.str s,.sl os,.sl bs]):=by
   intro k1 s os bs l1 l2 i1 i2
   obtain⟨n1,h1⟩:=uniform (P:=Dp) (fun _ _ _ hle h=>ve hle h) i1
   obtain⟨n2,h2⟩:=uniform (P:=fun n y=>∃nm r,y=.agg (.str nm::r)∧Dp n (.agg r)) (fun _ _ _ hle ⟨nm,r,e,h⟩=>⟨nm,r,e,ve hle h⟩) (l:=bs) fun y hy=>by
    obtain⟨nm,r,n,e,h⟩:=i2 y hy
    exact⟨n,nm,r,e,h⟩
   refine⟨max n1 n2+1,k1,s,os,bs,rfl,l1,l2,fun o ho=>ve (Nat.le_max_left _ _) (h1 o ho),fun e he=> ?_⟩
   obtain⟨nm,r,e1,h⟩:=h2 e he
   exact⟨nm,r,e1,ve (Nat.le_max_right _ _) h⟩
  induction h with
  |aB k1 s os bs l1 h1 l2 h2 i1 i2=>exact⟨fun _=>go k1 s os bs l1 l2 (fun y hy=>(i1 y hy).1 rfl) (fun y hy=>(i2 y hy).2 rfl),fun e=>(by cases e)⟩
  |bx nm k1 s os bs l1 h1 l2 h2 i1 i2=>
   refine⟨fun e=>(by cases e),fun _=> ?_⟩
   obtain⟨n,hn⟩:=go k1 s os bs l1 l2 (fun y hy=>(i1 y hy).1 rfl) (fun y hy=>(i2 y hy).2 rfl)
   exact⟨nm,_,n,rfl,hn⟩
  |_=>exact⟨fun e=>(by cases e),fun e=>(by cases e)⟩
 exact(key _ x h).1 rfl
theorem zh (m:Int):∃F:Tree→Int,∀x,T .aB x→R1 (cf m) 13 x (.int .i64 (F x))∧(F x=0→iK x):=dQ (P:=T .aB) (Q:=fun x (r:Int)=>R1 (cf m) 13 x (.int .i64 r)∧(r=0→iK x)) fun x hx=>by
 obtain⟨n,hn⟩:=FU hx
 obtain⟨ck,Pm⟩:=Un m n
 exact⟨_,(Pm x hn).1,fun h=>⟨n,(Pm x hn).2 h⟩⟩
end
end Go.Proofs.YtijfhoelihclbaaGreatDoor.w.e

namespace Go.Proofs.YtijfhoelihclbaaGreatDoor.w.e
open Go Go.Abs Go.Abs.Ty
set_option linter.unusedVariables false
set_option maxRecDepth 100000
set_option maxHeartbeats 2000000
noncomputable section
def Ki (s1 s2:List TV→List aQ→Option bG):List TV→List aQ→Option bG:=fun a o=>(s1 a o).or (s2 a o)
theorem Ow {C:dh}{g:FuncId}{s1 s2:List TV→List aQ→Option bG}(h1:j7 C g s1)(h2:j7 C g s2):j7 C g (Ki s1 s2):=fun a o r h=>by
 unfold Ki at h
 cases hs:s1 a o with
 |none=>rw[hs] at h;exact h2 a o r h
 |some q=>rw[hs] at h;cases h;exact h1 a o _ hs
theorem Ox {g:FuncId}{ev:aS}{s1 s2:List TV→List aQ→Option bG}(h:Has ev g (Ki s1 s2)):Has ev g s1:=fun a o r hs=>h a o r (by unfold Ki;rw[hs];rfl)
theorem Zo {g:FuncId}{ev:aS}{s1:List TV→List aQ→Option bG}{args:List TV}{aR:List aQ}{r:bG}(h:Has ev g (Ki s1 (px args aR r)))(hn:s1 args aR=none):ev g args aR=some r:=h _ _ _ (by
 unfold Ki
 rw[hn]
 show px args aR r args aR=some r
 exact if_pos ⟨rfl,rfl⟩)
theorem Kj (m:Int):∃F:Tree→List UInt8,∀x,(T .string x)→R1 (cf m) 72 x (.str (F x))∧(True):=by
 refine vz (P:=fun x=>T .string x) (mk:=fun(r:List UInt8)=>.str r) (Post:=fun x r=>True) fun x hx=> ?_
 show ∃r:{r:List UInt8 // True},ay (cf m) 72 [.t x] [] (.ret (.t (.str r.1)) [] [])
 have bY:=hx
 obtain⟨v_1,rfl⟩:=T.cT bY
 obtain⟨ev,ai⟩:∃ev,aF (cf m) ev:=⟨_,aH⟩
 refine AX.start 4 1 Tryz.func72 rfl (by decide) rfl rfl (by decide) ?_
 refine AX.frames ?_
 refine⟨⟨v_1, ?_⟩,kF ah ai [] (by kernel_rfl)⟩
 trivial
theorem Qx (m:Int):∃F:Tree→Tree→Bool,∀x y,(T .aY x∧y=.fn (.func 72))→R2 (cf m) 71 x y (.bool (F x y))∧(True):=by
  refine sL (P:=fun x y=>T .aY x∧y=.fn (.func 72)) (mk:=fun(r:Bool)=>.bool r) (Post:=fun x y r=>True) fun x y hx=> ?_
  obtain⟨hx,hy⟩:=hx
  show ∃r:{r:Bool // True},ay (cf m) 71 [.t x,.t y] [] (.ret (.t (.bool r.1)) [] [])
  have bY:=hx
  obtain⟨v_1,rfl,dY,bh⟩:=T.ij bY
  subst hy
  obtain⟨DR,UW⟩:=Kj m
  obtain⟨ev,ai,zi⟩:∃ev,aF (cf m) ev∧Has ev 72 (kY (fun x=>T .string x) (fun x=>.str (DR x))):=⟨_,(ax (bD (fun x h=>(UW x h).1)) aH),az⟩
  refine AX.start 26 2 Tryz.func71 rfl (by decide) rfl rfl (by decide) ?_
  refine AX.frames ?_
  refine eF (f:=0) (n:=3000) (once:=[]) (k:=26) (T:=0) (S:=[]) (ks:=[]) (live:=[0,1,5]) ah ai (α:=Nat) (fun x=>⟨bX 26 [(0,.t (.sl v_1)),(1,.t (.fn (.func 72))),(5,.t (.int .i64 ((x:Nat):Int)))],[],0⟩) (fun x=>(x≤(v_1.length+1))∧(1≤x)) (fun x=>(v_1.length+1) - x) 1 (iF (Tryz.f71.body.getD .skip) 2) [] (by kernel_rfl) (by show(1≤(v_1.length+1))∧(1≤1);first|trivial|omega|(refine⟨?_, ?_⟩<;>first|omega|exact SM.nil)|simp) (fun x hok=> ?_)
  obtain⟨i_2,k3⟩:∃y,y=x:=⟨x,rfl⟩
  subst k3
  replace hok:(i_2≤(v_1.length+1))∧(1≤i_2):=hok
  obtain⟨nQ,iq⟩:=hok
  rcases aL (decide (((i_2:Nat):Int)<((v_1.length:Nat):Int))) with bF|bF
  ·
   have kH:=of_decide_eq_true bF
   obtain⟨e4,pW⟩:=ou v_1 (i_2 - 1) (by first|omega|(simp;omega))
   have kn:=(bh e4 (List.mem_of_getElem? pW))
   obtain⟨Wq,rfl⟩:=T.cT kn
   obtain⟨e6,G7⟩:=ou v_1 i_2 (by first|omega|(simp;omega))
   have UX:=(bh e6 (List.mem_of_getElem? G7))
   obtain⟨v_7,rfl⟩:=T.cT UX
   rcases aL ((!(iP (DR (.str Wq)) (DR (.str v_7))))) with fF|fF
   ·
    refine kO ah ai [oB bF,oS (i_2) iq (by omega),oE pW,oC (bk zi (x:=.str Wq) kn),oE G7,oC (bk zi (x:=.str v_7) UX),oB fF] (by kernel_rfl) ?_
    refine⟨⟨false, ?_⟩,kF ah ai [] (by kernel_rfl)⟩
    trivial
   ·
    exact⟨.inl ⟨i_2+1,⟨⟨(by show(i_2+1)≤(v_1.length+1);omega),(by show 1≤(i_2+1);first|omega|(simp only[List.length_append,List.length_cons,List.length_nil,List.length_singleton] at*;omega)|(simp;done)|(simp;omega))⟩,(by show((v_1.length+1) - (i_2+1))<((v_1.length+1) - i_2);omega)⟩⟩,bS (f:=0) (n:=3000) (once:=[]) (k:=26) (T:=0) (S:=[]) (ks:=[]) (live:=[0,1,5]) ah ai [oB bF,oS (i_2) iq (by omega),oE pW,oC (bk zi (x:=.str Wq) kn),oE G7,oC (bk zi (x:=.str v_7) UX),oB fF,oI (i_2) (by omega)] (by kernel_rfl)⟩
  ·
   have kH:=of_decide_eq_false bF
   refine kO ah ai [oB bF] (by kernel_rfl) ?_
   refine⟨⟨true, ?_⟩,kF ah ai [] (by kernel_rfl)⟩
   trivial
theorem FV (m:Int):∃F:Tree→Bool,∀x,(T .aY x)→R1 (cf m) 27 x (.bool (F x))∧(True):=by
  refine vz (P:=fun x=>T .aY x) (mk:=fun(r:Bool)=>.bool r) (Post:=fun x r=>True) fun x hx=> ?_
  show ∃r:{r:Bool // True},ay (cf m) 27 [.t x] [] (.ret (.t (.bool r.1)) [] [])
  have bY:=hx
  obtain⟨v_1,rfl,dY,bh⟩:=T.ij bY
  obtain⟨UY,abO⟩:=Qx m
  obtain⟨ev,ai,abP⟩:∃ev,aF (cf m) ev∧Has ev 71 (rD (fun x y=>T .aY x∧y=.fn (.func 72)) (fun x y=>.bool (UY x y))):=⟨_,(ax (dn (fun x y h=>(abO x y h).1)) aH),az⟩
  refine AX.start 10 1 Tryz.func27 rfl (by decide) rfl rfl (by decide) ?_
  refine AX.frames ?_
  rcases aL (decide (((v_1.length:Nat):Int)≤16)) with hg2|hg2
  ·
   have G8:=of_decide_eq_true hg2
   refine⟨⟨(UY (.sl v_1) (.fn (.func 72))), ?_⟩,kF ah ai [oB hg2,oB hg2,oC (dr abP (x:=.sl v_1) (y:=.fn (.func 72)) ⟨bY,rfl⟩),oB hg2] (by kernel_rfl)⟩
   trivial
  ·
   have G8:=of_decide_eq_false hg2
   refine⟨⟨false, ?_⟩,kF ah ai [oB hg2,oB hg2,oB hg2] (by kernel_rfl)⟩
   trivial
theorem ED (m:Int):∃F:Tree→Bool,∀x,(T .string x)→R1 (cf m) 26 x (.bool (F x))∧(True):=by
  refine vz (P:=fun x=>T .string x) (mk:=fun(r:Bool)=>.bool r) (Post:=fun x r=>True) fun x hx=> ?_
  show ∃r:{r:Bool // True},ay (cf m) 26 [.t x] [] (.ret (.t (.bool r.1)) [] [])
  have abQ:T .aY (.sl (Ab.map Tree.str)):=.aY _ (by decide) (fun y hy=>by obtain⟨s,_,rfl⟩:=List.mem_map.1 hy;exact .string s)
  have bY:=hx
  obtain⟨v_1,rfl⟩:=T.cT bY
  obtain⟨vA,Ms⟩:=BO m
  obtain⟨J7,Uu⟩:=J6 m
  obtain⟨ev,ai,Al,afD,Ka⟩:∃ev,aF (cf m) ev∧Has ev 68 (kY (fun x=>PS x) (fun x=>.bool (vA x)))∧Has ev 70 (mE ng su)∧Has ev 69 (rD (fun x y=>T .aY x∧T .string y) (fun x y=>.bool (J7 x y))):=⟨_,(ax (bD (fun x h=>(Ms x h))) (ax ((show j7 (cf m) 70 (mE ng su) from fun args aR r h=>live.Dg m su aH args aR r h)) (ax (dn (fun x y h=>(Uu x y h).1)) aH))),az,(aq rfl az),(aq rfl (aq rfl az))⟩
  refine AX.start 11 1 Tryz.func26 rfl (by decide) rfl rfl (by decide) ?_
  refine AX.frames ?_
  rcases aL ((vA (.str v_1))) with hg2|hg2
  ·
   refine⟨⟨(!(J7 (.sl (Ab.map Tree.str)) (.str v_1))), ?_⟩,kF ah ai [oC (bk Al (x:=.str v_1) ⟨_,rfl⟩),oB hg2,oC (show ev 70 [.t (.str [66,111,111,108,32,76,111,110,103,32,83,116,114,105,110,103,32,83,101,116,32,65,99,116,105,111,110])] []=some (bG.ret (.t (.sl (Ab.map Tree.str))) [] []) from(afD _ _ _ rfl)),oB hg2,oB hg2,oC (dr Ka (x:=.sl (Ab.map Tree.str)) (y:=.str v_1) ⟨abQ,bY⟩),oB hg2,oB hg2] (by kernel_rfl)⟩
   trivial
  ·
   refine⟨⟨false, ?_⟩,kF ah ai [oC (bk Al (x:=.str v_1) ⟨_,rfl⟩),oB hg2,oB hg2,oB hg2,oB hg2,oB hg2] (by kernel_rfl)⟩
   trivial
theorem UZ (m:Int):∃F:Tree→Bool,∀x,(T .aG x)→R1 (cf m) 25 x (.bool (F x))∧(True):=by
  refine vz (P:=fun x=>T .aG x) (mk:=fun(r:Bool)=>.bool r) (Post:=fun x r=>True) fun x hx=> ?_
  show ∃r:{r:Bool // True},ay (cf m) 25 [.t x] [] (.ret (.t (.bool r.1)) [] [])
  have bY:=hx
  obtain⟨mJ,jS,jb,rfl,dY,bh,ji,dD⟩:=T.bu bY
  obtain⟨DT,MD⟩:=ED m
  obtain⟨Ay,ME⟩:=FV m
  obtain⟨ev,ai,DU,DV⟩:∃ev,aF (cf m) ev∧Has ev 26 (kY (fun x=>T .string x) (fun x=>.bool (DT x)))∧Has ev 27 (kY (fun x=>T .aY x) (fun x=>.bool (Ay x))):=⟨_,(ax (bD (fun x h=>(MD x h).1)) (ax (bD (fun x h=>(ME x h).1)) aH)),az,(aq rfl az)⟩
  refine AX.start 13 1 Tryz.func25 rfl (by decide) rfl rfl (by decide) ?_
  refine AX.frames ?_
  rcases aL ((!(DT (.str mJ)))) with hg2|hg2
  ·
   refine⟨⟨true, ?_⟩,kF ah ai [oC (bk DU (x:=.str mJ) (.string _)),oB hg2,oB hg2,oB hg2,oB hg2,oB hg2] (by kernel_rfl)⟩
   trivial
  ·
   refine⟨⟨(!(Ay (.sl jS))), ?_⟩,kF ah ai [oC (bk DU (x:=.str mJ) (.string _)),oB hg2,oB hg2,oB hg2,oC (bk DV (x:=.sl jS) (.aY _ (by first|assumption|omega|(simp;done)|(simp;omega)) bh)),oB hg2,oB hg2] (by kernel_rfl)⟩
   trivial
theorem U0 (m:Int):∃F:Tree→Bool,∀x,(T .aZ x)→R1 (cf m) 28 x (.bool (F x))∧(True):=by
  refine vz (P:=fun x=>T .aZ x) (mk:=fun(r:Bool)=>.bool r) (Post:=fun x r=>True) fun x hx=> ?_
  show ∃r:{r:Bool // True},ay (cf m) 28 [.t x] [] (.ret (.t (.bool r.1)) [] [])
  have bY:=hx
  obtain⟨pP,gq,iM,fG,rfl,dY,bh,ji,dD,MB,wV⟩:=T.eM bY
  obtain⟨Bu,Mu⟩:=sP m
  obtain⟨Ay,ME⟩:=FV m
  obtain⟨ev,ai,vB,DV⟩:∃ev,aF (cf m) ev∧Has ev 29 (kY (fun x=>PS x) (fun x=>.bool (Bu x)))∧Has ev 27 (kY (fun x=>T .aY x) (fun x=>.bool (Ay x))):=⟨_,(ax (bD (fun x h=>(Mu x h))) (ax (bD (fun x h=>(ME x h).1)) aH)),az,(aq rfl az)⟩
  refine AX.start 25 1 Tryz.func28 rfl (by decide) rfl rfl (by decide) ?_
  refine AX.frames ?_
  rcases aL (decide (((pP.length:Nat):Int)>64)) with hg2|hg2
  ·
   have G8:=of_decide_eq_true hg2
   refine⟨⟨true, ?_⟩,kF ah ai [oB hg2,oB hg2,oB hg2,oB hg2,oB hg2,oT,oT,oT,oT,oT,oT,oT,oT,oT,oT] (by kernel_rfl)⟩
   trivial
  ·
   have G8:=of_decide_eq_false hg2
   rcases aL ((!(Bu (.str pP)))) with hg3|hg3
   ·
    refine⟨⟨true, ?_⟩,kF ah ai [oB hg2,oB hg2,oB hg2,oC (bk vB (x:=.str pP) ⟨_,rfl⟩),oB hg2,oB hg2,oB hg3,oB hg3,oB hg3,oB hg3,oB hg3,oT,oT,oT,oT,oT] (by kernel_rfl)⟩
    trivial
   ·
    rcases aL ((!(Ay (.sl gq)))) with hg4|hg4
    ·
     refine⟨⟨true, ?_⟩,kF ah ai [oB hg2,oB hg2,oB hg2,oC (bk vB (x:=.str pP) ⟨_,rfl⟩),oB hg2,oB hg2,oB hg3,oB hg3,oB hg3,oC (bk DV (x:=.sl gq) (.aY _ (by first|assumption|omega|(simp;done)|(simp;omega)) bh)),oB hg3,oB hg3,oB hg4,oB hg4,oB hg4,oB hg4,oB hg4] (by kernel_rfl)⟩
     trivial
    ·
     refine⟨⟨(!(Ay (.sl iM))), ?_⟩,kF ah ai [oB hg2,oB hg2,oB hg2,oC (bk vB (x:=.str pP) ⟨_,rfl⟩),oB hg2,oB hg2,oB hg3,oB hg3,oB hg3,oC (bk DV (x:=.sl gq) (.aY _ (by first|assumption|omega|(simp;done)|(simp;omega)) bh)),oB hg3,oB hg3,oB hg4,oB hg4,oB hg4,oC (bk DV (x:=.sl iM) (.aY _ (by first|assumption|omega|(simp;done)|(simp;omega)) dD)),oB hg4,oB hg4] (by kernel_rfl)⟩
     trivial
theorem Kk (m:Int):∃F:Tree→Tree→Int,∀x y,(T .dw x∧T .bool y)→R2 (cf m) 30 x y (.int .i64 (F x y))∧(True):=by
  refine sL (P:=fun x y=>T .dw x∧T .bool y) (mk:=fun(r:Int)=>.int .i64 r) (Post:=fun x y r=>True) fun x y hx=> ?_
  obtain⟨hx,hy⟩:=hx
  show ∃r:{r:Int // True},ay (cf m) 30 [.t x,.t y] [] (.ret (.t (.int .i64 r.1)) [] [])
  have bY:=hx
  obtain⟨v_1,rfl⟩:=T.ym bY
  have Bv:=hy
  obtain⟨v_2,rfl⟩:=T.SL Bv
  obtain⟨ev,ai⟩:∃ev,aF (cf m) ev:=⟨_,aH⟩
  refine AX.start 7 2 Tryz.func30 rfl (by decide) rfl rfl (by decide) ?_
  refine AX.frames ?_
  rcases aL (v_2) with bF|bF
  ·
   refine⟨⟨9, ?_⟩,kF ah ai [oB bF] (by kernel_rfl)⟩
   trivial
  ·
   refine⟨⟨v_1, ?_⟩,kF ah ai [oB bF] (by kernel_rfl)⟩
   trivial
def U1 (l:Tree):Tree:=.agg [.int .u8 6,.str [],.sl [],l]
theorem vg (m:Int)(l:List Tree):R1 (cf m) 39 (.sl l) (U1 (.sl l)):=by
 obtain⟨ev,ai⟩:∃ev,aF (cf m) ev:=⟨_,aH⟩
 refine ay.gL ?_
 refine AX.start 5 1 Tryz.func39 rfl (by decide) rfl rfl (by decide) ?_
 refine AX.frames ?_
 exact⟨(),kF ah ai [] (by kernel_rfl)⟩
end
end Go.Proofs.YtijfhoelihclbaaGreatDoor.w.e

namespace Go.Proofs.YtijfhoelihclbaaGreatDoor.w.e
open Go Go.Abs Go.Abs.Ty
set_option linter.unusedVariables false
set_option maxRecDepth 100000
set_option maxHeartbeats 2000000
noncomputable section
def Oy:Tree→List Tree
 |.agg [.sl l,_]=>l
 |_=>[]
theorem Qy (m:Int):∃F:Tree→Tree→Int,∀x y,(T .aU x∧y=.fn (.func 25))→R2 (cf m) 74 x y (.int .i64 (F x y))∧(True):=by
  refine sL (P:=fun x y=>T .aU x∧y=.fn (.func 25)) (mk:=fun(r:Int)=>.int .i64 r) (Post:=fun x y r=>True) fun x y hx=> ?_
  obtain⟨hx,hy⟩:=hx
  show ∃r:{r:Int // True},ay (cf m) 74 [.t x,.t y] [] (.ret (.t (.int .i64 r.1)) [] [])
  have bY:=hx
  obtain⟨v_1,rfl,dY,bh⟩:=T.iZ bY
  subst hy
  obtain⟨Zp,afE⟩:=UZ m
  obtain⟨ev,ai,Zq⟩:∃ev,aF (cf m) ev∧Has ev 25 (kY (fun x=>T .aG x) (fun x=>.bool (Zp x))):=⟨_,(ax (bD (fun x h=>(afE x h).1)) aH),az⟩
  refine AX.start 19 2 Tryz.func74 rfl (by decide) rfl rfl (by decide) ?_
  refine AX.frames ?_
  refine eF (f:=0) (n:=3000) (once:=[]) (k:=19) (T:=0) (S:=[]) (ks:=[]) (live:=[0,1,7,8]) ah ai (α:=Nat) (fun x=>⟨bX 19 [(0,.t (.sl v_1)),(1,.t (.fn (.func 25))),(7,.t (.int .i64 ((v_1.length:Nat):Int))),(8,.t (.int .i64 ((x:Nat):Int)))],[],0⟩) (fun x=>(x≤v_1.length)) (fun x=>v_1.length - x) 0 (iF (Tryz.f74.body.getD .skip) 2) [] (by kernel_rfl) (by show(0≤v_1.length);first|trivial|omega|(refine⟨?_, ?_⟩<;>first|omega|exact SM.nil)|simp) (fun x hok=> ?_)
  obtain⟨i_2,k3⟩:∃y,y=x:=⟨x,rfl⟩
  subst k3
  replace hok:(i_2≤v_1.length):=hok
  have nQ:=hok
  rcases aL (decide (((i_2:Nat):Int)<((v_1.length:Nat):Int))) with bF|bF
  ·
   have kH:=of_decide_eq_true bF
   obtain⟨e4,pW⟩:=ou v_1 i_2 (by first|omega|(simp;omega))
   have kn:=(bh e4 (List.mem_of_getElem? pW))
   obtain⟨mK,gG,jT,rfl,DI,DJ,DK,DL⟩:=T.bu kn
   rcases aL ((Zp (.agg [.str mK,.sl gG,.sl jT]))) with qu|qu
   ·
    refine kO ah ai [oB bF,oE pW,oC (bk Zq (x:=.agg [.str mK,.sl gG,.sl jT]) kn),oB qu] (by kernel_rfl) ?_
    refine⟨⟨((i_2:Nat):Int), ?_⟩,kF ah ai [] (by kernel_rfl)⟩
    trivial
   ·
    exact⟨.inl ⟨i_2+1,⟨(by show(i_2+1)≤v_1.length;omega),(by show(v_1.length - (i_2+1))<(v_1.length - i_2);omega)⟩⟩,bS (f:=0) (n:=3000) (once:=[]) (k:=19) (T:=0) (S:=[]) (ks:=[]) (live:=[0,1,7,8]) ah ai [oB bF,oE pW,oC (bk Zq (x:=.agg [.str mK,.sl gG,.sl jT]) kn),oB qu,oI (i_2) (by omega)] (by kernel_rfl)⟩
  ·
   have kH:=of_decide_eq_false bF
   refine kO ah ai [oB bF] (by kernel_rfl) ?_
   refine⟨⟨-1, ?_⟩,kF ah ai [] (by kernel_rfl)⟩
   trivial
theorem Qz (m:Int):∃F:Tree→Tree→Bool,∀x y,(T .aU x∧y=.fn (.func 25))→R2 (cf m) 31 x y (.bool (F x y))∧(True):=by
 refine sL (P:=fun x y=>T .aU x∧y=.fn (.func 25)) (mk:=fun(r:Bool)=>.bool r) (Post:=fun x y r=>True) fun x y hx=> ?_
 obtain⟨hx,hy⟩:=hx
 show ∃r:{r:Bool // True},ay (cf m) 31 [.t x,.t y] [] (.ret (.t (.bool r.1)) [] [])
 have bY:=hx
 obtain⟨v_1,rfl,dY,bh⟩:=T.iZ bY
 subst hy
 obtain⟨U2,abR⟩:=Qy m
 obtain⟨ev,ai,abS⟩:∃ev,aF (cf m) ev∧Has ev 74 (rD (fun x y=>T .aU x∧y=.fn (.func 25)) (fun x y=>.int .i64 (U2 x y))):=⟨_,(ax (dn (fun x y h=>(abR x y h).1)) aH),az⟩
 refine AX.start 9 2 Tryz.func31 rfl (by decide) rfl rfl (by decide) ?_
 refine AX.frames ?_
 refine⟨⟨decide ((U2 (.sl v_1) (.fn (.func 25)))≥0), ?_⟩,kF ah ai [oC (dr abS (x:=.sl v_1) (y:=.fn (.func 25)) ⟨bY,rfl⟩)] (by kernel_rfl)⟩
 trivial
theorem QA (m:Int):∃F:Tree→Tree→Int,∀x y,(T .bP x∧y=.fn (.func 28))→R2 (cf m) 75 x y (.int .i64 (F x y))∧(True):=by
  refine sL (P:=fun x y=>T .bP x∧y=.fn (.func 28)) (mk:=fun(r:Int)=>.int .i64 r) (Post:=fun x y r=>True) fun x y hx=> ?_
  obtain⟨hx,hy⟩:=hx
  show ∃r:{r:Int // True},ay (cf m) 75 [.t x,.t y] [] (.ret (.t (.int .i64 r.1)) [] [])
  have bY:=hx
  obtain⟨v_1,rfl,dY,bh⟩:=T.lG bY
  subst hy
  obtain⟨Zr,afF⟩:=U0 m
  obtain⟨ev,ai,Zs⟩:∃ev,aF (cf m) ev∧Has ev 28 (kY (fun x=>T .aZ x) (fun x=>.bool (Zr x))):=⟨_,(ax (bD (fun x h=>(afF x h).1)) aH),az⟩
  refine AX.start 19 2 Tryz.func75 rfl (by decide) rfl rfl (by decide) ?_
  refine AX.frames ?_
  refine eF (f:=0) (n:=3000) (once:=[]) (k:=19) (T:=0) (S:=[]) (ks:=[]) (live:=[0,1,7,8]) ah ai (α:=Nat) (fun x=>⟨bX 19 [(0,.t (.sl v_1)),(1,.t (.fn (.func 28))),(7,.t (.int .i64 ((v_1.length:Nat):Int))),(8,.t (.int .i64 ((x:Nat):Int)))],[],0⟩) (fun x=>(x≤v_1.length)) (fun x=>v_1.length - x) 0 (iF (Tryz.f75.body.getD .skip) 2) [] (by kernel_rfl) (by show(0≤v_1.length);first|trivial|omega|(refine⟨?_, ?_⟩<;>first|omega|exact SM.nil)|simp) (fun x hok=> ?_)
  obtain⟨i_2,k3⟩:∃y,y=x:=⟨x,rfl⟩
  subst k3
  replace hok:(i_2≤v_1.length):=hok
  have nQ:=hok
  rcases aL (decide (((i_2:Nat):Int)<((v_1.length:Nat):Int))) with bF|bF
  ·
   have kH:=of_decide_eq_true bF
   obtain⟨e4,pW⟩:=ou v_1 i_2 (by first|omega|(simp;omega))
   have kn:=(bh e4 (List.mem_of_getElem? pW))
   obtain⟨tA,ez,eZ,gX,rfl,DI,DJ,DK,DL,UL,UM⟩:=T.eM kn
   rcases aL ((Zr (.agg [.str tA,.sl ez,.sl eZ,.sl gX]))) with qu|qu
   ·
    refine kO ah ai [oB bF,oE pW,oC (bk Zs (x:=.agg [.str tA,.sl ez,.sl eZ,.sl gX]) kn),oB qu] (by kernel_rfl) ?_
    refine⟨⟨((i_2:Nat):Int), ?_⟩,kF ah ai [] (by kernel_rfl)⟩
    trivial
   ·
    exact⟨.inl ⟨i_2+1,⟨(by show(i_2+1)≤v_1.length;omega),(by show(v_1.length - (i_2+1))<(v_1.length - i_2);omega)⟩⟩,bS (f:=0) (n:=3000) (once:=[]) (k:=19) (T:=0) (S:=[]) (ks:=[]) (live:=[0,1,7,8]) ah ai [oB bF,oE pW,oC (bk Zs (x:=.agg [.str tA,.sl ez,.sl eZ,.sl gX]) kn),oB qu,oI (i_2) (by omega)] (by kernel_rfl)⟩
  ·
   have kH:=of_decide_eq_false bF
   refine kO ah ai [oB bF] (by kernel_rfl) ?_
   refine⟨⟨-1, ?_⟩,kF ah ai [] (by kernel_rfl)⟩
   trivial
theorem QB (m:Int):∃F:Tree→Tree→Bool,∀x y,(T .bP x∧y=.fn (.func 28))→R2 (cf m) 32 x y (.bool (F x y))∧(True):=by
 refine sL (P:=fun x y=>T .bP x∧y=.fn (.func 28)) (mk:=fun(r:Bool)=>.bool r) (Post:=fun x y r=>True) fun x y hx=> ?_
 obtain⟨hx,hy⟩:=hx
 show ∃r:{r:Bool // True},ay (cf m) 32 [.t x,.t y] [] (.ret (.t (.bool r.1)) [] [])
 have bY:=hx
 obtain⟨v_1,rfl,dY,bh⟩:=T.lG bY
 subst hy
 obtain⟨U3,abT⟩:=QA m
 obtain⟨ev,ai,abU⟩:∃ev,aF (cf m) ev∧Has ev 75 (rD (fun x y=>T .bP x∧y=.fn (.func 28)) (fun x y=>.int .i64 (U3 x y))):=⟨_,(ax (dn (fun x y h=>(abT x y h).1)) aH),az⟩
 refine AX.start 9 2 Tryz.func32 rfl (by decide) rfl rfl (by decide) ?_
 refine AX.frames ?_
 refine⟨⟨decide ((U3 (.sl v_1) (.fn (.func 28)))≥0), ?_⟩,kF ah ai [oC (dr abU (x:=.sl v_1) (y:=.fn (.func 28)) ⟨bY,rfl⟩)] (by kernel_rfl)⟩
 trivial
theorem U4 (m:Int):∃F:Tree→Int,∀x,(T .aG x)→R1 (cf m) 38 x (.int .i64 (F x))∧((F x)=0→iK (aC 6 [] [] (Gu x))):=by
 refine vz (P:=fun x=>T .aG x) (mk:=fun(r:Int)=>.int .i64 r) (Post:=fun x r=>r=0→iK (aC 6 [] [] (Gu x))) fun x hx=> ?_
 show ∃r:{r:Int // r=0→iK (aC 6 [] [] (Gu x))},ay (cf m) 38 [.t x] [] (.ret (.t (.int .i64 r.1)) [] [])
 have bY:=hx
 obtain⟨mJ,jS,jb,rfl,dY,bh,ji,dD⟩:=T.bu bY
 obtain⟨U5,U6⟩:=zh m
 obtain⟨ev,ai,Be,MF⟩:∃ev,aF (cf m) ev∧Has ev 39 (kY (fun x=>∃l,x=.sl l) U1)∧Has ev 13 (kY (fun x=>T .aB x) (fun x=>.int .i64 (U5 x))):=⟨_,(ax (bD fun x ⟨l,e⟩=>by subst e;exact vg m l) (ax (bD (fun x h=>(U6 x h).1)) aH)),az,(aq rfl az)⟩
 refine AX.start 7 1 Tryz.func38 rfl (by decide) rfl rfl (by decide) ?_
 refine AX.frames ?_
 have hp2:=(U6 (.agg [.int .u8 6,.str [],.sl ([]:List Tree),.sl jb]) (.aB _ _ _ _ (by first|assumption|omega|(simp;done)|(simp;omega)) (by simp) (by first|assumption|omega|(simp;done)|(simp;omega)) dD)).2
 refine⟨⟨(U5 (.agg [.int .u8 6,.str [],.sl ([]:List Tree),.sl jb])), ?_⟩,kF ah ai [oC (bk Be (x:=.sl jb) ⟨_,rfl⟩),oC (bk MF (x:=.agg [.int .u8 6,.str [],.sl ([]:List Tree),.sl jb]) (.aB _ _ _ _ (by first|assumption|omega|(simp;done)|(simp;omega)) (by simp) (by first|assumption|omega|(simp;done)|(simp;omega)) dD))] (by kernel_rfl)⟩
 exact hp2
theorem U7 (m:Int):∃F:Tree→Int,∀x,(T .aZ x)→R1 (cf m) 41 x (.int .i64 (F x))∧(True):=by
 refine vz (P:=fun x=>T .aZ x) (mk:=fun(r:Int)=>.int .i64 r) (Post:=fun x r=>True) fun x hx=> ?_
 show ∃r:{r:Int // True},ay (cf m) 41 [.t x] [] (.ret (.t (.int .i64 r.1)) [] [])
 have bY:=hx
 obtain⟨pP,gq,iM,fG,rfl,dY,bh,ji,dD,MB,wV⟩:=T.eM bY
 obtain⟨U5,U6⟩:=zh m
 obtain⟨ev,ai,Be,MF⟩:∃ev,aF (cf m) ev∧Has ev 39 (kY (fun x=>∃l,x=.sl l) U1)∧Has ev 13 (kY (fun x=>T .aB x) (fun x=>.int .i64 (U5 x))):=⟨_,(ax (bD fun x ⟨l,e⟩=>by subst e;exact vg m l) (ax (bD (fun x h=>(U6 x h).1)) aH)),az,(aq rfl az)⟩
 refine AX.start 7 1 Tryz.func41 rfl (by decide) rfl rfl (by decide) ?_
 refine AX.frames ?_
 have hp2:=(U6 (.agg [.int .u8 6,.str [],.sl ([]:List Tree),.sl fG]) (.aB _ _ _ _ (by first|assumption|omega|(simp;done)|(simp;omega)) (by simp) (by first|assumption|omega|(simp;done)|(simp;omega)) wV)).2
 refine⟨⟨(U5 (.agg [.int .u8 6,.str [],.sl ([]:List Tree),.sl fG])), ?_⟩,kF ah ai [oC (bk Be (x:=.sl fG) ⟨_,rfl⟩),oC (bk MF (x:=.agg [.int .u8 6,.str [],.sl ([]:List Tree),.sl fG]) (.aB _ _ _ _ (by first|assumption|omega|(simp;done)|(simp;omega)) (by simp) (by first|assumption|omega|(simp;done)|(simp;omega)) wV))] (by kernel_rfl)⟩
 trivial
theorem U8 (m:Int):∃F:Tree→Tree→Int,∀x y,(T .aU x∧y=.fn (.func 38))→R2 (cf m) 37 x y (.int .i64 (F x y))∧((F x y)=0→∀t∈kI x,iK (aC 6 [] [] (Gu t))):=by
  refine sL (P:=fun x y=>T .aU x∧y=.fn (.func 38)) (mk:=fun(r:Int)=>.int .i64 r) (Post:=fun x y r=>r=0→∀t∈kI x,iK (aC 6 [] [] (Gu t))) fun x y hx=> ?_
  obtain⟨hx,hy⟩:=hx
  show ∃r:{r:Int // r=0→∀t∈kI x,iK (aC 6 [] [] (Gu t))},ay (cf m) 37 [.t x,.t y] [] (.ret (.t (.int .i64 r.1)) [] [])
  have bY:=hx
  obtain⟨v_1,rfl,dY,bh⟩:=T.iZ bY
  subst hy
  obtain⟨U9,Zt⟩:=U4 m
  obtain⟨ev,ai,Zu⟩:∃ev,aF (cf m) ev∧Has ev 38 (kY (fun x=>T .aG x) (fun x=>.int .i64 (U9 x))):=⟨_,(ax (bD (fun x h=>(Zt x h).1)) aH),az⟩
  refine AX.start 21 2 Tryz.func37 rfl (by decide) rfl rfl (by decide) ?_
  refine AX.frames ?_
  refine eF (f:=0) (n:=3000) (once:=[]) (k:=21) (T:=0) (S:=[]) (ks:=[]) (live:=[1,8,9,10]) ah ai (α:=Nat) (fun x=>⟨bX 21 [(1,.t (.fn (.func 38))),(8,.t (.sl v_1)),(9,.t (.int .i64 ((v_1.length:Nat):Int))),(10,.t (.int .i64 ((x:Nat):Int)))],[],0⟩) (fun x=>(x≤v_1.length)∧(∀j,j<x→∀y,v_1[j]?=some y→iK (aC 6 [] [] (Gu y)))) (fun x=>v_1.length - x) 0 (iF (Tryz.f37.body.getD .skip) 2) [] (by kernel_rfl) ⟨Nat.zero_le _,fun j hj=>absurd hj (Nat.not_lt_zero j)⟩ (fun x hok=> ?_)
  obtain⟨i_2,k3⟩:∃y,y=x:=⟨x,rfl⟩
  subst k3
  replace hok:(i_2≤v_1.length)∧(∀j,j<i_2→∀y,v_1[j]?=some y→iK (aC 6 [] [] (Gu y))):=hok
  obtain⟨nQ,iq⟩:=hok
  rcases aL (decide (((i_2:Nat):Int)<((v_1.length:Nat):Int))) with bF|bF
  ·
   have kH:=of_decide_eq_true bF
   obtain⟨e4,pW⟩:=ou v_1 i_2 (by first|omega|(simp;omega))
   have kn:=(bh e4 (List.mem_of_getElem? pW))
   obtain⟨mK,gG,jT,rfl,DI,DJ,DK,DL⟩:=T.bu kn
   have hp6:=(Zt (.agg [.str mK,.sl gG,.sl jT]) kn).2
   rcases aL (((U9 (.agg [.str mK,.sl gG,.sl jT])) != 0)) with qv|qv
   ·
    have Hf:=aA qv
    refine kO ah ai [oB bF,oE pW,oC (bk Zu (x:=.agg [.str mK,.sl gG,.sl jT]) kn),oB qv] (by kernel_rfl) ?_
    refine⟨⟨(U9 (.agg [.str mK,.sl gG,.sl jT])), ?_⟩,kF ah ai [] (by kernel_rfl)⟩
    exact fun h=>absurd h (aA qv)
   ·
    have Hf:=av qv
    exact⟨.inl ⟨i_2+1,⟨⟨(by show(i_2+1)≤v_1.length;omega),(je (G:=fun y=>iK (aC 6 [] [] (Gu y))) pW (hp6 (av qv)) iq)⟩,(by show(v_1.length - (i_2+1))<(v_1.length - i_2);omega)⟩⟩,bS (f:=0) (n:=3000) (once:=[]) (k:=21) (T:=0) (S:=[]) (ks:=[]) (live:=[1,8,9,10]) ah ai [oB bF,oE pW,oC (bk Zu (x:=.agg [.str mK,.sl gG,.sl jT]) kn),oB qv,oI (i_2) (by omega)] (by kernel_rfl)⟩
  ·
   have kH:=of_decide_eq_false bF
   refine kO ah ai [oB bF] (by kernel_rfl) ?_
   refine⟨⟨0, ?_⟩,kF ah ai [] (by kernel_rfl)⟩
   exact fun _ y hy=>kj (G:=fun y=>iK (aC 6 [] [] (Gu y))) (l:=v_1) (fun j hj=>iq j (by omega)) y hy
theorem Va (m:Int):∃F:Tree→Tree→Int,∀x y,(T .bP x∧y=.fn (.func 41))→R2 (cf m) 40 x y (.int .i64 (F x y))∧(True):=by
  refine sL (P:=fun x y=>T .bP x∧y=.fn (.func 41)) (mk:=fun(r:Int)=>.int .i64 r) (Post:=fun x y r=>True) fun x y hx=> ?_
  obtain⟨hx,hy⟩:=hx
  show ∃r:{r:Int // True},ay (cf m) 40 [.t x,.t y] [] (.ret (.t (.int .i64 r.1)) [] [])
  have bY:=hx
  obtain⟨v_1,rfl,dY,bh⟩:=T.lG bY
  subst hy
  obtain⟨Vb,afG⟩:=U7 m
  obtain⟨ev,ai,Zv⟩:∃ev,aF (cf m) ev∧Has ev 41 (kY (fun x=>T .aZ x) (fun x=>.int .i64 (Vb x))):=⟨_,(ax (bD (fun x h=>(afG x h).1)) aH),az⟩
  refine AX.start 21 2 Tryz.func40 rfl (by decide) rfl rfl (by decide) ?_
  refine AX.frames ?_
  refine eF (f:=0) (n:=3000) (once:=[]) (k:=21) (T:=0) (S:=[]) (ks:=[]) (live:=[1,8,9,10]) ah ai (α:=Nat) (fun x=>⟨bX 21 [(1,.t (.fn (.func 41))),(8,.t (.sl v_1)),(9,.t (.int .i64 ((v_1.length:Nat):Int))),(10,.t (.int .i64 ((x:Nat):Int)))],[],0⟩) (fun x=>(x≤v_1.length)) (fun x=>v_1.length - x) 0 (iF (Tryz.f40.body.getD .skip) 2) [] (by kernel_rfl) (by show(0≤v_1.length);first|trivial|omega|(refine⟨?_, ?_⟩<;>first|omega|exact SM.nil)|simp) (fun x hok=> ?_)
  obtain⟨i_2,k3⟩:∃y,y=x:=⟨x,rfl⟩
  subst k3
  replace hok:(i_2≤v_1.length):=hok
  have nQ:=hok
  rcases aL (decide (((i_2:Nat):Int)<((v_1.length:Nat):Int))) with bF|bF
  ·
   have kH:=of_decide_eq_true bF
   obtain⟨e4,pW⟩:=ou v_1 i_2 (by first|omega|(simp;omega))
   have kn:=(bh e4 (List.mem_of_getElem? pW))
   obtain⟨tA,ez,eZ,gX,rfl,DI,DJ,DK,DL,UL,UM⟩:=T.eM kn
   rcases aL (((Vb (.agg [.str tA,.sl ez,.sl eZ,.sl gX])) != 0)) with qu|qu
   ·
    have G9:=aA qu
    refine kO ah ai [oB bF,oE pW,oC (bk Zv (x:=.agg [.str tA,.sl ez,.sl eZ,.sl gX]) kn),oB qu] (by kernel_rfl) ?_
    refine⟨⟨(Vb (.agg [.str tA,.sl ez,.sl eZ,.sl gX])), ?_⟩,kF ah ai [] (by kernel_rfl)⟩
    trivial
   ·
    have G9:=av qu
    exact⟨.inl ⟨i_2+1,⟨(by show(i_2+1)≤v_1.length;omega),(by show(v_1.length - (i_2+1))<(v_1.length - i_2);omega)⟩⟩,bS (f:=0) (n:=3000) (once:=[]) (k:=21) (T:=0) (S:=[]) (ks:=[]) (live:=[1,8,9,10]) ah ai [oB bF,oE pW,oC (bk Zv (x:=.agg [.str tA,.sl ez,.sl eZ,.sl gX]) kn),oB qu,oI (i_2) (by omega)] (by kernel_rfl)⟩
  ·
   have kH:=of_decide_eq_false bF
   refine kO ah ai [oB bF] (by kernel_rfl) ?_
   refine⟨⟨0, ?_⟩,kF ah ai [] (by kernel_rfl)⟩
   trivial
theorem abV (m:Int)(ts ac:List Tree)(lt:ts.length≤4194304)(ht:∀y∈ts,T .aG y)(la:ac.length≤4194304)(ha:∀y∈ac,T .aZ y)(e:Tree)(he:T .aG e):∃r:Int,ay (cf m) 42 (.t e::[.ptr (.arg 0) 0,.ptr (.arg 1) 0]) [.cells 84 [.t (.fn (.func 30))],.cells 79 [.t (.sl ts),.t (.sl ac)]] (.ret (.t (.int .i64 r)) [.cells 84 [.t (.fn (.func 30))],.cells 79 [.t (.sl ts),.t (.sl ac)]] []):=by
 have bY:=he
 obtain⟨mJ,jS,jb,rfl,dY,bh,ji,dD⟩:=T.bu bY
 obtain⟨lQ,DW⟩:=Bd m
 obtain⟨kW,Az⟩:=zf m
 obtain⟨FW,Vc⟩:=Kk m
 obtain⟨ev,ai,Be,zj,rM,Oz⟩:∃ev,aF (cf m) ev∧Has ev 39 (kY (fun x=>∃l,x=.sl l) U1)∧Has ev 43 (rD (fun x y=>T .bI x∧T .aB y) (fun x y=>.int .i64 (lQ x y)))∧Has ev 44 (rD (fun x y=>T .bI x∧T .aY y) (fun x y=>.bool (kW x y)))∧Has ev 30 (rD (fun x y=>T .dw x∧T .bool y) (fun x y=>.int .i64 (FW x y))):=⟨_,(ax (bD fun x ⟨l,e⟩=>by subst e;exact vg m l) (ax (dn (fun x y h=>(DW x y h))) (ax (dn (fun x y h=>(Az x y h).1)) (ax (dn (fun x y h=>(Vc x y h).1)) aH)))),az,(aq rfl az),(aq rfl (aq rfl az)),(aq rfl (aq rfl (aq rfl az)))⟩
 refine AX.start 16 3 Tryz.func42 rfl (by decide) rfl rfl (by decide) ?_
 refine AX.frames ?_
 exact⟨(FW (.int .i64 (lQ (.agg [.sl ts,.sl ac]) (.agg [.int .u8 6,.str [],.sl ([]:List Tree),.sl jb]))) (.bool (kW (.agg [.sl ts,.sl ac]) (.sl jS)))),kF ah ai [oC (bk Be (x:=.sl jb) ⟨_,rfl⟩),oC (dr zj (x:=.agg [.sl ts,.sl ac]) (y:=.agg [.int .u8 6,.str [],.sl ([]:List Tree),.sl jb]) ⟨(.bI _ _ (by first|assumption|omega|(simp;done)|(simp;omega)) ht (by first|assumption|omega|(simp;done)|(simp;omega)) ha),(.aB _ _ _ _ (by first|assumption|omega|(simp;done)|(simp;omega)) (by simp) (by first|assumption|omega|(simp;done)|(simp;omega)) dD)⟩),oC (dr rM (x:=.agg [.sl ts,.sl ac]) (y:=.sl jS) ⟨(.bI _ _ (by first|assumption|omega|(simp;done)|(simp;omega)) ht (by first|assumption|omega|(simp;done)|(simp;omega)) ha),(.aY _ (by first|assumption|omega|(simp;done)|(simp;omega)) bh)⟩),oC (dr Oz (x:=.int .i64 (lQ (.agg [.sl ts,.sl ac]) (.agg [.int .u8 6,.str [],.sl ([]:List Tree),.sl jb]))) (y:=.bool (kW (.agg [.sl ts,.sl ac]) (.sl jS))) ⟨(.dw _),(.bool _)⟩)] (by kernel_rfl)⟩
theorem abW (m:Int)(ts ac:List Tree)(lt:ts.length≤4194304)(ht:∀y∈ts,T .aG y)(la:ac.length≤4194304)(ha:∀y∈ac,T .aZ y):∃q:Tree→Int,∀e,T .aG e→RK (cf m) 42 [.ptr (.arg 0) 0,.ptr (.arg 1) 0] [.cells 84 [.t (.fn (.func 30))],.cells 79 [.t (.sl ts),.t (.sl ac)]] e (.int .i64 (q e)):=dQ (P:=T .aG) (Q:=fun e r=>RK (cf m) 42 [.ptr (.arg 0) 0,.ptr (.arg 1) 0] [.cells 84 [.t (.fn (.func 30))],.cells 79 [.t (.sl ts),.t (.sl ac)]] e (.int .i64 r)) fun e he=>abV m ts ac lt ht la ha e he
theorem abX (m:Int)(ts ac:List Tree)(lt:ts.length≤4194304)(ht:∀y∈ts,T .aG y)(la:ac.length≤4194304)(ha:∀y∈ac,T .aZ y)(e:Tree)(he:T .aZ e):∃r:Int,ay (cf m) 45 (.t e::[.ptr (.arg 0) 0,.ptr (.arg 1) 0]) [.cells 84 [.t (.fn (.func 30))],.cells 79 [.t (.sl ts),.t (.sl ac)]] (.ret (.t (.int .i64 r)) [.cells 84 [.t (.fn (.func 30))],.cells 79 [.t (.sl ts),.t (.sl ac)]] []):=by
  have bY:=he
  obtain⟨pP,gq,iM,fG,rfl,dY,bh,ji,dD,MB,wV⟩:=T.eM bY
  obtain⟨lQ,DW⟩:=Bd m
  obtain⟨kW,Az⟩:=zf m
  obtain⟨FW,Vc⟩:=Kk m
  obtain⟨ev,ai,Be,zj,rM,Oz⟩:∃ev,aF (cf m) ev∧Has ev 39 (kY (fun x=>∃l,x=.sl l) U1)∧Has ev 43 (rD (fun x y=>T .bI x∧T .aB y) (fun x y=>.int .i64 (lQ x y)))∧Has ev 44 (rD (fun x y=>T .bI x∧T .aY y) (fun x y=>.bool (kW x y)))∧Has ev 30 (rD (fun x y=>T .dw x∧T .bool y) (fun x y=>.int .i64 (FW x y))):=⟨_,(ax (bD fun x ⟨l,e⟩=>by subst e;exact vg m l) (ax (dn (fun x y h=>(DW x y h))) (ax (dn (fun x y h=>(Az x y h).1)) (ax (dn (fun x y h=>(Vc x y h).1)) aH)))),az,(aq rfl az),(aq rfl (aq rfl az)),(aq rfl (aq rfl (aq rfl az)))⟩
  refine AX.start 22 3 Tryz.func45 rfl (by decide) rfl rfl (by decide) ?_
  refine AX.frames ?_
  rcases aL ((kW (.agg [.sl ts,.sl ac]) (.sl gq))) with hg2|hg2
  ·
   exact⟨(FW (.int .i64 (lQ (.agg [.sl ts,.sl ac]) (.agg [.int .u8 6,.str [],.sl ([]:List Tree),.sl fG]))) (.bool true)),kF ah ai [oC (bk Be (x:=.sl fG) ⟨_,rfl⟩),oC (dr zj (x:=.agg [.sl ts,.sl ac]) (y:=.agg [.int .u8 6,.str [],.sl ([]:List Tree),.sl fG]) ⟨(.bI _ _ (by first|assumption|omega|(simp;done)|(simp;omega)) ht (by first|assumption|omega|(simp;done)|(simp;omega)) ha),(.aB _ _ _ _ (by first|assumption|omega|(simp;done)|(simp;omega)) (by simp) (by first|assumption|omega|(simp;done)|(simp;omega)) wV)⟩),oC (dr rM (x:=.agg [.sl ts,.sl ac]) (y:=.sl gq) ⟨(.bI _ _ (by first|assumption|omega|(simp;done)|(simp;omega)) ht (by first|assumption|omega|(simp;done)|(simp;omega)) ha),(.aY _ (by first|assumption|omega|(simp;done)|(simp;omega)) bh)⟩),oB hg2,oB hg2,oB hg2,oB hg2,oB hg2,oC (dr Oz (x:=.int .i64 (lQ (.agg [.sl ts,.sl ac]) (.agg [.int .u8 6,.str [],.sl ([]:List Tree),.sl fG]))) (y:=.bool true) ⟨(.dw _),(.bool _)⟩)] (by kernel_rfl)⟩
  ·
   exact⟨(FW (.int .i64 (lQ (.agg [.sl ts,.sl ac]) (.agg [.int .u8 6,.str [],.sl ([]:List Tree),.sl fG]))) (.bool (kW (.agg [.sl ts,.sl ac]) (.sl iM)))),kF ah ai [oC (bk Be (x:=.sl fG) ⟨_,rfl⟩),oC (dr zj (x:=.agg [.sl ts,.sl ac]) (y:=.agg [.int .u8 6,.str [],.sl ([]:List Tree),.sl fG]) ⟨(.bI _ _ (by first|assumption|omega|(simp;done)|(simp;omega)) ht (by first|assumption|omega|(simp;done)|(simp;omega)) ha),(.aB _ _ _ _ (by first|assumption|omega|(simp;done)|(simp;omega)) (by simp) (by first|assumption|omega|(simp;done)|(simp;omega)) wV)⟩),oC (dr rM (x:=.agg [.sl ts,.sl ac]) (y:=.sl gq) ⟨(.bI _ _ (by first|assumption|omega|(simp;done)|(simp;omega)) ht (by first|assumption|omega|(simp;done)|(simp;omega)) ha),(.aY _ (by first|assumption|omega|(simp;done)|(simp;omega)) bh)⟩),oB hg2,oB hg2,oB hg2,oB hg2,oC (dr rM (x:=.agg [.sl ts,.sl ac]) (y:=.sl iM) ⟨(.bI _ _ (by first|assumption|omega|(simp;done)|(simp;omega)) ht (by first|assumption|omega|(simp;done)|(simp;omega)) ha),(.aY _ (by first|assumption|omega|(simp;done)|(simp;omega)) dD)⟩),oB hg2,oC (dr Oz (x:=.int .i64 (lQ (.agg [.sl ts,.sl ac]) (.agg [.int .u8 6,.str [],.sl ([]:List Tree),.sl fG]))) (y:=.bool (kW (.agg [.sl ts,.sl ac]) (.sl iM))) ⟨(.dw _),(.bool _)⟩)] (by kernel_rfl)⟩
theorem abY (m:Int)(ts ac:List Tree)(lt:ts.length≤4194304)(ht:∀y∈ts,T .aG y)(la:ac.length≤4194304)(ha:∀y∈ac,T .aZ y):∃q:Tree→Int,∀e,T .aZ e→RK (cf m) 45 [.ptr (.arg 0) 0,.ptr (.arg 1) 0] [.cells 84 [.t (.fn (.func 30))],.cells 79 [.t (.sl ts),.t (.sl ac)]] e (.int .i64 (q e)):=dQ (P:=T .aZ) (Q:=fun e r=>RK (cf m) 45 [.ptr (.arg 0) 0,.ptr (.arg 1) 0] [.cells 84 [.t (.fn (.func 30))],.cells 79 [.t (.sl ts),.t (.sl ac)]] e (.int .i64 r)) fun e he=>abX m ts ac lt ht la ha e he
theorem abZ (m:Int)(ts ac:List Tree)(lt:ts.length≤4194304)(ht:∀y∈ts,T .aG y)(la:ac.length≤4194304)(ha:∀y∈ac,T .aZ y)(q:Tree→Int)(hq:∀e,T .aG e→RK (cf m) 42 [.ptr (.arg 0) 0,.ptr (.arg 1) 0] [.cells 84 [.t (.fn (.func 30))],.cells 79 [.t (.sl ts),.t (.sl ac)]] e (.int .i64 (q e)))(l:List Tree)(hl:l.length≤4194304)(hl2:∀y∈l,T .aG y):∃r:Int,ay (cf m) 37 (.t (.sl l)::[.fn (.func 42) [] [.ptr (.arg 0) 0,.ptr (.arg 1) 0]]) [.cells 84 [.t (.fn (.func 30))],.cells 79 [.t (.sl ts),.t (.sl ac)]] (.ret (.t (.int .i64 r)) [.cells 84 [.t (.fn (.func 30))],.cells 79 [.t (.sl ts),.t (.sl ac)]] []):=by
  obtain⟨ev,ai,e_q⟩:∃ev,aF (cf m) ev∧Has ev 42 (pk [.ptr (.arg 0) 0,.ptr (.arg 1) 0] [.cells 84 [.t (.fn (.func 30))],.cells 79 [.t (.sl ts),.t (.sl ac)]] (T .aG) fun x=>.int .i64 (q x)):=⟨_,(ax (Ft hq) aH),az⟩
  refine AX.start 21 2 Tryz.func37 rfl (by decide) rfl rfl (by decide) ?_
  refine AX.frames ?_
  refine eF (f:=0) (n:=3000) (once:=[]) (k:=21) (T:=0) (S:=[]) (ks:=[.arg 0,.arg 1]) (live:=[1,8,9,10]) ah ai (α:=Nat) (fun x=>⟨bX 21 [(1,.fn (.func 42) [] [.ptr (.arg 0) 0,.ptr (.arg 1) 0]),(8,.t (.sl l)),(9,.t (.int .i64 ((l.length:Nat):Int))),(10,.t (.int .i64 ((x:Nat):Int)))],[(.arg 0,.cells 84 [.t (.fn (.func 30))]),(.arg 1,.cells 79 [.t (.sl ts),.t (.sl ac)])],0⟩) (fun x=>(x≤l.length)) (fun x=>l.length - x) 0 (iF (Tryz.f37.body.getD .skip) 2) [] (by kernel_rfl) (by show(0≤l.length);first|trivial|omega|(refine⟨?_, ?_⟩<;>first|omega|exact SM.nil)|simp) (fun x hok=> ?_)
  obtain⟨i_1,k3⟩:∃y,y=x:=⟨x,rfl⟩
  subst k3
  replace hok:(i_1≤l.length):=hok
  have jR:=hok
  rcases aL (decide (((i_1:Nat):Int)<((l.length:Nat):Int))) with bE|bE
  ·
   have gR:=of_decide_eq_true bE
   obtain⟨e3,iD⟩:=ou l i_1 (by first|omega|(simp;omega))
   have jw:=(hl2 e3 (List.mem_of_getElem? iD))
   obtain⟨gU,gW,iw,rfl,qI,nI,qJ,lN⟩:=T.bu jw
   rcases aL (((q (.agg [.str gU,.sl gW,.sl iw])) != 0)) with jX|jX
   ·
    have wG:=aA jX
    refine kO ah ai [oB bE,oE iD,oC (Af e_q (x:=.agg [.str gU,.sl gW,.sl iw]) jw),oB jX] (by kernel_rfl) ?_
    exact⟨(q (.agg [.str gU,.sl gW,.sl iw])),kF ah ai [] (by kernel_rfl)⟩
   ·
    have wG:=av jX
    exact⟨.inl ⟨i_1+1,⟨(by show(i_1+1)≤l.length;omega),(by show(l.length - (i_1+1))<(l.length - i_1);omega)⟩⟩,bS (f:=0) (n:=3000) (once:=[]) (k:=21) (T:=0) (S:=[]) (ks:=[.arg 0,.arg 1]) (live:=[1,8,9,10]) ah ai [oB bE,oE iD,oC (Af e_q (x:=.agg [.str gU,.sl gW,.sl iw]) jw),oB jX,oI (i_1) (by omega)] (by kernel_rfl)⟩
  ·
   have gR:=of_decide_eq_false bE
   refine kO ah ai [oB bE] (by kernel_rfl) ?_
   exact⟨0,kF ah ai [] (by kernel_rfl)⟩
theorem ab0 (m:Int)(ts ac:List Tree)(lt:ts.length≤4194304)(ht:∀y∈ts,T .aG y)(la:ac.length≤4194304)(ha:∀y∈ac,T .aZ y)(q:Tree→Int)(hq:∀e,T .aZ e→RK (cf m) 45 [.ptr (.arg 0) 0,.ptr (.arg 1) 0] [.cells 84 [.t (.fn (.func 30))],.cells 79 [.t (.sl ts),.t (.sl ac)]] e (.int .i64 (q e)))(l:List Tree)(hl:l.length≤4194304)(hl2:∀y∈l,T .aZ y):∃r:Int,ay (cf m) 40 (.t (.sl l)::[.fn (.func 45) [] [.ptr (.arg 0) 0,.ptr (.arg 1) 0]]) [.cells 84 [.t (.fn (.func 30))],.cells 79 [.t (.sl ts),.t (.sl ac)]] (.ret (.t (.int .i64 r)) [.cells 84 [.t (.fn (.func 30))],.cells 79 [.t (.sl ts),.t (.sl ac)]] []):=by
  obtain⟨ev,ai,e_q⟩:∃ev,aF (cf m) ev∧Has ev 45 (pk [.ptr (.arg 0) 0,.ptr (.arg 1) 0] [.cells 84 [.t (.fn (.func 30))],.cells 79 [.t (.sl ts),.t (.sl ac)]] (T .aZ) fun x=>.int .i64 (q x)):=⟨_,(ax (Ft hq) aH),az⟩
  refine AX.start 21 2 Tryz.func40 rfl (by decide) rfl rfl (by decide) ?_
  refine AX.frames ?_
  refine eF (f:=0) (n:=3000) (once:=[]) (k:=21) (T:=0) (S:=[]) (ks:=[.arg 0,.arg 1]) (live:=[1,8,9,10]) ah ai (α:=Nat) (fun x=>⟨bX 21 [(1,.fn (.func 45) [] [.ptr (.arg 0) 0,.ptr (.arg 1) 0]),(8,.t (.sl l)),(9,.t (.int .i64 ((l.length:Nat):Int))),(10,.t (.int .i64 ((x:Nat):Int)))],[(.arg 0,.cells 84 [.t (.fn (.func 30))]),(.arg 1,.cells 79 [.t (.sl ts),.t (.sl ac)])],0⟩) (fun x=>(x≤l.length)) (fun x=>l.length - x) 0 (iF (Tryz.f40.body.getD .skip) 2) [] (by kernel_rfl) (by show(0≤l.length);first|trivial|omega|(refine⟨?_, ?_⟩<;>first|omega|exact SM.nil)|simp) (fun x hok=> ?_)
  obtain⟨i_1,k3⟩:∃y,y=x:=⟨x,rfl⟩
  subst k3
  replace hok:(i_1≤l.length):=hok
  have jR:=hok
  rcases aL (decide (((i_1:Nat):Int)<((l.length:Nat):Int))) with bE|bE
  ·
   have gR:=of_decide_eq_true bE
   obtain⟨e3,iD⟩:=ou l i_1 (by first|omega|(simp;omega))
   have jw:=(hl2 e3 (List.mem_of_getElem? iD))
   obtain⟨DX,jc,jI,mL,rfl,qI,nI,qJ,lN,ab1,Vd⟩:=T.eM jw
   rcases aL (((q (.agg [.str DX,.sl jc,.sl jI,.sl mL])) != 0)) with jX|jX
   ·
    have wG:=aA jX
    refine kO ah ai [oB bE,oE iD,oC (Af e_q (x:=.agg [.str DX,.sl jc,.sl jI,.sl mL]) jw),oB jX] (by kernel_rfl) ?_
    exact⟨(q (.agg [.str DX,.sl jc,.sl jI,.sl mL])),kF ah ai [] (by kernel_rfl)⟩
   ·
    have wG:=av jX
    exact⟨.inl ⟨i_1+1,⟨(by show(i_1+1)≤l.length;omega),(by show(l.length - (i_1+1))<(l.length - i_1);omega)⟩⟩,bS (f:=0) (n:=3000) (once:=[]) (k:=21) (T:=0) (S:=[]) (ks:=[.arg 0,.arg 1]) (live:=[1,8,9,10]) ah ai [oB bE,oE iD,oC (Af e_q (x:=.agg [.str DX,.sl jc,.sl jI,.sl mL]) jw),oB jX,oI (i_1) (by omega)] (by kernel_rfl)⟩
  ·
   have gR:=of_decide_eq_false bE
   refine kO ah ai [oB bE] (by kernel_rfl) ?_
   exact⟨0,kF ah ai [] (by kernel_rfl)⟩
theorem uH (m:Int):∃F:Tree→Int,∀x,(T .cR x)→R1 (cf m) 16 x (.int .i64 (F x))∧(((F x)=0→∀y∈kI x,y=.int .i64 0)∧((∀y∈kI x,y=.int .i64 0)→(F x)=0)):=by
  refine vz (P:=fun x=>T .cR x) (mk:=fun(r:Int)=>.int .i64 r) (Post:=fun x r=>(r=0→∀y∈kI x,y=.int .i64 0)∧((∀y∈kI x,y=.int .i64 0)→r=0)) fun x hx=> ?_
  show ∃r:{r:Int //(r=0→∀y∈kI x,y=.int .i64 0)∧((∀y∈kI x,y=.int .i64 0)→r=0)},ay (cf m) 16 [.t x] [] (.ret (.t (.int .i64 r.1)) [] [])
  have bY:=hx
  obtain⟨v_1,rfl,dY,bh⟩:=T.Ew bY
  obtain⟨ev,ai⟩:∃ev,aF (cf m) ev:=⟨_,aH⟩
  refine AX.start 18 1 Tryz.func16 rfl (by decide) rfl rfl (by decide) ?_
  refine AX.frames ?_
  refine eF (f:=0) (n:=3000) (once:=[]) (k:=18) (T:=0) (S:=[]) (ks:=[]) (live:=[3,6,7,8]) ah ai (α:=Nat) (fun x=>⟨bX 18 [(3,.t (.int .i64 0)),(6,.t (.sl v_1)),(7,.t (.int .i64 ((v_1.length:Nat):Int))),(8,.t (.int .i64 ((x:Nat):Int)))],[],0⟩) (fun x=>(x≤v_1.length)∧(∀j,j<x→∀y,v_1[j]?=some y→y=.int .i64 0)) (fun x=>v_1.length - x) 0 (iF (Tryz.f16.body.getD .skip) 3) [] (by kernel_rfl) ⟨Nat.zero_le _,fun j hj=>absurd hj (Nat.not_lt_zero j)⟩ (fun x hok=> ?_)
  obtain⟨i_2,k3⟩:∃y,y=x:=⟨x,rfl⟩
  subst k3
  replace hok:(i_2≤v_1.length)∧(∀j,j<i_2→∀y,v_1[j]?=some y→y=.int .i64 0):=hok
  obtain⟨nQ,iq⟩:=hok
  rcases aL (decide (((i_2:Nat):Int)<((v_1.length:Nat):Int))) with bF|bF
  ·
   have kH:=of_decide_eq_true bF
   obtain⟨e4,pW⟩:=ou v_1 i_2 (by first|omega|(simp;omega))
   have kn:=(bh e4 (List.mem_of_getElem? pW))
   obtain⟨Wq,rfl⟩:=T.ym kn
   rcases aL ((Wq != 0)) with qu|qu
   ·
    have G9:=aA qu
    refine kO ah ai [oB bF,oE pW,oB qu] (by kernel_rfl) ?_
    refine⟨⟨Wq, ?_⟩,kF ah ai [] (by kernel_rfl)⟩
    exact⟨fun h=>absurd h (aA qu),fun h=>absurd (Tree.int.inj (h _ (List.mem_of_getElem? pW))).2 (aA qu)⟩
   ·
    have G9:=av qu
    exact⟨.inl ⟨i_2+1,⟨⟨(by show(i_2+1)≤v_1.length;omega),(je (G:=fun y=>y=.int .i64 0) pW (congrArg (Tree.int .i64) (av qu)) iq)⟩,(by show(v_1.length - (i_2+1))<(v_1.length - i_2);omega)⟩⟩,bS (f:=0) (n:=3000) (once:=[]) (k:=18) (T:=0) (S:=[]) (ks:=[]) (live:=[3,6,7,8]) ah ai [oB bF,oE pW,oB qu,oI (i_2) (by omega)] (by kernel_rfl)⟩
  ·
   have kH:=of_decide_eq_false bF
   refine kO ah ai [oB bF] (by kernel_rfl) ?_
   refine⟨⟨0, ?_⟩,kF ah ai [] (by kernel_rfl)⟩
   exact⟨fun _ y hy=>kj (G:=fun y=>y=.int .i64 0) (l:=v_1) (fun j hj=>iq j (by omega)) y hy,fun _=>rfl⟩
end
end Go.Proofs.YtijfhoelihclbaaGreatDoor.w.e

namespace Go.Proofs.YtijfhoelihclbaaGreatDoor.w.e
open Go Go.Abs Go.Abs.Ty
set_option linter.unusedVariables false
set_option maxRecDepth 100000
set_option maxHeartbeats 2000000
noncomputable section
theorem DY (m:Int):∃F:Tree→Int,∀x,(T .eE x)→R1 (cf m) 11 x (.int .i64 (F x))∧((F x)=0→∀t∈Oy x,iK (aC 6 [] [] (Gu t))):=by
  refine vz (P:=fun x=>T .eE x) (mk:=fun(r:Int)=>.int .i64 r) (Post:=fun x r=>r=0→∀t∈Oy x,iK (aC 6 [] [] (Gu t))) fun x hx=> ?_
  show ∃r:{r:Int // r=0→∀t∈Oy x,iK (aC 6 [] [] (Gu t))},ay (cf m) 11 [.t x] [] (.ret (.t (.int .i64 r.1)) [] [])
  have bY:=hx
  obtain⟨dc,bM,rfl,dY,bh,ji,dD⟩:=T.vK bY
  obtain⟨Ve,ab2⟩:=Qz m
  obtain⟨Vf,ab3⟩:=QB m
  obtain⟨Zw,afH⟩:=UG m
  obtain⟨Zx,afI⟩:=UJ m
  obtain⟨fp,hp⟩:=U8 m
  obtain⟨qp,hqp⟩:=abW m dc bM (by first|assumption|omega|(simp;done)|(simp;omega)) bh (by first|assumption|omega|(simp;done)|(simp;omega)) dD
  obtain⟨rp,hrp⟩:=abZ m dc bM (by first|assumption|omega|(simp;done)|(simp;omega)) bh (by first|assumption|omega|(simp;done)|(simp;omega)) dD qp hqp dc (by first|assumption|omega|(simp;done)|(simp;omega)) bh
  obtain⟨fq,hq⟩:=Va m
  obtain⟨qq,hqq⟩:=abY m dc bM (by first|assumption|omega|(simp;done)|(simp;omega)) bh (by first|assumption|omega|(simp;done)|(simp;omega)) dD
  obtain⟨rq,hrq⟩:=ab0 m dc bM (by first|assumption|omega|(simp;done)|(simp;omega)) bh (by first|assumption|omega|(simp;done)|(simp;omega)) dD qq hqq bM (by first|assumption|omega|(simp;done)|(simp;omega)) dD
  obtain⟨Zy,Zz⟩:=uH m
  obtain⟨ev,ai,DZ,HI,Vg,ZA,afJ,afK,afL⟩:∃ev,aF (cf m) ev∧Has ev 31 (rD (fun x y=>T .aU x∧y=.fn (.func 25)) (fun x y=>.bool (Ve x y)))∧Has ev 32 (rD (fun x y=>T .bP x∧y=.fn (.func 28)) (fun x y=>.bool (Vf x y)))∧Has ev 33 (rD (fun x y=>T .aU x∧y=.fn (.func 34)) (fun x y=>.bool (Zw x y)))∧Has ev 35 (rD (fun x y=>T .bP x∧y=.fn (.func 36)) (fun x y=>.bool (Zx x y)))∧Has ev 37 (Ki (rD (fun x y=>T .aU x∧y=.fn (.func 38)) (fun x y=>.int .i64 (fp x y))) (px (.t (.sl dc)::[.fn (.func 42) [] [.ptr (.arg 0) 0,.ptr (.arg 1) 0]]) [.cells 84 [.t (.fn (.func 30))],.cells 79 [.t (.sl dc),.t (.sl bM)]] (.ret (.t (.int .i64 rp)) [.cells 84 [.t (.fn (.func 30))],.cells 79 [.t (.sl dc),.t (.sl bM)]] [])))∧Has ev 40 (Ki (rD (fun x y=>T .bP x∧y=.fn (.func 41)) (fun x y=>.int .i64 (fq x y))) (px (.t (.sl bM)::[.fn (.func 45) [] [.ptr (.arg 0) 0,.ptr (.arg 1) 0]]) [.cells 84 [.t (.fn (.func 30))],.cells 79 [.t (.sl dc),.t (.sl bM)]] (.ret (.t (.int .i64 rq)) [.cells 84 [.t (.fn (.func 30))],.cells 79 [.t (.sl dc),.t (.sl bM)]] [])))∧Has ev 16 (kY (fun x=>T .cR x) (fun x=>.int .i64 (Zy x))):=⟨_,(ax (dn (fun x y h=>(ab2 x y h).1)) (ax (dn (fun x y h=>(ab3 x y h).1)) (ax (dn (fun x y h=>(afH x y h).1)) (ax (dn (fun x y h=>(afI x y h).1)) (ax ((Ow (dn fun x y h=>(hp x y h).1) (kV hrp))) (ax ((Ow (dn fun x y h=>(hq x y h).1) (kV hrq))) (ax (bD (fun x h=>(Zz x h).1)) aH))))))),az,(aq rfl az),(aq rfl (aq rfl az)),(aq rfl (aq rfl (aq rfl az))),(aq rfl (aq rfl (aq rfl (aq rfl az)))),(aq rfl (aq rfl (aq rfl (aq rfl (aq rfl az))))),(aq rfl (aq rfl (aq rfl (aq rfl (aq rfl (aq rfl az))))))⟩
  refine AX.start 54 1 Tryz.func11 rfl (by decide) rfl rfl (by decide) ?_
  refine AX.frames ?_
  rcases aL (decide ((max ((dc.length:Nat):Int) ((bM.length:Nat):Int))>16)) with bE|bE
  ·
   have gR:=of_decide_eq_true bE
   refine⟨⟨2, ?_⟩,kF ah ai [oG .i64 ((dc.length:Nat):Int) ((bM.length:Nat):Int),oB bE] (by kernel_rfl)⟩
   exact fun h=>absurd h (by decide)
  ·
   have gR:=of_decide_eq_false bE
   rcases aL ((Ve (.sl dc) (.fn (.func 25)))) with hg3|hg3
   ·
    refine⟨⟨5, ?_⟩,kF ah ai [oG .i64 ((dc.length:Nat):Int) ((bM.length:Nat):Int),oB bE,oC (dr DZ (x:=.sl dc) (y:=.fn (.func 25)) ⟨(.aU _ (by first|assumption|omega|(simp;done)|(simp;omega)) bh),rfl⟩),oB hg3,oB hg3,oB hg3,oB hg3,oB hg3,oT] (by kernel_rfl)⟩
    exact fun h=>absurd h (by decide)
   ·
    rcases aL ((Vf (.sl bM) (.fn (.func 28)))) with rU|rU
    ·
     refine⟨⟨5, ?_⟩,kF ah ai [oG .i64 ((dc.length:Nat):Int) ((bM.length:Nat):Int),oB bE,oC (dr DZ (x:=.sl dc) (y:=.fn (.func 25)) ⟨(.aU _ (by first|assumption|omega|(simp;done)|(simp;omega)) bh),rfl⟩),oB hg3,oB hg3,oB hg3,oB hg3,oC (dr HI (x:=.sl bM) (y:=.fn (.func 28)) ⟨(.bP _ (by first|assumption|omega|(simp;done)|(simp;omega)) dD),rfl⟩),oB hg3,oB rU] (by kernel_rfl)⟩
     exact fun h=>absurd h (by decide)
    ·
     rcases aL ((Zw (.sl dc) (.fn (.func 34)))) with bw|bw
     ·
      refine⟨⟨10, ?_⟩,kF ah ai [oG .i64 ((dc.length:Nat):Int) ((bM.length:Nat):Int),oB bE,oC (dr DZ (x:=.sl dc) (y:=.fn (.func 25)) ⟨(.aU _ (by first|assumption|omega|(simp;done)|(simp;omega)) bh),rfl⟩),oB hg3,oB hg3,oB hg3,oB hg3,oC (dr HI (x:=.sl bM) (y:=.fn (.func 28)) ⟨(.bP _ (by first|assumption|omega|(simp;done)|(simp;omega)) dD),rfl⟩),oB hg3,oB rU,oC (dr Vg (x:=.sl dc) (y:=.fn (.func 34)) ⟨(.aU _ (by first|assumption|omega|(simp;done)|(simp;omega)) bh),rfl⟩),oB bw,oB bw,oB bw,oB bw,oT] (by kernel_rfl)⟩
      exact fun h=>absurd h (by decide)
     ·
      rcases aL ((Zx (.sl bM) (.fn (.func 36)))) with qu|qu
      ·
       refine⟨⟨10, ?_⟩,kF ah ai [oG .i64 ((dc.length:Nat):Int) ((bM.length:Nat):Int),oB bE,oC (dr DZ (x:=.sl dc) (y:=.fn (.func 25)) ⟨(.aU _ (by first|assumption|omega|(simp;done)|(simp;omega)) bh),rfl⟩),oB hg3,oB hg3,oB hg3,oB hg3,oC (dr HI (x:=.sl bM) (y:=.fn (.func 28)) ⟨(.bP _ (by first|assumption|omega|(simp;done)|(simp;omega)) dD),rfl⟩),oB hg3,oB rU,oC (dr Vg (x:=.sl dc) (y:=.fn (.func 34)) ⟨(.aU _ (by first|assumption|omega|(simp;done)|(simp;omega)) bh),rfl⟩),oB bw,oB bw,oB bw,oC (dr ZA (x:=.sl bM) (y:=.fn (.func 36)) ⟨(.bP _ (by first|assumption|omega|(simp;done)|(simp;omega)) dD),rfl⟩),oB bw,oB qu] (by kernel_rfl)⟩
       exact fun h=>absurd h (by decide)
      ·
       refine⟨⟨(Zy (.sl [.int .i64 (fp (.sl dc) (.fn (.func 38))),.int .i64 (fq (.sl bM) (.fn (.func 41))),.int .i64 rp,.int .i64 rq])), ?_⟩,kF ah ai [oG .i64 ((dc.length:Nat):Int) ((bM.length:Nat):Int),oB bE,oC (dr DZ (x:=.sl dc) (y:=.fn (.func 25)) ⟨(.aU _ (by first|assumption|omega|(simp;done)|(simp;omega)) bh),rfl⟩),oB hg3,oB hg3,oB hg3,oB hg3,oC (dr HI (x:=.sl bM) (y:=.fn (.func 28)) ⟨(.bP _ (by first|assumption|omega|(simp;done)|(simp;omega)) dD),rfl⟩),oB hg3,oB rU,oC (dr Vg (x:=.sl dc) (y:=.fn (.func 34)) ⟨(.aU _ (by first|assumption|omega|(simp;done)|(simp;omega)) bh),rfl⟩),oB bw,oB bw,oB bw,oC (dr ZA (x:=.sl bM) (y:=.fn (.func 36)) ⟨(.bP _ (by first|assumption|omega|(simp;done)|(simp;omega)) dD),rfl⟩),oB bw,oB qu,oC (dr (Ox afJ) (x:=.sl dc) (y:=.fn (.func 38)) ⟨(.aU _ (by first|assumption|omega|(simp;done)|(simp;omega)) bh),rfl⟩),oC (dr (Ox afK) (x:=.sl bM) (y:=.fn (.func 41)) ⟨(.bP _ (by first|assumption|omega|(simp;done)|(simp;omega)) dD),rfl⟩),oC (Zo afJ rfl),oC (Zo afK rfl),oC (bk afL (x:=.sl [.int .i64 (fp (.sl dc) (.fn (.func 38))),.int .i64 (fq (.sl bM) (.fn (.func 41))),.int .i64 rp,.int .i64 rq]) (.cR _ (by simp) (by intro y hy;simp only[List.mem_cons,List.not_mem_nil,or_false] at hy;rcases hy with rfl|rfl|rfl|rfl<;>exact .dw _)))] (by kernel_rfl)⟩
       exact fun h=>(hp (.sl dc) (.fn (.func 38)) ⟨(.aU _ (by first|assumption|omega|(simp;done)|(simp;omega)) bh),rfl⟩).2 (Tree.int.inj ((Zz (.sl [.int .i64 (fp (.sl dc) (.fn (.func 38))),.int .i64 (fq (.sl bM) (.fn (.func 41))),.int .i64 rp,.int .i64 rq]) (.cR _ (by simp) (by intro y hy;simp only[List.mem_cons,List.not_mem_nil,or_false] at hy;rcases hy with rfl|rfl|rfl|rfl<;>exact .dw _))).2.1 h _ List.mem_cons_self)).2
end
end Go.Proofs.YtijfhoelihclbaaGreatDoor.w.e

namespace Go.Proofs.YtijfhoelihclbaaGreatDoor.w.e
open Go Go.Abs Go.Abs.Ty
set_option linter.unusedVariables false
set_option maxRecDepth 100000
set_option maxHeartbeats 2000000
noncomputable section
theorem MG {l:List Tree}(h:∀y∈l,T .string y):fA false 1 l:=fun y hy=>by
 obtain⟨v,rfl⟩:=T.cT (h y hy)
 exact⟨rfl,rfl,rfl⟩
theorem jJ {l:List Tree}(h:∀y∈l,T .aB y):fA true 4 l:=fun y hy=>by
 obtain⟨kind,name,Wn,attrs,rfl,_,_,_,_⟩:=T.aT (h y hy)
 exact⟨rfl,rfl,rfl⟩
theorem jK {l:List Tree}(h:∀y∈l,T .bx y):fA true 5 l:=fun y hy=>by
 obtain⟨name,oq,ot,mO,iA,rfl,_,_,_,_⟩:=T.eY (h y hy)
 exact⟨rfl,rfl,rfl⟩
theorem X5 {m:Int}{ev:aS}(ai:aF (cf m) ev):ay (cf m) 52 [.t (.sl [])] [] (.ret (.t (.sl [])) [] []):=by
 refine mD 8 1 Tryz.func52 rfl (by decide) rfl rfl (by decide) ?_
 refine AW.seq ?_
 refine AW.region ?_
 refine eH.go (f:=0) ai (by first|exact fE rfl|exact aj rfl) ?_
 refine eH.nil ?_
 refine AW.seq ?_
 refine AW.seq ?_
 refine AW.region ?_
 refine eH.go (f:=0) ai (by first|exact kz rfl|exact ak rfl) ?_
 refine eH.PJ rfl rfl sI rfl (fun b hb=> ?_)
 refine eH.nil ?_
 refine AW.cond rfl (fun h4=> ?_) (fun h4=> ?_)
 ·
  refine AW.seq ?_
  refine AW.region ?_
  refine eH.go (f:=0) ai (by first|exact fE rfl|exact aj rfl) ?_
  refine eH.nil ?_
  refine AW.ret ?_
  exact .inl rfl
 ·
  refine AW.skip ?_
  refine AW.seq ?_
  refine AW.region ?_
  refine eH.go (f:=0) ai (z8 rfl sI rfl j9 rfl rfl) ?_
  refine eH.go (f:=0) ai (by first|exact kz rfl|exact ak rfl) ?_
  refine eH.go (f:=0) ai (Ls YX rfl rfl (.inl (.inl rfl)) (.inr (.inr ⟨_,rfl⟩))) ?_
  refine eH.go (f:=0) ai (by first|exact fE rfl|exact aj rfl) ?_
  refine eH.nil ?_
  refine AW.ret ?_
  exact .inl rfl
theorem X6 {m:Int}{ev:aS}(ai:aF (cf m) ev)(es:List Tree)(hne:es≠ [])(hu:fA false 1 es)(hl:es.length≤4194304):
  ay (cf m) 52 [.t (.sl es)] [] (.ret (.t (.sl es)) [] []):=by
 refine mD 8 1 Tryz.func52 rfl (by decide) rfl rfl (by decide) ?_
 refine AW.seq ?_
 refine AW.region ?_
 refine eH.go (f:=0) ai (by first|exact fE rfl|exact aj rfl) ?_
 refine eH.nil ?_
 refine AW.seq ?_
 refine AW.seq ?_
 refine AW.region ?_
 refine eH.go (f:=0) ai (by first|exact kz rfl|exact ak rfl) ?_
 refine eH.PJ rfl rfl sI rfl (fun b hb=> ?_)
 have hb:=hb hne
 subst hb
 refine eH.nil ?_
 refine AW.cond rfl (fun h=>absurd h (by decide)) (fun h=> ?_)
 refine AW.skip ?_
 refine AW.seq ?_
 refine AW.region ?_
 refine eH.go (f:=0) ai (z8 rfl sI rfl j9 rfl rfl) ?_
 refine eH.go (f:=0) ai (by first|exact kz rfl|exact ak rfl) ?_
 refine eH.go (f:=0) ai (Lr YX rfl rfl (.inl rfl) hu hne (by show es.length*16≤70368744177664;omega)) ?_
 refine eH.go (f:=0) ai (by first|exact fE rfl|exact aj rfl) ?_
 refine eH.nil ?_
 refine AW.ret ?_
 exact .inl (R8 rfl (x7 rfl hu (by decide) rfl rfl))
theorem Vh (m:Int):∀x,T .aY x→R1 (cf m) 52 x x:=fun x hx=>by
 obtain⟨l,rfl,hl,h2⟩:=T.ij hx
 by_cases h:l=[]
 · subst h;exact X5 aH
 · exact X6 aH l h (MG h2) hl
theorem ab4 (m:Int)(k:Int)(s:List UInt8)(os:List Tree)(hne:os≠ [])(lo:os.length≤4194304)(ho:∀y∈os,T .aB y)(hO:∀y∈os,R1 (cf m) 94 y y)(bs:List Tree)(lb:bs.length≤4194304)(hb:∀y∈bs,T .bx y)(hA:R1 (cf m) 53 (.sl bs) (.sl bs)):R1 (cf m) 94 (aC k s os bs) (aC k s os bs):=by
  obtain⟨ev,ai,iG,MH,rK⟩:∃ev,aF (cf m) ev∧Has ev 64 kf∧Has ev 53 (kY (fun y=>y=.sl bs) (fun x=>x))∧Has ev 94 (kY (fun y=>y∈os) (fun x=>x)):=⟨_,(ax (kT m) (ax (bD fun x h=>by subst h;exact hA) (ax (bD hO) aH))),az,(aq rfl az),(aq rfl (aq rfl az))⟩
  refine ay.gL ?_
  refine AX.start 30 1 Tryz.func94 rfl (by decide) rfl rfl (by decide) ?_
  refine AX.frames ?_
  refine Io (f:=0) (n:=3000) (once:=[]) (k:=30) (T:=2) (S:=[.loc [0],.loc [1]]) (ks:=[.loc [0],.loc [1]]) (live:=[1,2]) ah ai (Tryz.f94.body.getD .skip) 1 rfl (⟨bX 30 [(1,.ptr (.loc [0]) 0),(2,.ptr (.loc [1]) 0)],[(.loc [0],.cells 38 [.t (.int .u8 k),.t (.str s),.t (.sl os),.t (.sl bs)]),(.loc [1],.cells 38 [.t (.int .u8 0),.t (.str []),.bl,.bl])],2⟩) [] (by kernel_rfl) ?_
  refine AX.draw (f:=0) ah ai ?_
  refine aJ.go rfl (aD rfl kE rfl) ?_
  refine aJ.go rfl (bg rfl (ld ig rfl rfl)) ?_
  refine aJ.go rfl (uW (tJ rfl) (uz iG (by assumption) (jJ ho) (by assumption)) rfl q9) ?_
  refine aJ.go rfl (aD rfl gQ rfl) ?_
  refine aJ.go rfl (bg rfl (ld gK rfl rfl)) ?_
  refine aJ.go rfl (bU (tJ rfl) (bk MH rfl)) ?_
  refine aJ.go rfl (aD rfl kE rfl) ?_
  refine aJ.qd rfl (bT rfl rfl (sx ig rfl rfl)) ?_
  refine aJ.go rfl (aD rfl gQ rfl) ?_
  refine aJ.qd rfl (bT rfl rfl (sx gK rfl rfl)) ?_
  refine aJ.nil (dP rfl rfl ?_)
  refine eF (f:=0) (n:=3000) (once:=[]) (k:=30) (T:=3) (S:=[.loc [0],.loc [1],.loc [4,5]]) (ks:=[.loc [0],.loc [1],.loc [4,5]]) (live:=[1,2,14,15]) ah ai (α:=Nat) (fun x=>⟨bX 30 [(1,.ptr (.loc [0]) 0),(2,.ptr (.loc [1]) 0),(14,.t (.int .i64 ((os.length:Nat):Int))),(15,.t (.int .i64 ((x:Nat):Int)))],[(.loc [0],.cells 38 [.t (.int .u8 k),.t (.str s),.ref (.loc [2]) 0 os.length,.t (.sl bs)]),(.loc [1],.cells 38 [.t (.int .u8 0),.t (.str []),.bl,.bl]),(.loc [2],.arr (38,true) 4 false ((flat os).map .t))],3⟩) (fun x=>(x≤os.length)) (fun x=>os.length - x) 0 (iF (Tryz.f94.body.getD .skip) 3) [oN (o:=.arr (38,true) 4 false ((flat os).map .t)) (fun _=>eB)] (by kernel_rfl) (by show(0≤os.length);first|trivial|omega|(refine⟨?_, ?_⟩<;>first|omega|exact SM.nil)|simp) (fun x hok=> ?_)
  obtain⟨i_1,k3⟩:∃y,y=x:=⟨x,rfl⟩
  subst k3
  replace hok:(i_1≤os.length):=hok
  have jR:=hok
  rcases aL (decide (((i_1:Nat):Int)<((os.length:Nat):Int))) with bE|bE
  ·
   have gR:=of_decide_eq_true bE
   obtain⟨e3,iD⟩:=ou os i_1 (by first|omega|(simp;omega))
   have jw:=(ho e3 (List.mem_of_getElem? iD))
   obtain⟨HJ,gU,OA,iw,rfl,qI,nI,qJ,lN⟩:=T.aT jw
   exact⟨.inl ⟨i_1+1,⟨(by show(i_1+1)≤os.length;omega),(by show(os.length - (i_1+1))<(os.length - i_1);omega)⟩⟩,bS (f:=0) (n:=3000) (once:=[]) (k:=30) (T:=3) (S:=[.loc [0],.loc [1],.loc [2]]) (ks:=[.loc [0],.loc [1],.loc [2]]) (live:=[1,2,14,15]) ah ai [oB bE,oW true 4 os (jJ ho),oH iD,oQ os,oO (q7 (m:=4) (i:=i_1) (j:=0) (fA.lens (jJ ho)) iD (by decide)),oC (bk rK (x:=.agg [.int .u8 HJ,.str gU,.sl OA,.sl iw]) (List.mem_of_getElem? iD)),oW true 4 os (jJ ho),oH iD,oQ os,oR _ _ (Fy (j:=0) (m:=4) (fA.lens (jJ ho)) iD (by decide)),oK (uU (j:=0) (m:=4) (fA.lens (jJ ho)) iD (by decide)),oI (i_1) (by omega),oN (o:=.arr (38,true) 4 false ((flat os).map .t)) (fun _=>eB)] (by kernel_rfl)⟩
  ·
   have gR:=of_decide_eq_false bE
   refine kO ah ai [oB bE] (by kernel_rfl) ?_
   exact⟨(),kF ah ai [oW true 4 os (jJ ho)] (by kernel_rfl)⟩
theorem ab5 (m:Int)(k:Int)(s:List UInt8)(bs:List Tree)(lb:bs.length≤4194304)(hb:∀y∈bs,T .bx y)(hA:R1 (cf m) 53 (.sl bs) (.sl bs)):R1 (cf m) 94 (aC k s [] bs) (aC k s [] bs):=by
 obtain⟨ev,ai,iG,MH⟩:∃ev,aF (cf m) ev∧Has ev 64 kf∧Has ev 53 (kY (fun y=>y=.sl bs) (fun x=>x)):=⟨_,(ax (kT m) (ax (bD fun x h=>by subst h;exact hA) aH)),az,(aq rfl az)⟩
 refine ay.gL ?_
 refine AX.start 30 1 Tryz.func94 rfl (by decide) rfl rfl (by decide) ?_
 refine AX.frames ?_
 exact⟨(),Qa (f:=0) (n:=3000) (once:=[3]) ah ai [oC (show ev 64 [.t (.sl [])] []=some (bG.ret (.t (.sl [])) [] []) from(iG _ _ _ rfl)),oC (bk MH (x:=.sl bs) rfl),oF] (by kernel_rfl)⟩
theorem ZB (m:Int)(bs:List Tree)(hne:bs≠ [])(lb:bs.length≤4194304)(hb:∀y∈bs,T .bx y)(hO:∀a∈bs,R1 (cf m) 94 (QZ a) (QZ a)):R1 (cf m) 53 (.sl bs) (.sl bs):=by
  obtain⟨ev,ai,iH,rK⟩:∃ev,aF (cf m) ev∧Has ev 65 kg∧Has ev 94 (kY (fun y=>∃a∈bs,y=QZ a) (fun x=>x)):=⟨_,(ax (kU m) (ax (bD fun x h=>by obtain⟨a,ha,e⟩:=h;subst e;exact hO a ha) aH)),az,(aq rfl az)⟩
  refine ay.gL ?_
  refine AX.start 23 1 Tryz.func53 rfl (by decide) rfl rfl (by decide) ?_
  refine AX.frames ?_
  refine Io (f:=0) (n:=3000) (once:=[]) (k:=23) (T:=0) (S:=[]) (ks:=[]) (live:=[0,2]) ah ai (Tryz.f53.body.getD .skip) 1 rfl (⟨bX 23 [(0,.t (.sl bs)),(2,.bl)],[],0⟩) [] (by kernel_rfl) ?_
  refine AX.region ?_
  refine au.go (f:=0) ai (ak rfl) ?_
  refine au.go (f:=0) ai (uW (tJ rfl) (uA iH (by assumption) (jK hb) (by assumption)) rfl q9) ?_
  refine au.go (f:=0) ai (aj rfl) ?_
  refine au.nil ?_
  refine eF (f:=0) (n:=3000) (once:=[]) (k:=23) (T:=1) (S:=[.loc [1,5]]) (ks:=[.loc [1,5]]) (live:=[0,7,8]) ah ai (α:=Nat) (fun x=>⟨bX 23 [(0,.ref (.loc [0]) 0 bs.length),(7,.t (.int .i64 ((bs.length:Nat):Int))),(8,.t (.int .i64 ((x:Nat):Int)))],[(.loc [0],.arr (45,true) 5 false ((flat bs).map .t))],1⟩) (fun x=>(x≤bs.length)) (fun x=>bs.length - x) 0 (iF (Tryz.f53.body.getD .skip) 3) [oN (o:=.arr (45,true) 5 false ((flat bs).map .t)) (fun _=>eB)] (by kernel_rfl) (by show(0≤bs.length);first|trivial|omega|(refine⟨?_, ?_⟩<;>first|omega|exact SM.nil)|simp) (fun x hok=> ?_)
  obtain⟨i_1,k3⟩:∃y,y=x:=⟨x,rfl⟩
  subst k3
  replace hok:(i_1≤bs.length):=hok
  have jR:=hok
  rcases aL (decide (((i_1:Nat):Int)<((bs.length:Nat):Int))) with bE|bE
  ·
   have gR:=of_decide_eq_true bE
   obtain⟨e3,iD⟩:=ou bs i_1 (by first|omega|(simp;omega))
   have jw:=(hb e3 (List.mem_of_getElem? iD))
   obtain⟨gU,nu,nv,rN,lR,rfl,qI,nI,qJ,lN⟩:=T.eY jw
   exact⟨.inl ⟨i_1+1,⟨(by show(i_1+1)≤bs.length;omega),(by show(bs.length - (i_1+1))<(bs.length - i_1);omega)⟩⟩,bS (f:=0) (n:=3000) (once:=[]) (k:=23) (T:=1) (S:=[.loc [0]]) (ks:=[.loc [0]]) (live:=[0,7,8]) ah ai [oB bE,oW true 5 bs (jK hb),oH iD,oQ bs,oQ bs,oO (q7 (m:=4) (i:=i_1) (j:=1) (fA.lens (jK hb)) iD (by decide)),oC (bk rK (x:=.agg [.int .u8 nu,.str nv,.sl rN,.sl lR]) ⟨_,List.mem_of_getElem? iD,rfl⟩),oW true 5 bs (jK hb),oH iD,oQ bs,oQ bs,oR _ _ (Fy (j:=1) (m:=4) (fA.lens (jK hb)) iD (by decide)),oK (uU (j:=1) (m:=4) (fA.lens (jK hb)) iD (by decide)),oI (i_1) (by omega),oN (o:=.arr (45,true) 5 false ((flat bs).map .t)) (fun _=>eB)] (by kernel_rfl)⟩
  ·
   have gR:=of_decide_eq_false bE
   refine kO ah ai [oB bE] (by kernel_rfl) ?_
   exact⟨(),kF ah ai [oW true 5 bs (jK hb)] (by kernel_rfl)⟩
theorem ZC (m:Int):R1 (cf m) 53 (.sl []) (.sl []):=by
 obtain⟨ev,ai,iH⟩:∃ev,aF (cf m) ev∧Has ev 65 kg:=⟨_,(ax (kU m) aH),az⟩
 refine ay.gL ?_
 refine AX.start 23 1 Tryz.func53 rfl (by decide) rfl rfl (by decide) ?_
 refine AX.frames ?_
 exact⟨(),Qa (f:=0) (n:=3000) (once:=[3]) ah ai [oC (show ev 65 [.t (.sl [])] []=some (bG.ret (.t (.sl [])) [] []) from(iH _ _ _ rfl)),oF] (by kernel_rfl)⟩
theorem Vi (m:Int):∀(k:K) (x:Tree),T k x→(k=.aB→R1 (cf m) 94 x x)∧(k=.bx→R1 (cf m) 94 (QZ x) (QZ x)):=by
 intro k x h
 have go:∀(k1:Int) (s:List UInt8) (os bs:List Tree),os.length≤4194304→(∀y∈os,T .aB y)→bs.length≤4194304→(∀y∈bs,T .bx y)→(∀y∈os,R1 (cf m) 94 y y)→(∀y∈bs,R1 (cf m) 94 (QZ y) (QZ y))→
   R1 (cf m) 94 (aC k1 s os bs) (aC k1 s os bs):=by
  intro k1 s os bs l1 h1 l2 h2 i1 i2
  have hA:R1 (cf m) 53 (.sl bs) (.sl bs):=by
   by_cases hb:bs=[]
   · subst hb;exact ZC m
   · exact ZB m bs hb l2 h2 i2
  by_cases ho:os=[]
  · subst ho;exact ab5 m k1 s bs l2 h2 hA
  · exact ab4 m k1 s os ho l1 h1 i1 bs l2 h2 hA
 induction h with
 | @aB k1 s os bs l1 h1 l2 h2 i1 i2=>exact⟨fun _=>go k1 s os bs l1 h1 l2 h2 (fun y hy=>(i1 y hy).1 rfl) (fun y hy=>(i2 y hy).2 rfl),fun e=>(by cases e)⟩
 | @bx nm k1 s os bs l1 h1 l2 h2 i1 i2=>exact⟨fun e=>(by cases e),fun _=>go k1 s os bs l1 h1 l2 h2 (fun y hy=>(i1 y hy).1 rfl) (fun y hy=>(i2 y hy).2 rfl)⟩
 |_=>exact⟨fun e=>(by cases e),fun e=>(by cases e)⟩
theorem ZD (m:Int):∀x,T .jH x→R1 (cf m) 53 x x:=fun x hx=>by
 obtain⟨l,rfl,hl,h2⟩:=T.GK hx
 by_cases h:l=[]
 · subst h;exact ZC m
 · exact ZB m l h hl h2 fun y hy=>(Vi m _ y (h2 y hy)).2 rfl
end
end Go.Proofs.YtijfhoelihclbaaGreatDoor.w.e

namespace Go.Proofs.YtijfhoelihclbaaGreatDoor.w.e
open Go Go.Abs Go.Abs.Ty
set_option linter.unusedVariables false
set_option maxRecDepth 100000
set_option maxHeartbeats 2000000
noncomputable section
theorem MI (m:Int)(ts ac:List Tree)(lt:ts.length≤4194304)(ht:∀y∈ts,T .aG y)(la:ac.length≤4194304)(ha:∀y∈ac,T .aZ y)(s:List UInt8):R2 (cf m) 17 (.agg [.sl ts,.sl ac]) (.str s) (.bN [(cu qB s ts).1,.int .i64 (cu qB s ts).2]):=by
  obtain⟨ev,ai,OB,MH⟩:∃ev,aF (cf m) ev∧Has ev 52 (kY (T .aY) (fun x=>x))∧Has ev 53 (kY (T .jH) (fun x=>x)):=⟨_,(ax (bD (Vh m)) (ax (bD (ZD m)) aH)),az,(aq rfl az)⟩
  refine ay.gL ?_
  refine AX.start 30 2 Tryz.func17 rfl (by decide) rfl rfl (by decide) ?_
  refine AX.frames ?_
  refine eF (f:=0) (n:=3000) (once:=[]) (k:=30) (T:=1) (S:=[.loc [1]]) (ks:=[.loc [1]]) (live:=[1,4,9,10,11]) ah ai (α:=Nat) (fun x=>⟨bX 30 [(1,.t (.str s)),(4,.ptr (.loc [0]) 0),(9,.t (.sl ts)),(10,.t (.int .i64 ((ts.length:Nat):Int))),(11,.t (.int .i64 ((x:Nat):Int)))],[(.loc [0],.cells 49 [.t (.str []),.bl,.bl])],1⟩) (fun x=>(x≤ts.length)∧(∀j,j<x→∀x,ts[j]?=some x→(tj x==s)=false)) (fun x=>ts.length - x) 0 (iF (Tryz.f17.body.getD .skip) 2) [] (by kernel_rfl) ⟨Nat.zero_le _,fun j hj=>absurd hj (Nat.not_lt_zero j)⟩ (fun x hok=> ?_)
  obtain⟨i_1,k3⟩:∃y,y=x:=⟨x,rfl⟩
  subst k3
  replace hok:(i_1≤ts.length)∧(∀j,j<i_1→∀x,ts[j]?=some x→(tj x==s)=false):=hok
  obtain⟨jR,fV⟩:=hok
  rcases aL (decide (((i_1:Nat):Int)<((ts.length:Nat):Int))) with bE|bE
  ·
   have gR:=of_decide_eq_true bE
   obtain⟨e3,iD⟩:=ou ts i_1 (by first|omega|(simp;omega))
   have jw:=(ht e3 (List.mem_of_getElem? iD))
   obtain⟨gU,gW,iw,rfl,qI,nI,qJ,lN⟩:=T.bu jw
   rcases aL ((gU==s)) with jX|jX
   ·
    have wG:=eq_of_beq jX
    refine kO ah ai [oB bE,oE iD,oB jX,oC (bk OB (x:=.sl gW) (.aY _ (by first|assumption|omega|(simp;done)|(simp;omega)) nI)),oC (bk MH (x:=.sl iw) (.jH _ (by first|assumption|omega|(simp;done)|(simp;omega)) lN))] (by kernel_rfl) ?_
    have hres:cu qB s ts=(.agg [.str gU,.sl gW,.sl iw],0):=CF (CC fV iD jX)
    show ∃_:Unit,KE (cf m) (cv (cf m) _ 0 (.ret (.t (.bN [(cu qB s ts).1,.int .i64 (cu qB s ts).2])) [] [])) _ _ _
    rw[hres]
    exact⟨(),kF ah ai [] (by kernel_rfl)⟩
   ·
    have wG:=ne_of_beq_false jX
    exact⟨.inl ⟨i_1+1,⟨⟨(by show(i_1+1)≤ts.length;omega),(I1 fV iD jX)⟩,(by show(ts.length - (i_1+1))<(ts.length - i_1);omega)⟩⟩,bS (f:=0) (n:=3000) (once:=[]) (k:=30) (T:=1) (S:=[.loc [0]]) (ks:=[.loc [0]]) (live:=[1,4,9,10,11]) ah ai [oB bE,oE iD,oB jX,oI (i_1) (by omega)] (by kernel_rfl)⟩
  ·
   have gR:=of_decide_eq_false bE
   refine kO ah ai [oB bE] (by kernel_rfl) ?_
   have hres:cu qB s ts=(.agg [.str [],.sl [],.sl []],9):=wj (CD (fun j hj=>fV j (by omega)))
   show ∃_:Unit,KE (cf m) (cv (cf m) _ 0 (.ret (.t (.bN [(cu qB s ts).1,.int .i64 (cu qB s ts).2])) [] [])) _ _ _
   rw[hres]
   exact⟨(),kF ah ai [] (by kernel_rfl)⟩
theorem ab6 (m:Int)(ts ac:List Tree)(lt:ts.length≤4194304)(ht:∀y∈ts,T .aG y)(la:ac.length≤4194304)(ha:∀y∈ac,T .aZ y)(s:List UInt8):R2 (cf m) 95 (.agg [.sl ts,.sl ac]) (.str s) (.bN [(cu Lj s ac).1,.int .i64 (cu Lj s ac).2]):=by
  obtain⟨ev,ai,OB,MH⟩:∃ev,aF (cf m) ev∧Has ev 52 (kY (T .aY) (fun x=>x))∧Has ev 53 (kY (T .jH) (fun x=>x)):=⟨_,(ax (bD (Vh m)) (ax (bD (ZD m)) aH)),az,(aq rfl az)⟩
  refine ay.gL ?_
  refine AX.start 34 2 Tryz.func95 rfl (by decide) rfl rfl (by decide) ?_
  refine AX.frames ?_
  refine eF (f:=0) (n:=3000) (once:=[]) (k:=34) (T:=1) (S:=[.loc [1]]) (ks:=[.loc [1]]) (live:=[1,4,9,10,11]) ah ai (α:=Nat) (fun x=>⟨bX 34 [(1,.t (.str s)),(4,.ptr (.loc [0]) 0),(9,.t (.sl ac)),(10,.t (.int .i64 ((ac.length:Nat):Int))),(11,.t (.int .i64 ((x:Nat):Int)))],[(.loc [0],.cells 76 [.t (.str []),.bl,.bl,.bl])],1⟩) (fun x=>(x≤ac.length)∧(∀j,j<x→∀x,ac[j]?=some x→(tj x==s)=false)) (fun x=>ac.length - x) 0 (iF (Tryz.f95.body.getD .skip) 2) [] (by kernel_rfl) ⟨Nat.zero_le _,fun j hj=>absurd hj (Nat.not_lt_zero j)⟩ (fun x hok=> ?_)
  obtain⟨i_1,k3⟩:∃y,y=x:=⟨x,rfl⟩
  subst k3
  replace hok:(i_1≤ac.length)∧(∀j,j<i_1→∀x,ac[j]?=some x→(tj x==s)=false):=hok
  obtain⟨jR,fV⟩:=hok
  rcases aL (decide (((i_1:Nat):Int)<((ac.length:Nat):Int))) with bE|bE
  ·
   have gR:=of_decide_eq_true bE
   obtain⟨e3,iD⟩:=ou ac i_1 (by first|omega|(simp;omega))
   have jw:=(ha e3 (List.mem_of_getElem? iD))
   obtain⟨DX,jc,jI,mL,rfl,qI,nI,qJ,lN,ab1,Vd⟩:=T.eM jw
   rcases aL ((DX==s)) with jX|jX
   ·
    have wG:=eq_of_beq jX
    refine kO ah ai [oB bE,oE iD,oB jX,oC (bk OB (x:=.sl jc) (.aY _ (by first|assumption|omega|(simp;done)|(simp;omega)) nI)),oC (bk OB (x:=.sl jI) (.aY _ (by first|assumption|omega|(simp;done)|(simp;omega)) lN)),oC (bk MH (x:=.sl mL) (.jH _ (by first|assumption|omega|(simp;done)|(simp;omega)) Vd))] (by kernel_rfl) ?_
    have hres:cu Lj s ac=(.agg [.str DX,.sl jc,.sl jI,.sl mL],0):=CF (CC fV iD jX)
    show ∃_:Unit,KE (cf m) (cv (cf m) _ 0 (.ret (.t (.bN [(cu Lj s ac).1,.int .i64 (cu Lj s ac).2])) [] [])) _ _ _
    rw[hres]
    exact⟨(),kF ah ai [] (by kernel_rfl)⟩
   ·
    have wG:=ne_of_beq_false jX
    exact⟨.inl ⟨i_1+1,⟨⟨(by show(i_1+1)≤ac.length;omega),(I1 fV iD jX)⟩,(by show(ac.length - (i_1+1))<(ac.length - i_1);omega)⟩⟩,bS (f:=0) (n:=3000) (once:=[]) (k:=34) (T:=1) (S:=[.loc [0]]) (ks:=[.loc [0]]) (live:=[1,4,9,10,11]) ah ai [oB bE,oE iD,oB jX,oI (i_1) (by omega)] (by kernel_rfl)⟩
  ·
   have gR:=of_decide_eq_false bE
   refine kO ah ai [oB bE] (by kernel_rfl) ?_
   have hres:cu Lj s ac=(.agg [.str [],.sl [],.sl [],.sl []],9):=wj (CD (fun j hj=>fV j (by omega)))
   show ∃_:Unit,KE (cf m) (cv (cf m) _ 0 (.ret (.t (.bN [(cu Lj s ac).1,.int .i64 (cu Lj s ac).2])) [] [])) _ _ _
   rw[hres]
   exact⟨(),kF ah ai [] (by kernel_rfl)⟩
end
end Go.Proofs.YtijfhoelihclbaaGreatDoor.w.e

namespace Go.Proofs.YtijfhoelihclbaaGreatDoor.w.e
open Go Go.Abs Go.Abs.Ty
set_option linter.unusedVariables false
set_option maxRecDepth 100000
set_option maxHeartbeats 2000000
noncomputable section
end
end Go.Proofs.YtijfhoelihclbaaGreatDoor.w.e
