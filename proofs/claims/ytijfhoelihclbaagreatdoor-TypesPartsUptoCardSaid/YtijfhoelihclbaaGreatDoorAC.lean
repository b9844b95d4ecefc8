/- TypesJoined. -/
import Derived.Test.YtijfhoelihclbaaGreatDoorAA
import Derived.Test.YtijfhoelihclbaaGreatDoorAB
import Derived.Test.YtijfhoelihclbaaGreatDoorR
import Derived.Test.YtijfhoelihclbaaGreatDoorS
import Derived.Test.YtijfhoelihclbaaGreatDoorT
import Derived.Test.YtijfhoelihclbaaGreatDoorG
namespace Go.Proofs.YtijfhoelihclbaaGreatDoor.w
open Go Go.Abs Go.Abs.Ty
set_option linter.unusedVariables false
set_option maxRecDepth 100000
set_option maxHeartbeats 2000000
noncomputable section
theorem Qp {m:Int}:bld (cf m).P 38=some ([.t (.int .u8 0),.t (.str []),.bl,.bl],[(0,1),(1,1),(2,1),(3,1)]):=by kernel_rfl
theorem Um (m:Int)(D G:Tree→Prop)(FZ:Tree→Int×Bool)(hsz:∀x,D x→R1 (cf m) 47 x (.bN [.int .i64 (FZ x).1,.bool (FZ x).2]))(k:Int)(s:List UInt8)(os bs:List Tree)(hd:D (aC k s os bs))(hz:(FZ (aC k s os bs)).2=true→G (aC k s os bs)):
  ∃r:{r:Int // r=0→G (aC k s os bs)},R1 (cf m) 13 (aC k s os bs) (.int .i64 r.1):=by
 obtain⟨ev,ai,JW⟩:∃ev,aF (cf m) ev∧Has ev 47 (kY D (fun x=>.bN [.int .i64 (FZ x).1,.bool (FZ x).2])):=⟨_,(ax (bD hsz) aH),az⟩
 show ∃r:{r:Int // r=0→G (aC k s os bs)},ay (cf m) 13 [.t (aC k s os bs)] [] (.ret (.t (.int .i64 r.1)) [] [])
 refine AX.start 16 1 Tryz.func13 rfl (by decide) rfl rfl (by decide) ?_
 refine AX.seq ?_
 refine AX.region ?_
 refine au.go (f:=0) ai (Fi rfl rfl) ?_
 refine au.go (f:=0) ai (aj rfl) ?_
 refine au.nil ?_
 refine AX.seq ?_
 refine AX.region ?_
 refine au.go (f:=0) ai (bg rfl (ld dW rfl rfl)) ?_
 refine au.go (f:=0) ai (bU (tJ rfl) (bk JW hd)) ?_
 refine au.go (f:=0) ai (ak rfl) ?_
 refine au.go (f:=0) ai (dK rfl rfl) ?_
 refine au.go (f:=0) ai (dK rfl rfl) ?_
 refine au.go (f:=0) ai (aj rfl) ?_
 refine au.go (f:=0) ai (aj rfl) ?_
 refine au.nil ?_
 refine AX.seq ?_
 refine AX.block ?_
 refine AX.seq ?_
 refine AX.region ?_
 refine au.go (f:=0) ai (ak rfl) ?_
 refine au.go (f:=0) ai (vH rfl) ?_
 refine au.go (f:=0) ai (aj rfl) ?_
 refine au.nil ?_
 refine AX.cond rfl (fun hc1=> ?_) (fun hc1=> ?_)
 ·
  refine AX.seq ?_
  refine AX.region ?_
  refine au.go (f:=0) ai (aj rfl) ?_
  refine au.nil ?_
  refine AX.ret ?_
  refine AX.bp ?_
  refine AX.bn ?_
  refine⟨⟨_,fun hr=> ?_⟩,.inl rfl⟩
  exact absurd hr (by decide)
 ·
  refine AX.seq ?_
  refine AX.region ?_
  refine au.go (f:=0) ai (ak rfl) ?_
  refine au.go (f:=0) ai (Fj rfl rfl) ?_
  refine au.go (f:=0) ai (aj rfl) ?_
  refine au.nil ?_
  refine AX.cond rfl (fun bE=> ?_) (fun bE=> ?_)
  ·
   have gR:=of_decide_eq_true bE
   refine AX.seq ?_
   refine AX.region ?_
   refine au.go (f:=0) ai (aj rfl) ?_
   refine au.nil ?_
   refine AX.ret ?_
   refine AX.bp ?_
   refine AX.bn ?_
   refine⟨⟨_,fun hr=> ?_⟩,.inl rfl⟩
   exact absurd hr (by decide)
  ·
   have gR:=of_decide_eq_false bE
   refine AX.skip ?_
   refine AX.b9 ?_
   refine AX.seq ?_
   refine AX.region ?_
   refine au.go (f:=0) ai (aj rfl) ?_
   refine au.nil ?_
   refine AX.ret ?_
   refine⟨⟨_,fun hr=> ?_⟩,.inl rfl⟩
   exact hz (dm hc1)
theorem Og (m:Int):∀n,∃F:Tree→Int×Bool,∀x,Dp n x→R1 (cf m) 47 x (.bN [.int .i64 (F x).1,.bool (F x).2])∧((F x).2=true→Gd n x)
 |0=>by
  obtain⟨r,hr⟩:=BP m (fun _=>False) (fun _=>True) Tz (fun _=>0) (fun _=>false) (fun x h=>h.elim) (fun x h=>h.elim) 0 [] [] [] (by simp) (by simp) (by simp) (fun e h=>by simp at h)
  exact⟨fun _=>r.1,fun x hx=>by subst hx;exact⟨hr,fun _=>rfl⟩⟩
 |n+1=>by
  obtain⟨F,hF⟩:=Og m n
  refine Go.Abs.dQ (P:=Dp (n+1)) (Q:=fun x (r:Int×Bool)=>R1 (cf m) 47 x (.bN [.int .i64 r.1,.bool r.2])∧(r.2=true→Gd (n+1) x)) fun x hx=> ?_
  obtain⟨k,s,os,bs,rfl,l1,l2,h1,h2⟩:=hx
  obtain⟨r,hr⟩:=BP m (Dp n) (Gd n) (Dp.NW n) (fun x=>(F x).1) (fun x=>(F x).2) (fun x h=>(hF x h).1) (fun x h e=>(hF x h).2 e) k s os bs l1 l2 h1 h2
  exact⟨r.1,hr,r.2⟩
theorem Un (m:Int)(n:Nat):∃ck:Tree→Int,∀x,Dp n x→R1 (cf m) 13 x (.int .i64 (ck x))∧(ck x=0→Gd n x):=by
 obtain⟨F,hF⟩:=Og m n
 refine Go.Abs.dQ (P:=Dp n) (Q:=fun x (r:Int)=>R1 (cf m) 13 x (.int .i64 r)∧(r=0→Gd n x)) fun x hx=> ?_
 have hx0:=hx
 obtain⟨k,s,os,bs,rfl,_,_⟩:=hx.form
 obtain⟨r,hr⟩:=Um m (Dp n) (Gd n) F (fun x h=>(hF x h).1) k s os bs hx0 (hF _ hx0).2
 exact⟨r.1,hr,r.2⟩
theorem Uo (m:Int):R0 (cf m) 6 (.bool true):=by
 have hr:=Sr (live.ajz m)
 rw[pF] at hr
 exact fun G w vs hw hg ha hh hv=>pn (live.ah m) (live.XP m) 300 6 [] [] _ hr G w vs hw hg ha hh hv
end
end Go.Proofs.YtijfhoelihclbaaGreatDoor.w

namespace Go.Proofs.YtijfhoelihclbaaGreatDoor.w.e
open Go Go.Abs Go.Abs.Ty
set_option linter.unusedVariables false
set_option maxRecDepth 100000
set_option maxHeartbeats 2000000
noncomputable section
open Classical in
def px (args:List TV)(aR:List aQ)(r:bG):List TV→List aQ→Option bG:=fun a o=>if a=args∧o=aR then some r else none
theorem kV {C:dh}{g:FuncId}{args:List TV}{aR:List aQ}{r:bG}(h:ay C g args aR r):j7 C g (px args aR r):=fun a o q hq=>by
 unfold px at hq
 split at hq
 · rename_i hp;obtain⟨rfl,rfl⟩:=hp;cases hq;exact h
 · cases hq
theorem lX {g:FuncId}{ev:aS}{args:List TV}{aR:List aQ}{r:bG}(h:Has ev g (px args aR r)):ev g args aR=some r:=h _ _ _ (if_pos ⟨rfl,rfl⟩)
theorem XQ {l:List Tree}(h:∀y∈l,T .string y):∃zs:List (List UInt8),l=zs.map .str:=by
 induction l with
 |nil=>exact⟨[],rfl⟩
 |cons a r ih=>
  obtain⟨zs,rfl⟩:=ih fun y hy=>h y (List.mem_cons_of_mem _ hy)
  obtain⟨s,rfl⟩:=T.cT (h a List.mem_cons_self)
  exact⟨s::zs,rfl⟩
theorem Mt (m:Int):ay (cf m) 134 [.fn (.func 177) [] [.ptr (.arg 0) 0]] [.cells 23 [.t (.sl [])]] (.ret (.t (.sl [])) [.cells 23 [.t (.sl [])]] []):=Fu m [] (by decide)
theorem Bb (m:Int)(zs:List (List UInt8))(hz:zs.length≤4194304)(hne:zs≠ []):ay (cf m) 134 [.fn (.func 177) [] [.ptr (.arg 0) 0]] [.cells 23 [.t (.sl (zs.map Tree.str))]]
  (.ret (.ref (.loc [0]) 0 zs.length) [.cells 23 [.t (.sl (zs.map Tree.str))]] [(.loc [0],.arr (9,false) 1 false ((flat ((kS zs).map Tree.str)).map .t))]):=by
 have h:=Fu m zs hz
 rw[if_neg hne] at h
 rw[rF]
 exact h
theorem yK (m:Int)(zs:List (List UInt8))(hz:zs.length≤4194304)(hne:zs≠ []):
  ∃r:Nat,(zs.length=1→r=1)∧ay (cf m) 137 [.ref (.arg 0) 0 zs.length] [.arr (9,false) 1 false ((flat ((kS zs).map Tree.str)).map .t)] (.ret (.ref (.arg 0) 0 r) [.dead] []):=by
 have hl:(kS zs).length=zs.length:=by simp[kS]
 obtain⟨r,_,h1,h⟩:=L1 m (kS zs) (by omega) (fun e=>hne (by rw[e] at hl;exact List.eq_nil_of_length_eq_zero hl.symm))
 rw[hl] at h
 rw[rF]
 exact⟨r,fun e=>h1 (by rw[hl];exact e),h⟩
theorem J1 (m:Int):ay (cf m) 137 [.t (.sl [])] [] (.ret (.t (.sl [])) [] []):=by
 intro G w vs hw hg had hH hv
 obtain⟨x,rfl,hx⟩:=hv.only
 have aaG:∀args w,(callFunc 137 args).run Tryz.prog w=.ok (.enter 137 args) w:=enters_of Tryz.func137 (by kernel_rfl) rfl
 have hx':∃a cap,x=.slice a 0 cap:=by
  cases hx with|t _ _ hx=>
  generalize hz':([]:List Tree)=l at hx
  cases hx with
  |vO a cap=>exact⟨a,cap,rfl⟩
  |sl bR es b o cap vals hne hc hu hF QT=>exact absurd hz'.symm hne
 obtain⟨a,cap,rfl⟩:=hx'
 refine .inl ⟨aaG _ _,Calls.mono (Tryz.slices_Compact_string_empty a cap w) ?_⟩
 rintro e w' ⟨rfl,rfl⟩
 exact⟨_,G,rfl,Step.refl hw _ _,rfl,fun i o ho=>by simp at ho,fun _ _ h=>by simp at h,hx⟩
theorem sP (m:Int):∃f:Tree→Bool,∀x,PS x→ay (cf m) 29 [.t x] [] (.ret (.t (.bool (f x))) [] []):=by
 obtain⟨fw,hw⟩:=qm (C:=cf m) (g:=73) (P:=fun x=>∃s:List UInt8,8≤s.length∧x=.str s) (Tree.int .u64) (fun x ⟨s,hs,e⟩=>by
  subst e
  match s,hs with
  |b0::b1::b2::b3::b4::b5::b6::b7::r,_=>exact ND aH b0 b1 b2 b3 b4 b5 b6 b7 r)
 exact qm (C:=cf m) (g:=29) (P:=PS) Tree.bool (fun x ⟨s,e⟩=>e▸Jz _ (ax (tu hw) aH) (fun s=>fw (.str s)) (fun s hs=>tv ⟨s,hs,rfl⟩) s)
theorem Oh (m:Int):∃F:Tree→Bool,∀x,(T .string x)→R1 (cf m) 103 x (.bool (F x))∧(True):=by
  refine vz (P:=fun x=>T .string x) (mk:=fun(r:Bool)=>.bool r) (Post:=fun x r=>True) fun x hx=> ?_
  show ∃r:{r:Bool // True},ay (cf m) 103 [.t x] [] (.ret (.t (.bool r.1)) [] [])
  have bY:=hx
  obtain⟨v_1,rfl⟩:=T.cT bY
  obtain⟨Bu,Mu⟩:=sP m
  obtain⟨ev,ai,vB⟩:∃ev,aF (cf m) ev∧Has ev 29 (kY (fun x=>PS x) (fun x=>.bool (Bu x))):=⟨_,(ax (bD (fun x h=>(Mu x h))) aH),az⟩
  refine AX.start 14 1 Tryz.func103 rfl (by decide) rfl rfl (by decide) ?_
  refine AX.frames ?_
  rcases aL ((!(v_1==[]))) with hg2|hg2
  ·
   have G8:=ne_of_beq_false (eT hg2)
   rcases aL (decide (((v_1.length:Nat):Int)≤64)) with hg3|hg3
   ·
    have abn:=of_decide_eq_true hg3
    refine⟨⟨(Bu (.str v_1)), ?_⟩,kF ah ai [oB hg2,oB hg2,oB hg2,oB hg2,oB hg3,oB hg3,oC (bk vB (x:=.str v_1) ⟨_,rfl⟩),oB hg3] (by kernel_rfl)⟩
    trivial
   ·
    have abn:=of_decide_eq_false hg3
    refine⟨⟨false, ?_⟩,kF ah ai [oB hg2,oB hg2,oB hg2,oB hg2,oB hg3,oB hg3,oB hg3] (by kernel_rfl)⟩
    trivial
  ·
   have G8:=eq_of_beq (dm hg2)
   refine⟨⟨false, ?_⟩,kF ah ai [oB hg2,oB hg2,oB hg2,oB hg2,oF,oF,oF] (by kernel_rfl)⟩
   trivial
theorem XR (m:Int):∃F:Tree→Bool,∀x,(T .string x)→R1 (cf m) 136 x (.bool (F x))∧(True):=by
 refine vz (P:=fun x=>T .string x) (mk:=fun(r:Bool)=>.bool r) (Post:=fun x r=>True) fun x hx=> ?_
 show ∃r:{r:Bool // True},ay (cf m) 136 [.t x] [] (.ret (.t (.bool r.1)) [] [])
 have bY:=hx
 obtain⟨v_1,rfl⟩:=T.cT bY
 obtain⟨Qq,abo⟩:=Oh m
 obtain⟨ev,ai,J2⟩:∃ev,aF (cf m) ev∧Has ev 103 (kY (fun x=>T .string x) (fun x=>.bool (Qq x))):=⟨_,(ax (bD (fun x h=>(abo x h).1)) aH),az⟩
 refine AX.start 6 1 Tryz.func136 rfl (by decide) rfl rfl (by decide) ?_
 refine AX.frames ?_
 refine⟨⟨(!(Qq (.str v_1))), ?_⟩,kF ah ai [oC (bk J2 (x:=.str v_1) bY)] (by kernel_rfl)⟩
 trivial
theorem Qr (m:Int):∃F:Tree→Tree→Int,∀x y,(T .aY x∧y=.fn (.func 136))→R2 (cf m) 112 x y (.int .i64 (F x y))∧(True):=by
  refine sL (P:=fun x y=>T .aY x∧y=.fn (.func 136)) (mk:=fun(r:Int)=>.int .i64 r) (Post:=fun x y r=>True) fun x y hx=> ?_
  obtain⟨hx,hy⟩:=hx
  show ∃r:{r:Int // True},ay (cf m) 112 [.t x,.t y] [] (.ret (.t (.int .i64 r.1)) [] [])
  have bY:=hx
  obtain⟨v_1,rfl,dY,bh⟩:=T.ij bY
  subst hy
  obtain⟨aeS,ajA⟩:=XR m
  obtain⟨ev,ai,aeT⟩:∃ev,aF (cf m) ev∧Has ev 136 (kY (fun x=>T .string x) (fun x=>.bool (aeS x))):=⟨_,(ax (bD (fun x h=>(ajA x h).1)) aH),az⟩
  refine AX.start 19 2 Tryz.func112 rfl (by decide) rfl rfl (by decide) ?_
  refine AX.frames ?_
  refine eF (f:=0) (n:=3000) (once:=[]) (k:=19) (T:=0) (S:=[]) (ks:=[]) (live:=[0,1,7,8]) ah ai (α:=Nat) (fun x=>⟨bX 19 [(0,.t (.sl v_1)),(1,.t (.fn (.func 136))),(7,.t (.int .i64 ((v_1.length:Nat):Int))),(8,.t (.int .i64 ((x:Nat):Int)))],[],0⟩) (fun x=>(x≤v_1.length)) (fun x=>v_1.length - x) 0 (iF (Tryz.f112.body.getD .skip) 2) [] (by kernel_rfl) (by show(0≤v_1.length);first|trivial|omega|(refine⟨?_, ?_⟩<;>first|omega|exact SM.nil)|simp) (fun x hok=> ?_)
  obtain⟨i_2,k3⟩:∃y,y=x:=⟨x,rfl⟩
  subst k3
  replace hok:(i_2≤v_1.length):=hok
  have nQ:=hok
  rcases aL (decide (((i_2:Nat):Int)<((v_1.length:Nat):Int))) with bF|bF
  ·
   have kH:=of_decide_eq_true bF
   obtain⟨e4,pW⟩:=ou v_1 i_2 (by first|omega|(simp;omega))
   have kn:=(bh e4 (List.mem_of_getElem? pW))
   obtain⟨Wq,rfl⟩:=T.cT kn
   rcases aL ((aeS (.str Wq))) with qu|qu
   ·
    refine kO ah ai [oB bF,oE pW,oC (bk aeT (x:=.str Wq) kn),oB qu] (by kernel_rfl) ?_
    refine⟨⟨((i_2:Nat):Int), ?_⟩,kF ah ai [] (by kernel_rfl)⟩
    trivial
   ·
    exact⟨.inl ⟨i_2+1,⟨(by show(i_2+1)≤v_1.length;omega),(by show(v_1.length - (i_2+1))<(v_1.length - i_2);omega)⟩⟩,bS (f:=0) (n:=3000) (once:=[]) (k:=19) (T:=0) (S:=[]) (ks:=[]) (live:=[0,1,7,8]) ah ai [oB bF,oE pW,oC (bk aeT (x:=.str Wq) kn),oB qu,oI (i_2) (by omega)] (by kernel_rfl)⟩
  ·
   have kH:=of_decide_eq_false bF
   refine kO ah ai [oB bF] (by kernel_rfl) ?_
   refine⟨⟨-1, ?_⟩,kF ah ai [] (by kernel_rfl)⟩
   trivial
theorem FM (m:Int):∃F:Tree→Tree→Bool,∀x y,(T .aY x∧y=.fn (.func 136))→R2 (cf m) 77 x y (.bool (F x y))∧(True):=by
 refine sL (P:=fun x y=>T .aY x∧y=.fn (.func 136)) (mk:=fun(r:Bool)=>.bool r) (Post:=fun x y r=>True) fun x y hx=> ?_
 obtain⟨hx,hy⟩:=hx
 show ∃r:{r:Bool // True},ay (cf m) 77 [.t x,.t y] [] (.ret (.t (.bool r.1)) [] [])
 have bY:=hx
 obtain⟨v_1,rfl,dY,bh⟩:=T.ij bY
 subst hy
 obtain⟨Up,abp⟩:=Qr m
 obtain⟨ev,ai,abq⟩:∃ev,aF (cf m) ev∧Has ev 112 (rD (fun x y=>T .aY x∧y=.fn (.func 136)) (fun x y=>.int .i64 (Up x y))):=⟨_,(ax (dn (fun x y h=>(abp x y h).1)) aH),az⟩
 refine AX.start 9 2 Tryz.func77 rfl (by decide) rfl rfl (by decide) ?_
 refine AX.frames ?_
 refine⟨⟨decide ((Up (.sl v_1) (.fn (.func 136)))≥0), ?_⟩,kF ah ai [oC (dr abq (x:=.sl v_1) (y:=.fn (.func 136)) ⟨bY,rfl⟩)] (by kernel_rfl)⟩
 trivial
theorem Am (m:Int)(L:List Tree):ay (cf m) 135 [.t (.sl L)] [] (.ret (.fn (.func 177) [] [.ptr (.loc [0]) 0]) [] [(.loc [0],.cells 23 [.t (.sl L)])]):=by
 obtain⟨ev,ai⟩:∃ev,aF (cf m) ev:=⟨_,aH⟩
 refine ay.gL ?_
 refine AX.start 4 1 Tryz.func135 rfl (by decide) rfl rfl (by decide) ?_
 refine AX.frames ?_
 exact⟨(),kF ah ai [] (by kernel_rfl)⟩
theorem Mv (m:Int):∃r:Bool,ay (cf m) 102 [.t (.sl ([]:List Tree))] [] (.ret (.t (.bool r)) [] []):=by
  have hl:([]:List Tree).length≤4194304:=by simp
  have hl2:∀y∈([]:List Tree),T .string y:=by intro y hy;cases hy
  obtain⟨Hv,Mw⟩:=FM m
  obtain⟨ev,ai,e_vals,FN,Ao,J3⟩:∃ev,aF (cf m) ev∧Has ev 135 (px [.t (.sl ([]:List Tree))] [] (.ret (.fn (.func 177) [] [.ptr (.loc [0]) 0]) [] [(.loc [0],.cells 23 [.t (.sl ([]:List Tree))])]))∧Has ev 134 (px [.fn (.func 177) [] [.ptr (.arg 0) 0]] [.cells 23 [.t (.sl ([]:List Tree))]] (.ret (.t (.sl [])) [.cells 23 [.t (.sl ([]:List Tree))]] []))∧Has ev 77 (rD (fun x y=>T .aY x∧y=.fn (.func 136)) (fun x y=>.bool (Hv x y)))∧Has ev 137 (px [.t (.sl [])] [] (.ret (.t (.sl [])) [] [])):=⟨_,(ax (kV (Am m _)) (ax (kV (Mt m)) (ax (dn (fun x y h=>(Mw x y h).1)) (ax (kV (J1 m)) aH)))),az,(aq rfl az),(aq rfl (aq rfl az)),(aq rfl (aq rfl (aq rfl az)))⟩
  refine AX.start 18 1 Tryz.func102 rfl (by decide) rfl rfl (by decide) ?_
  refine AX.frames ?_
  rcases aL ((!(Hv (.sl ([]:List Tree)) (.fn (.func 136))))) with hg1|hg1
  ·
   exact⟨(((([]:List Tree).length:Nat):Int)==((([]:List Tree).length:Nat):Int)),kF ah ai [oC (lX e_vals),oC (lX FN),oC (dr Ao (x:=.sl ([]:List Tree)) (y:=.fn (.func 136)) ⟨(.aY _ (by first|assumption|omega|(simp;done)|(simp;omega)) hl2),rfl⟩),oB hg1,oB hg1,oC (lX J3),oB hg1,oB hg1,oB hg1,oB hg1,oB hg1] (by kernel_rfl)⟩
  ·
   exact⟨false,kF ah ai [oC (lX e_vals),oC (lX FN),oC (dr Ao (x:=.sl ([]:List Tree)) (y:=.fn (.func 136)) ⟨(.aY _ (by first|assumption|omega|(simp;done)|(simp;omega)) hl2),rfl⟩),oB hg1,oB hg1,oB hg1,oB hg1,oB hg1,oB hg1,oB hg1] (by kernel_rfl)⟩
theorem J4 (m:Int)(zs:List (List UInt8))(hz:zs.length≤4194304)(hne:zs≠ []):∃r:Bool,ay (cf m) 102 [.t (.sl (zs.map Tree.str))] [] (.ret (.t (.bool r)) [] []):=by
  have hl:(zs.map Tree.str).length≤4194304:=by simp;omega
  have hl2:∀y∈(zs.map Tree.str),T .string y:=by intro y hy;obtain⟨s,_,rfl⟩:=List.mem_map.1 hy;exact .string s
  obtain⟨Hv,Mw⟩:=FM m
  obtain⟨rc,Pn,hrc⟩:=yK m zs hz hne
  obtain⟨ev,ai,e_vals,FN,Ao,J3⟩:∃ev,aF (cf m) ev∧Has ev 135 (px [.t (.sl (zs.map Tree.str))] [] (.ret (.fn (.func 177) [] [.ptr (.loc [0]) 0]) [] [(.loc [0],.cells 23 [.t (.sl (zs.map Tree.str))])]))∧Has ev 134 (px [.fn (.func 177) [] [.ptr (.arg 0) 0]] [.cells 23 [.t (.sl (zs.map Tree.str))]] (.ret (.ref (.loc [0]) 0 zs.length) [.cells 23 [.t (.sl (zs.map Tree.str))]] [(.loc [0],.arr (9,false) 1 false ((flat ((kS zs).map Tree.str)).map .t))]))∧Has ev 77 (rD (fun x y=>T .aY x∧y=.fn (.func 136)) (fun x y=>.bool (Hv x y)))∧Has ev 137 (px [.ref (.arg 0) 0 zs.length] [.arr (9,false) 1 false ((flat ((kS zs).map Tree.str)).map .t)] (.ret (.ref (.arg 0) 0 rc) [.dead] [])):=⟨_,(ax (kV (Am m _)) (ax (kV (Bb m zs hz hne)) (ax (dn (fun x y h=>(Mw x y h).1)) (ax (kV hrc) aH)))),az,(aq rfl az),(aq rfl (aq rfl az)),(aq rfl (aq rfl (aq rfl az)))⟩
  refine AX.start 18 1 Tryz.func102 rfl (by decide) rfl rfl (by decide) ?_
  refine AX.frames ?_
  refine Io (f:=0) (n:=3000) (once:=[]) (k:=18) (T:=0) (S:=[]) (ks:=[]) (live:=[0,2]) ah ai (Tryz.f102.body.getD .skip) 1 rfl (⟨bX 18 [(0,.t (.sl (zs.map Tree.str))),(2,.t (.bool false))],[],0⟩) [] (by kernel_rfl) ?_
  refine AX.region ?_
  refine au.go (f:=0) ai (ak rfl) ?_
  refine au.go (f:=0) ai (sK (eD rfl) rfl rfl (by decide) rfl rfl (lX e_vals) rfl rfl rfl) ?_
  refine au.go (f:=0) ai (sK (eD rfl) rfl rfl (by decide) rfl rfl (lX FN) rfl rfl Fv) ?_
  refine au.go (f:=0) ai (aj rfl) ?_
  refine au.nil ?_
  refine Io (f:=0) (n:=3000) (once:=[]) (k:=18) (T:=1) (S:=[.loc [2,0]]) (ks:=[.loc [2,0]]) (live:=[0,2,3]) ah ai (Tryz.f102.body.getD .skip) 2 rfl (⟨bX 18 [(0,.t (.sl (zs.map Tree.str))),(2,.t (.bool false)),(3,.ref (.loc [0]) 0 zs.length)],[(.loc [0],.arr (9,false) 1 false ((flat ((kS zs).map Tree.str)).map .t))],1⟩) [oN (o:=.arr (9,false) 1 false ((flat ((kS zs).map Tree.str)).map .t)) (fun _=>eB)] (by kernel_rfl) ?_
  refine AX.region ?_
  refine au.go (f:=0) ai (ak rfl) ?_
  refine au.go (f:=0) ai (bU (Ns rfl rfl) (dr Ao ⟨(.aY _ (by first|assumption|omega|(simp;done)|(simp;omega)) hl2),rfl⟩)) ?_
  refine au.go (f:=0) ai (vH rfl) ?_
  refine au.go (f:=0) ai (ak rfl) ?_
  refine au.split 10 rfl (fun hg1=> ?_) (fun hg1=> ?_)
  ·
   refine au.yes (f:=0) ai rfl rfl rfl (cE hg1) (ak rfl) ?_
   refine au.SS (S:=[.loc [0]]) ai rfl rfl rfl (cE hg1) (eD rfl) (by decide) rfl (yo rfl) (lX J3) rfl rfl rfl ?_
   refine au.yes (f:=0) ai rfl rfl rfl (cE hg1) (wu rfl sI rfl) ?_
   refine au.yes (f:=0) ai rfl rfl rfl (cE hg1) (ak rfl) ?_
   refine au.yes (f:=0) ai rfl rfl rfl (cE hg1) (gh rfl sI rfl) ?_
   refine au.yes (f:=0) ai rfl rfl rfl (cE hg1) (fT rfl rfl) ?_
   refine au.go (f:=0) ai (bq rfl hg1 rfl rfl) ?_
   refine au.go (f:=0) ai (aj rfl) ?_
   refine au.nil ?_
   exact⟨(((rc:Nat):Int)==(((zs.map Tree.str).length:Nat):Int)),kF ah ai [] (by kernel_rfl)⟩
  ·
   refine au.no rfl rfl rfl (cM hg1) ?_
   refine au.no rfl rfl rfl (cM hg1) ?_
   refine au.no rfl rfl rfl (cM hg1) ?_
   refine au.no rfl rfl rfl (cM hg1) ?_
   refine au.no rfl rfl rfl (cM hg1) ?_
   refine au.no rfl rfl rfl (cM hg1) ?_
   refine au.go (f:=0) ai (dI rfl hg1 rfl rfl) ?_
   refine au.go (f:=0) ai (aj rfl) ?_
   refine au.nil ?_
   exact⟨false,kF ah ai [] (by kernel_rfl)⟩
theorem Uq {m:Int}{g:FuncId}{args:List TV}{aR:List aQ}{r:bG}(h:eA (live.cfg m) (live.jG m) 300 g args aR=some r):ay (cf m) g args aR r:=by
 rw[pF] at h
 exact fun G w vs hw hg ha hh hv=>pn (live.ah m) (live.yg m) 300 g args aR _ h G w vs hw hg ha hh hv
theorem Ur (m:Int):ay (cf m) 77 [.t (.sl [.str [97]]),.t (.fn (.func 136))] [] (.ret (.t (.bool false)) [] []):=Uq (by kernel_rfl)
theorem Mx (m:Int):ay (cf m) 102 [.t (.sl [.str [97]])] [] (.ret (.t (.bool true)) [] []):=by
 obtain⟨zs,hzs⟩:∃zs:List (List UInt8),zs=[[97]]:=⟨_,rfl⟩
 have hz:zs.length≤4194304:=by rw[hzs];decide
 have hne:zs≠ []:=by rw[hzs];decide
 have hcf:ay (cf m) 77 [.t (.sl (zs.map Tree.str)),.t (.fn (.func 136))] [] (.ret (.t (.bool false)) [] []):=by rw[hzs];exact Ur m
 show ay (cf m) 102 [.t (.sl (([[97]]:List (List UInt8)).map Tree.str))] [] _
 rw[← hzs]
 have hl:(zs.map Tree.str).length≤4194304:=by simp;omega
 have hl2:∀y∈(zs.map Tree.str),T .string y:=by intro y hy;obtain⟨s,_,rfl⟩:=List.mem_map.1 hy;exact .string s
 obtain⟨rc,Pn,hrc⟩:=yK m zs hz hne
 obtain⟨ev,ai,e_vals,FN,Ao,J3⟩:∃ev,aF (cf m) ev∧Has ev 135 (px [.t (.sl (zs.map Tree.str))] [] (.ret (.fn (.func 177) [] [.ptr (.loc [0]) 0]) [] [(.loc [0],.cells 23 [.t (.sl (zs.map Tree.str))])]))∧Has ev 134 (px [.fn (.func 177) [] [.ptr (.arg 0) 0]] [.cells 23 [.t (.sl (zs.map Tree.str))]] (.ret (.ref (.loc [0]) 0 zs.length) [.cells 23 [.t (.sl (zs.map Tree.str))]] [(.loc [0],.arr (9,false) 1 false ((flat ((kS zs).map Tree.str)).map .t))]))∧Has ev 77 (px [.t (.sl (zs.map Tree.str)),.t (.fn (.func 136))] [] (.ret (.t (.bool false)) [] []))∧Has ev 137 (px [.ref (.arg 0) 0 zs.length] [.arr (9,false) 1 false ((flat ((kS zs).map Tree.str)).map .t)] (.ret (.ref (.arg 0) 0 rc) [.dead] [])):=⟨_,(ax (kV (Am m _)) (ax (kV (Bb m zs hz hne)) (ax (kV hcf) (ax (kV hrc) aH)))),az,(aq rfl az),(aq rfl (aq rfl az)),(aq rfl (aq rfl (aq rfl az)))⟩
 refine ay.gL ?_
 refine AX.start 18 1 Tryz.func102 rfl (by decide) rfl rfl (by decide) ?_
 refine AX.frames ?_
 refine Io (f:=0) (n:=3000) (once:=[]) (k:=18) (T:=0) (S:=[]) (ks:=[]) (live:=[0,2]) ah ai (Tryz.f102.body.getD .skip) 1 rfl (⟨bX 18 [(0,.t (.sl (zs.map Tree.str))),(2,.t (.bool false))],[],0⟩) [] (by kernel_rfl) ?_
 refine AX.region ?_
 refine au.go (f:=0) ai (ak rfl) ?_
 refine au.go (f:=0) ai (sK (eD rfl) rfl rfl (by decide) rfl rfl (lX e_vals) rfl rfl rfl) ?_
 refine au.go (f:=0) ai (sK (eD rfl) rfl rfl (by decide) rfl rfl (lX FN) rfl rfl Fv) ?_
 refine au.go (f:=0) ai (aj rfl) ?_
 refine au.nil ?_
 refine Io (f:=0) (n:=3000) (once:=[]) (k:=18) (T:=1) (S:=[.loc [2,0]]) (ks:=[.loc [2,0]]) (live:=[0,2,3]) ah ai (Tryz.f102.body.getD .skip) 2 rfl (⟨bX 18 [(0,.t (.sl (zs.map Tree.str))),(2,.t (.bool false)),(3,.ref (.loc [0]) 0 zs.length)],[(.loc [0],.arr (9,false) 1 false ((flat ((kS zs).map Tree.str)).map .t))],1⟩) [oN (o:=.arr (9,false) 1 false ((flat ((kS zs).map Tree.str)).map .t)) (fun _=>eB)] (by kernel_rfl) ?_
 refine AX.region ?_
 refine au.go (f:=0) ai (ak rfl) ?_
 refine au.go (f:=0) ai (bU (Ns rfl rfl) (lX Ao)) ?_
 refine au.go (f:=0) ai (vH rfl) ?_
 refine au.go (f:=0) ai (ak rfl) ?_
 refine au.yes (f:=0) ai rfl rfl rfl (cE rfl) (ak rfl) ?_
 refine au.SS (S:=[.loc [0]]) ai rfl rfl rfl (cE rfl) (eD rfl) (by decide) rfl (yo rfl) (lX J3) rfl rfl rfl ?_
 refine au.yes (f:=0) ai rfl rfl rfl (cE rfl) (wu rfl sI rfl) ?_
 refine au.yes (f:=0) ai rfl rfl rfl (cE rfl) (ak rfl) ?_
 refine au.yes (f:=0) ai rfl rfl rfl (cE rfl) (gh rfl sI rfl) ?_
 refine au.yes (f:=0) ai rfl rfl rfl (cE rfl) (fT rfl rfl) ?_
 refine au.go (f:=0) ai (bq rfl rfl rfl rfl) ?_
 refine au.go (f:=0) ai (aj rfl) ?_
 refine au.nil ?_
 exact⟨(),(by rw[show(((rc:Nat):Int)==(((zs.map Tree.str).length:Nat):Int))=true from beq_iff_eq.2 (by rw[Pn (by rw[hzs];rfl)];rw[hzs];rfl)];exact kF ah ai [] (by kernel_rfl))⟩
theorem J5 (m:Int):∃f:Tree→Bool,∀x,T .aY x→ay (cf m) 102 [.t x] [] (.ret (.t (.bool (f x))) [] [])∧(x=.sl [.str [97]]→f x=true):=dQ (P:=T .aY) (Q:=fun x (r:Bool)=>ay (cf m) 102 [.t x] [] (.ret (.t (.bool r)) [] [])∧(x=.sl [.str [97]]→r=true)) fun x hx=>by
 by_cases h1:x=.sl [.str [97]]
 · subst h1;exact⟨true,Mx m,fun _=>rfl⟩
 obtain⟨l,rfl,hl,h2⟩:=T.ij hx
 obtain⟨zs,rfl⟩:=XQ h2
 by_cases h:zs=[]
 · subst h;obtain⟨r,hr⟩:=Mv m;exact⟨r,hr,fun e=>absurd e h1⟩
 · obtain⟨r,hr⟩:=J4 m zs (by simpa using hl) h;exact⟨r,hr,fun e=>absurd e h1⟩
end
end Go.Proofs.YtijfhoelihclbaaGreatDoor.w.e

namespace Go.Proofs.YtijfhoelihclbaaGreatDoor.w.e
open Go Go.Abs Go.Abs.Ty
set_option linter.unusedVariables false
set_option maxRecDepth 100000
set_option maxHeartbeats 2000000
noncomputable section
theorem XS (m:Int):∃F:Tree→Int,∀x,(T .nH x)→R1 (cf m) 101 x (.int .i64 (F x))∧(True):=by
  refine vz (P:=fun x=>T .nH x) (mk:=fun(r:Int)=>.int .i64 r) (Post:=fun x r=>True) fun x hx=> ?_
  show ∃r:{r:Int // True},ay (cf m) 101 [.t x] [] (.ret (.t (.int .i64 r.1)) [] [])
  have bY:=hx
  obtain⟨type_1,pP,rfl⟩:=T.LX bY
  obtain⟨vA,Ms⟩:=BO m
  obtain⟨Bu,Mu⟩:=sP m
  obtain⟨ev,ai,Al,vB⟩:∃ev,aF (cf m) ev∧Has ev 68 (kY (fun x=>PS x) (fun x=>.bool (vA x)))∧Has ev 29 (kY (fun x=>PS x) (fun x=>.bool (Bu x))):=⟨_,(ax (bD (fun x h=>(Ms x h))) (ax (bD (fun x h=>(Mu x h))) aH)),az,(aq rfl az)⟩
  refine AX.start 18 1 Tryz.func101 rfl (by decide) rfl rfl (by decide) ?_
  refine AX.frames ?_
  rcases aL ((!(vA (.str type_1)))) with bE|bE
  ·
   refine⟨⟨5, ?_⟩,kF ah ai [oC (bk Al (x:=.str type_1) ⟨_,rfl⟩),oB bE] (by kernel_rfl)⟩
   trivial
  ·
   rcases aL ((!(Bu (.str pP)))) with bF|bF
   ·
    refine⟨⟨6, ?_⟩,kF ah ai [oC (bk Al (x:=.str type_1) ⟨_,rfl⟩),oB bE,oC (bk vB (x:=.str pP) ⟨_,rfl⟩),oB bF] (by kernel_rfl)⟩
    trivial
   ·
    rcases aL (decide (((pP.length:Nat):Int)>64)) with rU|rU
    ·
     have Hq:=of_decide_eq_true rU
     refine⟨⟨3, ?_⟩,kF ah ai [oC (bk Al (x:=.str type_1) ⟨_,rfl⟩),oB bE,oC (bk vB (x:=.str pP) ⟨_,rfl⟩),oB bF,oB rU] (by kernel_rfl)⟩
     trivial
    ·
     have Hq:=of_decide_eq_false rU
     refine⟨⟨0, ?_⟩,kF ah ai [oC (bk Al (x:=.str type_1) ⟨_,rfl⟩),oB bE,oC (bk vB (x:=.str pP) ⟨_,rfl⟩),oB bF,oB rU] (by kernel_rfl)⟩
     trivial
theorem Us (m:Int):∃F:Tree→Tree→Int,∀x y,(T .aY x∧T .string y)→R2 (cf m) 108 x y (.int .i64 (F x y))∧(True):=by
  refine sL (P:=fun x y=>T .aY x∧T .string y) (mk:=fun(r:Int)=>.int .i64 r) (Post:=fun x y r=>True) fun x y hx=> ?_
  obtain⟨hx,hy⟩:=hx
  show ∃r:{r:Int // True},ay (cf m) 108 [.t x,.t y] [] (.ret (.t (.int .i64 r.1)) [] [])
  have bY:=hx
  obtain⟨v_1,rfl,dY,bh⟩:=T.ij bY
  have Bv:=hy
  obtain⟨v_2,rfl⟩:=T.cT Bv
  obtain⟨ev,ai⟩:∃ev,aF (cf m) ev:=⟨_,aH⟩
  refine AX.start 19 2 Tryz.func108 rfl (by decide) rfl rfl (by decide) ?_
  refine AX.frames ?_
  refine eF (f:=0) (n:=3000) (once:=[]) (k:=19) (T:=0) (S:=[]) (ks:=[]) (live:=[0,1,7,8]) ah ai (α:=Nat) (fun x=>⟨bX 19 [(0,.t (.sl v_1)),(1,.t (.str v_2)),(7,.t (.int .i64 ((v_1.length:Nat):Int))),(8,.t (.int .i64 ((x:Nat):Int)))],[],0⟩) (fun x=>(x≤v_1.length)) (fun x=>v_1.length - x) 0 (iF (Tryz.f108.body.getD .skip) 2) [] (by kernel_rfl) (by show(0≤v_1.length);first|trivial|omega|(refine⟨?_, ?_⟩<;>first|omega|exact SM.nil)|simp) (fun x hok=> ?_)
  obtain⟨FL,k3⟩:∃y,y=x:=⟨x,rfl⟩
  subst k3
  replace hok:(FL≤v_1.length):=hok
  have XL:=hok
  rcases aL (decide (((FL:Nat):Int)<((v_1.length:Nat):Int))) with rU|rU
  ·
   have Hq:=of_decide_eq_true rU
   obtain⟨e5,XM⟩:=ou v_1 FL (by first|omega|(simp;omega))
   have wI:=(bh e5 (List.mem_of_getElem? XM))
   obtain⟨v_6,rfl⟩:=T.cT wI
   rcases aL ((v_2==v_6)) with qv|qv
   ·
    have Hf:=eq_of_beq qv
    refine kO ah ai [oB rU,oE XM,oB qv] (by kernel_rfl) ?_
    refine⟨⟨((FL:Nat):Int), ?_⟩,kF ah ai [] (by kernel_rfl)⟩
    trivial
   ·
    have Hf:=ne_of_beq_false qv
    exact⟨.inl ⟨FL+1,⟨(by show(FL+1)≤v_1.length;omega),(by show(v_1.length - (FL+1))<(v_1.length - FL);omega)⟩⟩,bS (f:=0) (n:=3000) (once:=[]) (k:=19) (T:=0) (S:=[]) (ks:=[]) (live:=[0,1,7,8]) ah ai [oB rU,oE XM,oB qv,oI (FL) (by omega)] (by kernel_rfl)⟩
  ·
   have Hq:=of_decide_eq_false rU
   refine kO ah ai [oB rU] (by kernel_rfl) ?_
   refine⟨⟨-1, ?_⟩,kF ah ai [] (by kernel_rfl)⟩
   trivial
theorem J6 (m:Int):∃F:Tree→Tree→Bool,∀x y,(T .aY x∧T .string y)→R2 (cf m) 69 x y (.bool (F x y))∧(True):=by
 refine sL (P:=fun x y=>T .aY x∧T .string y) (mk:=fun(r:Bool)=>.bool r) (Post:=fun x y r=>True) fun x y hx=> ?_
 obtain⟨hx,hy⟩:=hx
 show ∃r:{r:Bool // True},ay (cf m) 69 [.t x,.t y] [] (.ret (.t (.bool r.1)) [] [])
 have bY:=hx
 obtain⟨v_1,rfl,dY,bh⟩:=T.ij bY
 have Bv:=hy
 obtain⟨v_2,rfl⟩:=T.cT Bv
 obtain⟨Zn,aeU⟩:=Us m
 obtain⟨ev,ai,aeV⟩:∃ev,aF (cf m) ev∧Has ev 108 (rD (fun x y=>T .aY x∧T .string y) (fun x y=>.int .i64 (Zn x y))):=⟨_,(ax (dn (fun x y h=>(aeU x y h).1)) aH),az⟩
 refine AX.start 9 2 Tryz.func69 rfl (by decide) rfl rfl (by decide) ?_
 refine AX.frames ?_
 refine⟨⟨decide ((Zn (.sl v_1) (.str v_2))≥0), ?_⟩,kF ah ai [oC (dr aeV (x:=.sl v_1) (y:=.str v_2) ⟨bY,Bv⟩)] (by kernel_rfl)⟩
 trivial
def Ut (op:Int)(nn nk:Nat):Prop:=op<30∧(op=7→nn=nk)∧(op=14→3≤nk)∧(op=1∨op=2∨op=3∨op=4∨op=5∨op=6∨op=7∨1≤nk)
def FO:Tree→Prop
 |.agg [.int _ op,_,_,_,.sl ns,.sl ks]=>Ut op ns.length ks.length
 |_=>False
theorem FP        (m :Int):∃F:Tree→(Int×Int×List UInt8×List UInt8×List Tree×List Tree)×Bool,∀x,(T .aW x)→R1 (cf m) 66 x (.bN [.agg [.int .u8 ((F x).1.1),.int .i64 ((F x).1.2.1),.str ((F x).1.2.2.1),.str ((F x).1.2.2.2.1),.sl ((F x).1.2.2.2.2.1),.sl ((F x).1.2.2.2.2.2)],.bool (F x).2])∧(((F x).2=true→FO x)∧∀e,x=dA e→(F x).2=true∧(F x).1.2.1=0∧(F x).1.2.2.1=[]∧(F x).1.2.2.2.1=[]∧(F x).1.2.2.2.2.1.length=1):=by
  refine vz (P:=fun x=>T .aW x) (mk:=fun(r:(Int×Int×List UInt8×List UInt8×List Tree×List Tree)×Bool)=>.bN [.agg [.int .u8 r.1.1,.int .i64 r.1.2.1,.str r.1.2.2.1,.str r.1.2.2.2.1,.sl r.1.2.2.2.2.1,.sl r.1.2.2.2.2.2],.bool r.2]) (Post:=fun x r=>(r.2=true→FO x)∧∀e,x=dA e→r.2=true∧r.1.2.1=0∧r.1.2.2.1=[]∧r.1.2.2.2.1=[]∧r.1.2.2.2.2.1.length=1) fun x hx=> ?_
  show ∃r:{r:(Int×Int×List UInt8×List UInt8×List Tree×List Tree)×Bool //(r.2=true→FO x)∧∀e,x=dA e→r.2=true∧r.1.2.1=0∧r.1.2.2.1=[]∧r.1.2.2.2.1=[]∧r.1.2.2.2.2.1.length=1},ay (cf m) 66 [.t x] [] (.ret (.t (.bN [.agg [.int .u8 r.1.1.1,.int .i64 r.1.1.2.1,.str r.1.1.2.2.1,.str r.1.1.2.2.2.1,.sl r.1.1.2.2.2.2.1,.sl r.1.1.2.2.2.2.2],.bool r.1.2])) [] [])
  have bY:=hx
  obtain⟨cC,n_1,s_1,pQ,fU,bW,rfl,dY,bh,ji,dD⟩:=T.cG bY
  obtain⟨Bu,Mu⟩:=sP m
  obtain⟨aeW,ajB⟩:=XS m
  obtain⟨J7,Uu⟩:=J6 m
  obtain⟨J8,J9⟩:=J5 m
  obtain⟨Qq,abo⟩:=Oh m
  obtain⟨vA,Ms⟩:=BO m
  obtain⟨ev,ai,vB,abr,Ka,DB,J2,Al⟩:∃ev,aF (cf m) ev∧Has ev 29 (kY (fun x=>PS x) (fun x=>.bool (Bu x)))∧Has ev 101 (kY (fun x=>T .nH x) (fun x=>.int .i64 (aeW x)))∧Has ev 69 (rD (fun x y=>T .aY x∧T .string y) (fun x y=>.bool (J7 x y)))∧Has ev 102 (kY (fun x=>T .aY x) (fun x=>.bool (J8 x)))∧Has ev 103 (kY (fun x=>T .string x) (fun x=>.bool (Qq x)))∧Has ev 68 (kY (fun x=>PS x) (fun x=>.bool (vA x))):=⟨_,(ax (bD (fun x h=>(Mu x h))) (ax (bD (fun x h=>(ajB x h).1)) (ax (dn (fun x y h=>(Uu x y h).1)) (ax (bD (fun x h=>(J9 x h).1)) (ax (bD (fun x h=>(abo x h).1)) (ax (bD (fun x h=>(Ms x h))) aH)))))),az,(aq rfl az),(aq rfl (aq rfl az)),(aq rfl (aq rfl (aq rfl az))),(aq rfl (aq rfl (aq rfl (aq rfl az)))),(aq rfl (aq rfl (aq rfl (aq rfl (aq rfl az)))))⟩
  refine AX.start 149 1 Tryz.func66 rfl (by decide) rfl rfl (by decide) ?_
  refine AX.frames ?_
  rcases aL ((cC==0)) with bE|bE
  ·
   have gR:=eq_of_beq bE
   refine⟨⟨((cC,0,[],[],[],[]),false), ?_⟩,kF ah ai [oB bE,oF,oF,oF,oF,oF,oF,oF,oF,oF,oF] (by kernel_rfl)⟩
   refine⟨?_, ?_⟩
   · exact fun h=>absurd (show false=true from h) (by decide)
   · exact fun e he=>by
       simp only[dA,Tree.agg.injEq,List.cons.injEq,Tree.int.injEq,Tree.str.injEq,Tree.sl.injEq,true_and,and_true] at he
       obtain⟨e1,e2,e3,e4,e5,e6⟩:=he
       exact absurd (eq_of_beq bE) (by rw[e1];decide)
  ·
   have gR:=ne_of_beq_false bE
   rcases aL ((cC==1)) with bF|bF
   ·
    have kH:=eq_of_beq bF
    rcases aL ((n_1==0)) with hg4|hg4
    ·
     have Ml:=eq_of_beq hg4
     rcases aL (decide (cC<30)) with bw|bw
     ·
      have He:=of_decide_eq_true bw
      refine⟨⟨((cC,n_1,[],[],[],[]),(((bW.length:Nat):Int)==0)), ?_⟩,kF ah ai [oB bE,oB bF,oB hg4,oB hg4,oB hg4,oB hg4,oT,oT,oT,oT,oB bw,oB bw,oB bw,oB bw,oB bw,oB bw] (by kernel_rfl)⟩
      refine⟨?_, ?_⟩
      · exact by
          intro h
          have h:=eq_of_beq (show(((bW.length:Nat):Int)==0)=true from h)
          exact⟨by omega,by omega,by omega,by omega⟩
      · exact fun e he=>by
          simp only[dA,Tree.agg.injEq,List.cons.injEq,Tree.int.injEq,Tree.str.injEq,Tree.sl.injEq,true_and,and_true] at he
          obtain⟨e1,e2,e3,e4,e5,e6⟩:=he
          exact absurd (eq_of_beq bF) (by rw[e1];decide)
     ·
      have He:=of_decide_eq_false bw
      refine⟨⟨((cC,n_1,[],[],[],[]),false), ?_⟩,kF ah ai [oB bE,oB bF,oB hg4,oB hg4,oB hg4,oB hg4,oT,oT,oT,oT,oB bw,oB bw,oB bw,oB bw,oB bw,oB bw] (by kernel_rfl)⟩
      refine⟨?_, ?_⟩
      · exact fun h=>absurd (show false=true from h) (by decide)
      · exact fun e he=>by
          simp only[dA,Tree.agg.injEq,List.cons.injEq,Tree.int.injEq,Tree.str.injEq,Tree.sl.injEq,true_and,and_true] at he
          obtain⟨e1,e2,e3,e4,e5,e6⟩:=he
          exact absurd (eq_of_beq bF) (by rw[e1];decide)
    ·
     have Ml:=ne_of_beq_false hg4
     rcases aL ((n_1==1)) with fB|fB
     ·
      have abh:=eq_of_beq fB
      rcases aL (decide (cC<30)) with A5|A5
      ·
       have ajC:=of_decide_eq_true A5
       refine⟨⟨((cC,n_1,[],[],[],[]),(((bW.length:Nat):Int)==0)), ?_⟩,kF ah ai [oB bE,oB bF,oB hg4,oB hg4,oB hg4,oB hg4,oB fB,oB fB,oB fB,oB fB,oB A5,oB A5,oB A5,oB A5,oB A5,oB A5] (by kernel_rfl)⟩
       refine⟨?_, ?_⟩
       · exact by
           intro h
           have h:=eq_of_beq (show(((bW.length:Nat):Int)==0)=true from h)
           exact⟨by omega,by omega,by omega,by omega⟩
       · exact fun e he=>by
           simp only[dA,Tree.agg.injEq,List.cons.injEq,Tree.int.injEq,Tree.str.injEq,Tree.sl.injEq,true_and,and_true] at he
           obtain⟨e1,e2,e3,e4,e5,e6⟩:=he
           exact absurd (eq_of_beq bF) (by rw[e1];decide)
      ·
       have ajC:=of_decide_eq_false A5
       refine⟨⟨((cC,n_1,[],[],[],[]),false), ?_⟩,kF ah ai [oB bE,oB bF,oB hg4,oB hg4,oB hg4,oB hg4,oB fB,oB fB,oB fB,oB fB,oB A5,oB A5,oB A5,oB A5,oB A5,oB A5] (by kernel_rfl)⟩
       refine⟨?_, ?_⟩
       · exact fun h=>absurd (show false=true from h) (by decide)
       · exact fun e he=>by
           simp only[dA,Tree.agg.injEq,List.cons.injEq,Tree.int.injEq,Tree.str.injEq,Tree.sl.injEq,true_and,and_true] at he
           obtain⟨e1,e2,e3,e4,e5,e6⟩:=he
           exact absurd (eq_of_beq bF) (by rw[e1];decide)
     ·
      have abh:=ne_of_beq_false fB
      refine⟨⟨((cC,n_1,[],[],[],[]),false), ?_⟩,kF ah ai [oB bE,oB bF,oB hg4,oB hg4,oB hg4,oB hg4,oB fB,oB fB,oB fB,oB fB,oF,oF,oF,oF,oF,oF] (by kernel_rfl)⟩
      refine⟨?_, ?_⟩
      · exact fun h=>absurd (show false=true from h) (by decide)
      · exact fun e he=>by
          simp only[dA,Tree.agg.injEq,List.cons.injEq,Tree.int.injEq,Tree.str.injEq,Tree.sl.injEq,true_and,and_true] at he
          obtain⟨e1,e2,e3,e4,e5,e6⟩:=he
          exact absurd (eq_of_beq bF) (by rw[e1];decide)
   ·
    have kH:=ne_of_beq_false bF
    rcases aL ((cC==2)) with fF|fF
    ·
     have wH:=eq_of_beq fF
     rcases aL (decide (n_1≥0)) with My|My
     ·
      have ajD:=of_decide_eq_true My
      rcases aL (decide (cC<30)) with kG|kG
      ·
       have aeX:=of_decide_eq_true kG
       refine⟨⟨((cC,n_1,[],[],[],[]),(((bW.length:Nat):Int)==0)), ?_⟩,kF ah ai [oB bE,oB bF,oB fF,oB My,oB My,oB My,oB My,oB kG,oB kG,oB kG,oB kG,oB kG,oB kG] (by kernel_rfl)⟩
       refine⟨?_, ?_⟩
       · exact by
           intro h
           have h:=eq_of_beq (show(((bW.length:Nat):Int)==0)=true from h)
           exact⟨by omega,by omega,by omega,by omega⟩
       · exact fun e he=>by
           simp only[dA,Tree.agg.injEq,List.cons.injEq,Tree.int.injEq,Tree.str.injEq,Tree.sl.injEq,true_and,and_true] at he
           obtain⟨e1,e2,e3,e4,e5,e6⟩:=he
           exact absurd (eq_of_beq fF) (by rw[e1];decide)
      ·
       have aeX:=of_decide_eq_false kG
       refine⟨⟨((cC,n_1,[],[],[],[]),false), ?_⟩,kF ah ai [oB bE,oB bF,oB fF,oB My,oB My,oB My,oB My,oB kG,oB kG,oB kG,oB kG,oB kG,oB kG] (by kernel_rfl)⟩
       refine⟨?_, ?_⟩
       · exact fun h=>absurd (show false=true from h) (by decide)
       · exact fun e he=>by
           simp only[dA,Tree.agg.injEq,List.cons.injEq,Tree.int.injEq,Tree.str.injEq,Tree.sl.injEq,true_and,and_true] at he
           obtain⟨e1,e2,e3,e4,e5,e6⟩:=he
           exact absurd (eq_of_beq fF) (by rw[e1];decide)
     ·
      have ajD:=of_decide_eq_false My
      refine⟨⟨((cC,n_1,[],[],[],[]),false), ?_⟩,kF ah ai [oB bE,oB bF,oB fF,oB My,oB My,oB My,oB My,oF,oF,oF,oF,oF,oF] (by kernel_rfl)⟩
      refine⟨?_, ?_⟩
      · exact fun h=>absurd (show false=true from h) (by decide)
      · exact fun e he=>by
          simp only[dA,Tree.agg.injEq,List.cons.injEq,Tree.int.injEq,Tree.str.injEq,Tree.sl.injEq,true_and,and_true] at he
          obtain⟨e1,e2,e3,e4,e5,e6⟩:=he
          exact absurd (eq_of_beq fF) (by rw[e1];decide)
    ·
     have wH:=ne_of_beq_false fF
     rcases aL ((cC==3)) with cN|cN
     ·
      have yH:=eq_of_beq cN
      rcases aL (decide (((s_1.length:Nat):Int)≤256)) with kZ|kZ
      ·
       have aeY:=of_decide_eq_true kZ
       rcases aL ((Bu (.str s_1))) with Ap|Ap
       ·
        rcases aL (decide (cC<30)) with wJ|wJ
        ·
         have aeZ:=of_decide_eq_true wJ
         refine⟨⟨((cC,0,s_1,[],[],[]),(((bW.length:Nat):Int)==(IntKind.wrap .i64 (IntKind.wrap .u8 (cC.tdiv 11))))), ?_⟩,kF ah ai [oB bE,oB bF,oB fF,oB cN,oB cN,oB kZ,oB kZ,oB kZ,oC (bk vB (x:=.str s_1) ⟨_,rfl⟩),oB kZ,oB Ap,oB Ap,oB Ap,oB Ap,oB wJ,oB wJ,oB wJ,oB wJ,oB wJ,oB wJ] (by kernel_rfl)⟩
         refine⟨?_, ?_⟩
         · exact by
             intro h
             have h:=eq_of_beq (show(((bW.length:Nat):Int)==(IntKind.wrap .i64 (IntKind.wrap .u8 (cC.tdiv 11))))=true from h)
             clear h
             exact⟨by omega,by omega,by omega,by omega⟩
         · exact fun e he=>by
             simp only[dA,Tree.agg.injEq,List.cons.injEq,Tree.int.injEq,Tree.str.injEq,Tree.sl.injEq,true_and,and_true] at he
             obtain⟨e1,e2,e3,e4,e5,e6⟩:=he
             exact absurd (eq_of_beq cN) (by rw[e1];decide)
        ·
         have aeZ:=of_decide_eq_false wJ
         refine⟨⟨((cC,0,s_1,[],[],[]),false), ?_⟩,kF ah ai [oB bE,oB bF,oB fF,oB cN,oB cN,oB kZ,oB kZ,oB kZ,oC (bk vB (x:=.str s_1) ⟨_,rfl⟩),oB kZ,oB Ap,oB Ap,oB Ap,oB Ap,oB wJ,oB wJ,oB wJ,oB wJ,oB wJ,oB wJ] (by kernel_rfl)⟩
         refine⟨?_, ?_⟩
         · exact fun h=>absurd (show false=true from h) (by decide)
         · exact fun e he=>by
             simp only[dA,Tree.agg.injEq,List.cons.injEq,Tree.int.injEq,Tree.str.injEq,Tree.sl.injEq,true_and,and_true] at he
             obtain⟨e1,e2,e3,e4,e5,e6⟩:=he
             exact absurd (eq_of_beq cN) (by rw[e1];decide)
       ·
        refine⟨⟨((cC,0,s_1,[],[],[]),false), ?_⟩,kF ah ai [oB bE,oB bF,oB fF,oB cN,oB cN,oB kZ,oB kZ,oB kZ,oC (bk vB (x:=.str s_1) ⟨_,rfl⟩),oB kZ,oB Ap,oB Ap,oB Ap,oB Ap,oF,oF,oF,oF,oF,oF] (by kernel_rfl)⟩
        refine⟨?_, ?_⟩
        · exact fun h=>absurd (show false=true from h) (by decide)
        · exact fun e he=>by
            simp only[dA,Tree.agg.injEq,List.cons.injEq,Tree.int.injEq,Tree.str.injEq,Tree.sl.injEq,true_and,and_true] at he
            obtain⟨e1,e2,e3,e4,e5,e6⟩:=he
            exact absurd (eq_of_beq cN) (by rw[e1];decide)
      ·
       have aeY:=of_decide_eq_false kZ
       refine⟨⟨((cC,0,s_1,[],[],[]),false), ?_⟩,kF ah ai [oB bE,oB bF,oB fF,oB cN,oB cN,oB kZ,oB kZ,oB kZ,oB kZ,oF,oF,oF,oF,oF,oF,oF,oF,oF,oF] (by kernel_rfl)⟩
       refine⟨?_, ?_⟩
       · exact fun h=>absurd (show false=true from h) (by decide)
       · exact fun e he=>by
           simp only[dA,Tree.agg.injEq,List.cons.injEq,Tree.int.injEq,Tree.str.injEq,Tree.sl.injEq,true_and,and_true] at he
           obtain⟨e1,e2,e3,e4,e5,e6⟩:=he
           exact absurd (eq_of_beq cN) (by rw[e1];decide)
     ·
      have yH:=ne_of_beq_false cN
      rcases aL ((cC==11)) with eL|eL
      ·
       have TH:=eq_of_beq eL
       rcases aL (decide (((s_1.length:Nat):Int)≤256)) with sQ|sQ
       ·
        have ae0:=of_decide_eq_true sQ
        rcases aL ((Bu (.str s_1))) with pJ|pJ
        ·
         rcases aL (decide (cC<30)) with wK|wK
         ·
          have ae1:=of_decide_eq_true wK
          refine⟨⟨((cC,0,s_1,[],[],[]),(((bW.length:Nat):Int)==(IntKind.wrap .i64 (IntKind.wrap .u8 (cC.tdiv 11))))), ?_⟩,kF ah ai [oB bE,oB bF,oB fF,oB cN,oB eL,oB sQ,oB sQ,oB sQ,oC (bk vB (x:=.str s_1) ⟨_,rfl⟩),oB sQ,oB pJ,oB pJ,oB pJ,oB pJ,oB wK,oB wK,oB wK,oB wK,oB wK,oB wK] (by kernel_rfl)⟩
          refine⟨?_, ?_⟩
          · exact by
              intro h
              have h:=eq_of_beq (show(((bW.length:Nat):Int)==(IntKind.wrap .i64 (IntKind.wrap .u8 (cC.tdiv 11))))=true from h)
              have h:((bW.length:Nat):Int)=1:=h.trans (by rw[eq_of_beq eL];decide)
              exact⟨by omega,by omega,by omega,by omega⟩
          · exact fun e he=>by
              simp only[dA,Tree.agg.injEq,List.cons.injEq,Tree.int.injEq,Tree.str.injEq,Tree.sl.injEq,true_and,and_true] at he
              obtain⟨e1,e2,e3,e4,e5,e6⟩:=he
              exact absurd (eq_of_beq eL) (by rw[e1];decide)
         ·
          have ae1:=of_decide_eq_false wK
          refine⟨⟨((cC,0,s_1,[],[],[]),false), ?_⟩,kF ah ai [oB bE,oB bF,oB fF,oB cN,oB eL,oB sQ,oB sQ,oB sQ,oC (bk vB (x:=.str s_1) ⟨_,rfl⟩),oB sQ,oB pJ,oB pJ,oB pJ,oB pJ,oB wK,oB wK,oB wK,oB wK,oB wK,oB wK] (by kernel_rfl)⟩
          refine⟨?_, ?_⟩
          · exact fun h=>absurd (show false=true from h) (by decide)
          · exact fun e he=>by
              simp only[dA,Tree.agg.injEq,List.cons.injEq,Tree.int.injEq,Tree.str.injEq,Tree.sl.injEq,true_and,and_true] at he
              obtain⟨e1,e2,e3,e4,e5,e6⟩:=he
              exact absurd (eq_of_beq eL) (by rw[e1];decide)
        ·
         refine⟨⟨((cC,0,s_1,[],[],[]),false), ?_⟩,kF ah ai [oB bE,oB bF,oB fF,oB cN,oB eL,oB sQ,oB sQ,oB sQ,oC (bk vB (x:=.str s_1) ⟨_,rfl⟩),oB sQ,oB pJ,oB pJ,oB pJ,oB pJ,oF,oF,oF,oF,oF,oF] (by kernel_rfl)⟩
         refine⟨?_, ?_⟩
         · exact fun h=>absurd (show false=true from h) (by decide)
         · exact fun e he=>by
             simp only[dA,Tree.agg.injEq,List.cons.injEq,Tree.int.injEq,Tree.str.injEq,Tree.sl.injEq,true_and,and_true] at he
             obtain⟨e1,e2,e3,e4,e5,e6⟩:=he
             exact absurd (eq_of_beq eL) (by rw[e1];decide)
       ·
        have ae0:=of_decide_eq_false sQ
        refine⟨⟨((cC,0,s_1,[],[],[]),false), ?_⟩,kF ah ai [oB bE,oB bF,oB fF,oB cN,oB eL,oB sQ,oB sQ,oB sQ,oB sQ,oF,oF,oF,oF,oF,oF,oF,oF,oF,oF] (by kernel_rfl)⟩
        refine⟨?_, ?_⟩
        · exact fun h=>absurd (show false=true from h) (by decide)
        · exact fun e he=>by
            simp only[dA,Tree.agg.injEq,List.cons.injEq,Tree.int.injEq,Tree.str.injEq,Tree.sl.injEq,true_and,and_true] at he
            obtain⟨e1,e2,e3,e4,e5,e6⟩:=he
            exact absurd (eq_of_beq eL) (by rw[e1];decide)
      ·
       have TH:=ne_of_beq_false eL
       rcases aL ((cC==4)) with jk|jk
       ·
        have ae2:=eq_of_beq jk
        rcases aL (((aeW (.agg [.str pQ,.str s_1]))==0)) with pR|pR
        ·
         have ae3:=eq_of_beq pR
         rcases aL (decide (cC<30)) with wL|wL
         ·
          have ae4:=of_decide_eq_true wL
          refine⟨⟨((cC,0,s_1,pQ,[],[]),(((bW.length:Nat):Int)==0)), ?_⟩,kF ah ai [oB bE,oB bF,oB fF,oB cN,oB eL,oB jk,oC (bk abr (x:=.agg [.str pQ,.str s_1]) (.nH _ _)),oB pR,oB pR,oB pR,oB pR,oB wL,oB wL,oB wL,oB wL,oB wL,oB wL] (by kernel_rfl)⟩
          refine⟨?_, ?_⟩
          · exact by
              intro h
              have h:=eq_of_beq (show(((bW.length:Nat):Int)==0)=true from h)
              exact⟨by omega,by omega,by omega,by omega⟩
          · exact fun e he=>by
              simp only[dA,Tree.agg.injEq,List.cons.injEq,Tree.int.injEq,Tree.str.injEq,Tree.sl.injEq,true_and,and_true] at he
              obtain⟨e1,e2,e3,e4,e5,e6⟩:=he
              exact absurd (eq_of_beq jk) (by rw[e1];decide)
         ·
          have ae4:=of_decide_eq_false wL
          refine⟨⟨((cC,0,s_1,pQ,[],[]),false), ?_⟩,kF ah ai [oB bE,oB bF,oB fF,oB cN,oB eL,oB jk,oC (bk abr (x:=.agg [.str pQ,.str s_1]) (.nH _ _)),oB pR,oB pR,oB pR,oB pR,oB wL,oB wL,oB wL,oB wL,oB wL,oB wL] (by kernel_rfl)⟩
          refine⟨?_, ?_⟩
          · exact fun h=>absurd (show false=true from h) (by decide)
          · exact fun e he=>by
              simp only[dA,Tree.agg.injEq,List.cons.injEq,Tree.int.injEq,Tree.str.injEq,Tree.sl.injEq,true_and,and_true] at he
              obtain⟨e1,e2,e3,e4,e5,e6⟩:=he
              exact absurd (eq_of_beq jk) (by rw[e1];decide)
        ·
         have ae3:=ne_of_beq_false pR
         refine⟨⟨((cC,0,s_1,pQ,[],[]),false), ?_⟩,kF ah ai [oB bE,oB bF,oB fF,oB cN,oB eL,oB jk,oC (bk abr (x:=.agg [.str pQ,.str s_1]) (.nH _ _)),oB pR,oB pR,oB pR,oB pR,oF,oF,oF,oF,oF,oF] (by kernel_rfl)⟩
         refine⟨?_, ?_⟩
         · exact fun h=>absurd (show false=true from h) (by decide)
         · exact fun e he=>by
             simp only[dA,Tree.agg.injEq,List.cons.injEq,Tree.int.injEq,Tree.str.injEq,Tree.sl.injEq,true_and,and_true] at he
             obtain⟨e1,e2,e3,e4,e5,e6⟩:=he
             exact absurd (eq_of_beq jk) (by rw[e1];decide)
       ·
        have ae2:=ne_of_beq_false jk
        rcases aL ((cC==5)) with fR|fR
        ·
         have DA:=eq_of_beq fR
         rcases aL ((J7 (.sl [.str [112,114,105,110,99,105,112,97,108],.str [97,99,116,105,111,110],.str [114,101,115,111,117,114,99,101],.str [99,111,110,116,101,120,116]]) (.str s_1))) with Aq|Aq
         ·
          rcases aL (decide (cC<30)) with wM|wM
          ·
           have ae5:=of_decide_eq_true wM
           refine⟨⟨((cC,0,s_1,[],[],[]),(((bW.length:Nat):Int)==0)), ?_⟩,kF ah ai [oB bE,oB bF,oB fF,oB cN,oB eL,oB jk,oB fR,oC (dr Ka (x:=.sl [.str [112,114,105,110,99,105,112,97,108],.str [97,99,116,105,111,110],.str [114,101,115,111,117,114,99,101],.str [99,111,110,116,101,120,116]]) (y:=.str s_1) ⟨(.aY _ (by first|assumption|omega|(simp;done)|(simp;omega)) (eX (.string _) (eX (.string _) (eX (.string _) (eX (.string _) (fun _ h=>absurd h (by simp))))))),(.string _)⟩),oB Aq,oB Aq,oB Aq,oB Aq,oB wM,oB wM,oB wM,oB wM,oB wM,oB wM] (by kernel_rfl)⟩
           refine⟨?_, ?_⟩
           · exact by
               intro h
               have h:=eq_of_beq (show(((bW.length:Nat):Int)==0)=true from h)
               exact⟨by omega,by omega,by omega,by omega⟩
           · exact fun e he=>by
               simp only[dA,Tree.agg.injEq,List.cons.injEq,Tree.int.injEq,Tree.str.injEq,Tree.sl.injEq,true_and,and_true] at he
               obtain⟨e1,e2,e3,e4,e5,e6⟩:=he
               exact absurd (eq_of_beq fR) (by rw[e1];decide)
          ·
           have ae5:=of_decide_eq_false wM
           refine⟨⟨((cC,0,s_1,[],[],[]),false), ?_⟩,kF ah ai [oB bE,oB bF,oB fF,oB cN,oB eL,oB jk,oB fR,oC (dr Ka (x:=.sl [.str [112,114,105,110,99,105,112,97,108],.str [97,99,116,105,111,110],.str [114,101,115,111,117,114,99,101],.str [99,111,110,116,101,120,116]]) (y:=.str s_1) ⟨(.aY _ (by first|assumption|omega|(simp;done)|(simp;omega)) (eX (.string _) (eX (.string _) (eX (.string _) (eX (.string _) (fun _ h=>absurd h (by simp))))))),(.string _)⟩),oB Aq,oB Aq,oB Aq,oB Aq,oB wM,oB wM,oB wM,oB wM,oB wM,oB wM] (by kernel_rfl)⟩
           refine⟨?_, ?_⟩
           · exact fun h=>absurd (show false=true from h) (by decide)
           · exact fun e he=>by
               simp only[dA,Tree.agg.injEq,List.cons.injEq,Tree.int.injEq,Tree.str.injEq,Tree.sl.injEq,true_and,and_true] at he
               obtain⟨e1,e2,e3,e4,e5,e6⟩:=he
               exact absurd (eq_of_beq fR) (by rw[e1];decide)
         ·
          refine⟨⟨((cC,0,s_1,[],[],[]),false), ?_⟩,kF ah ai [oB bE,oB bF,oB fF,oB cN,oB eL,oB jk,oB fR,oC (dr Ka (x:=.sl [.str [112,114,105,110,99,105,112,97,108],.str [97,99,116,105,111,110],.str [114,101,115,111,117,114,99,101],.str [99,111,110,116,101,120,116]]) (y:=.str s_1) ⟨(.aY _ (by first|assumption|omega|(simp;done)|(simp;omega)) (eX (.string _) (eX (.string _) (eX (.string _) (eX (.string _) (fun _ h=>absurd h (by simp))))))),(.string _)⟩),oB Aq,oB Aq,oB Aq,oB Aq,oF,oF,oF,oF,oF,oF] (by kernel_rfl)⟩
          refine⟨?_, ?_⟩
          · exact fun h=>absurd (show false=true from h) (by decide)
          · exact fun e he=>by
              simp only[dA,Tree.agg.injEq,List.cons.injEq,Tree.int.injEq,Tree.str.injEq,Tree.sl.injEq,true_and,and_true] at he
              obtain⟨e1,e2,e3,e4,e5,e6⟩:=he
              exact absurd (eq_of_beq fR) (by rw[e1];decide)
        ·
         have DA:=ne_of_beq_false fR
         rcases aL ((cC==6)) with iJ|iJ
         ·
          have JY:=eq_of_beq iJ
          rcases aL (decide (((bW.length:Nat):Int)≤16)) with ja|ja
          ·
           have TN:=of_decide_eq_true ja
           rcases aL (decide (cC<30)) with wN|wN
           ·
            have ae6:=of_decide_eq_true wN
            refine⟨⟨((cC,0,[],[],[],[]),(((bW.length:Nat):Int)==((bW.length:Nat):Int))), ?_⟩,kF ah ai [oB bE,oB bF,oB fF,oB cN,oB eL,oB jk,oB fR,oB iJ,oB ja,oB ja,oB ja,oB ja,oB wN,oB wN,oB wN,oB wN,oB wN,oB wN] (by kernel_rfl)⟩
            refine⟨?_, ?_⟩
            · exact by
                intro h
                have h:=eq_of_beq (show(((bW.length:Nat):Int)==((bW.length:Nat):Int))=true from h)
                exact⟨by omega,by omega,by omega,by omega⟩
            · exact fun e he=>by
                simp only[dA,Tree.agg.injEq,List.cons.injEq,Tree.int.injEq,Tree.str.injEq,Tree.sl.injEq,true_and,and_true] at he
                obtain⟨e1,e2,e3,e4,e5,e6⟩:=he
                exact absurd (eq_of_beq iJ) (by rw[e1];decide)
           ·
            have ae6:=of_decide_eq_false wN
            refine⟨⟨((cC,0,[],[],[],[]),false), ?_⟩,kF ah ai [oB bE,oB bF,oB fF,oB cN,oB eL,oB jk,oB fR,oB iJ,oB ja,oB ja,oB ja,oB ja,oB wN,oB wN,oB wN,oB wN,oB wN,oB wN] (by kernel_rfl)⟩
            refine⟨?_, ?_⟩
            · exact fun h=>absurd (show false=true from h) (by decide)
            · exact fun e he=>by
                simp only[dA,Tree.agg.injEq,List.cons.injEq,Tree.int.injEq,Tree.str.injEq,Tree.sl.injEq,true_and,and_true] at he
                obtain⟨e1,e2,e3,e4,e5,e6⟩:=he
                exact absurd (eq_of_beq iJ) (by rw[e1];decide)
          ·
           have TN:=of_decide_eq_false ja
           refine⟨⟨((cC,0,[],[],[],[]),false), ?_⟩,kF ah ai [oB bE,oB bF,oB fF,oB cN,oB eL,oB jk,oB fR,oB iJ,oB ja,oB ja,oB ja,oB ja,oF,oF,oF,oF,oF,oF] (by kernel_rfl)⟩
           refine⟨?_, ?_⟩
           · exact fun h=>absurd (show false=true from h) (by decide)
           · exact fun e he=>by
               simp only[dA,Tree.agg.injEq,List.cons.injEq,Tree.int.injEq,Tree.str.injEq,Tree.sl.injEq,true_and,and_true] at he
               obtain⟨e1,e2,e3,e4,e5,e6⟩:=he
               exact absurd (eq_of_beq iJ) (by rw[e1];decide)
         ·
          have JY:=ne_of_beq_false iJ
          rcases aL ((cC==7)) with iB|iB
          ·
           have JU:=eq_of_beq iB
           rcases aL (decide (((bW.length:Nat):Int)≤16)) with iu|iu
           ·
            have ae7:=of_decide_eq_true iu
            rcases aL ((((fU.length:Nat):Int)==((bW.length:Nat):Int))) with gp|gp
            ·
             have ae8:=eq_of_beq gp
             have abt:=(J9 (.sl fU) (.aY _ (by first|assumption|omega|(simp;done)|(simp;omega)) bh)).2
             rcases aL ((J8 (.sl fU))) with yL|yL
             ·
              rcases aL (decide (cC<30)) with vC|vC
              ·
               have ae9:=of_decide_eq_true vC
               refine⟨⟨((cC,0,[],[],fU,[]),(((bW.length:Nat):Int)==((bW.length:Nat):Int))), ?_⟩,kF ah ai [oB bE,oB bF,oB fF,oB cN,oB eL,oB jk,oB fR,oB iJ,oB iB,oB iu,oB iu,oB iu,oB iu,oB iu,oB iu,oB iu,oB iu,oB gp,oB gp,oB gp,oC (bk DB (x:=.sl fU) (.aY _ (by first|assumption|omega|(simp;done)|(simp;omega)) bh)),oB gp,oB yL,oB yL,oB yL,oB yL,oB vC,oB vC,oB vC,oB vC,oB vC,oB vC] (by kernel_rfl)⟩
               refine⟨?_, ?_⟩
               · exact by
                   intro h
                   have h:=eq_of_beq (show(((bW.length:Nat):Int)==((bW.length:Nat):Int))=true from h)
                   exact⟨by omega,by omega,by omega,by omega⟩
               · exact fun e he=>by
                   simp only[dA,Tree.agg.injEq,List.cons.injEq,Tree.int.injEq,Tree.str.injEq,Tree.sl.injEq,true_and,and_true] at he
                   obtain⟨e1,e2,e3,e4,e5,e6⟩:=he
                   have hlb:=abt (by rw[e5])
                   skip
                   exact⟨by subst e6;rfl,rfl,rfl,rfl,by subst e5;rfl⟩
              ·
               have ae9:=of_decide_eq_false vC
               refine⟨⟨((cC,0,[],[],fU,[]),false), ?_⟩,kF ah ai [oB bE,oB bF,oB fF,oB cN,oB eL,oB jk,oB fR,oB iJ,oB iB,oB iu,oB iu,oB iu,oB iu,oB iu,oB iu,oB iu,oB iu,oB gp,oB gp,oB gp,oC (bk DB (x:=.sl fU) (.aY _ (by first|assumption|omega|(simp;done)|(simp;omega)) bh)),oB gp,oB yL,oB yL,oB yL,oB yL,oB vC,oB vC,oB vC,oB vC,oB vC,oB vC] (by kernel_rfl)⟩
               refine⟨?_, ?_⟩
               · exact fun h=>absurd (show false=true from h) (by decide)
               · exact fun e he=>by
                   simp only[dA,Tree.agg.injEq,List.cons.injEq,Tree.int.injEq,Tree.str.injEq,Tree.sl.injEq,true_and,and_true] at he
                   obtain⟨e1,e2,e3,e4,e5,e6⟩:=he
                   have hlb:=abt (by rw[e5])
                   skip
                   have hq:=of_decide_eq_false vC
                   subst e6
                   subst e1
                   simp at hq
             ·
              refine⟨⟨((cC,0,[],[],fU,[]),false), ?_⟩,kF ah ai [oB bE,oB bF,oB fF,oB cN,oB eL,oB jk,oB fR,oB iJ,oB iB,oB iu,oB iu,oB iu,oB iu,oB iu,oB iu,oB iu,oB iu,oB gp,oB gp,oB gp,oC (bk DB (x:=.sl fU) (.aY _ (by first|assumption|omega|(simp;done)|(simp;omega)) bh)),oB gp,oB yL,oB yL,oB yL,oB yL,oF,oF,oF,oF,oF,oF] (by kernel_rfl)⟩
              refine⟨?_, ?_⟩
              · exact fun h=>absurd (show false=true from h) (by decide)
              · exact fun e he=>by
                  simp only[dA,Tree.agg.injEq,List.cons.injEq,Tree.int.injEq,Tree.str.injEq,Tree.sl.injEq,true_and,and_true] at he
                  obtain⟨e1,e2,e3,e4,e5,e6⟩:=he
                  have hlb:=abt (by rw[e5])
                  exact absurd (yL.symm.trans hlb) (by decide)
            ·
             have ae8:=ne_of_beq_false gp
             refine⟨⟨((cC,0,[],[],fU,[]),false), ?_⟩,kF ah ai [oB bE,oB bF,oB fF,oB cN,oB eL,oB jk,oB fR,oB iJ,oB iB,oB iu,oB iu,oB iu,oB iu,oB iu,oB iu,oB iu,oB iu,oB gp,oB gp,oB gp,oB gp,oF,oF,oF,oF,oF,oF,oF,oF,oF,oF] (by kernel_rfl)⟩
             refine⟨?_, ?_⟩
             · exact fun h=>absurd (show false=true from h) (by decide)
             · exact fun e he=>by
                 simp only[dA,Tree.agg.injEq,List.cons.injEq,Tree.int.injEq,Tree.str.injEq,Tree.sl.injEq,true_and,and_true] at he
                 obtain⟨e1,e2,e3,e4,e5,e6⟩:=he
                 have hq:=ne_of_beq_false gp
                 subst e6
                 subst e5
                 simp at hq
           ·
            have ae7:=of_decide_eq_false iu
            refine⟨⟨((cC,0,[],[],fU,[]),false), ?_⟩,kF ah ai [oB bE,oB bF,oB fF,oB cN,oB eL,oB jk,oB fR,oB iJ,oB iB,oB iu,oB iu,oB iu,oB iu,oB iu,oB iu,oB iu,oB iu,oF,oF,oF,oF,oF,oF,oF,oF,oF,oF,oF,oF,oF,oF] (by kernel_rfl)⟩
            refine⟨?_, ?_⟩
            · exact fun h=>absurd (show false=true from h) (by decide)
            · exact fun e he=>by
                simp only[dA,Tree.agg.injEq,List.cons.injEq,Tree.int.injEq,Tree.str.injEq,Tree.sl.injEq,true_and,and_true] at he
                obtain⟨e1,e2,e3,e4,e5,e6⟩:=he
                have hq:=of_decide_eq_false iu
                subst e6
                subst e1
                simp at hq
          ·
           have JU:=ne_of_beq_false iB
           rcases aL ((cC==8)) with nr|nr
           ·
            have afa:=eq_of_beq nr
            rcases aL ((Qq (.str s_1))) with Ar|Ar
            ·
             rcases aL (decide (cC<30)) with wO|wO
             ·
              have afb:=of_decide_eq_true wO
              refine⟨⟨((cC,0,s_1,[],[],[]),(((bW.length:Nat):Int)==1)), ?_⟩,kF ah ai [oB bE,oB bF,oB fF,oB cN,oB eL,oB jk,oB fR,oB iJ,oB iB,oB nr,oB nr,oC (bk J2 (x:=.str s_1) (.string _)),oB Ar,oB Ar,oB Ar,oB Ar,oB wO,oB wO,oB wO,oB wO,oB wO,oB wO] (by kernel_rfl)⟩
              refine⟨?_, ?_⟩
              · exact by
                  intro h
                  have h:=eq_of_beq (show(((bW.length:Nat):Int)==1)=true from h)
                  exact⟨by omega,by omega,by omega,by omega⟩
              · exact fun e he=>by
                  simp only[dA,Tree.agg.injEq,List.cons.injEq,Tree.int.injEq,Tree.str.injEq,Tree.sl.injEq,true_and,and_true] at he
                  obtain⟨e1,e2,e3,e4,e5,e6⟩:=he
                  exact absurd (eq_of_beq nr) (by rw[e1];decide)
             ·
              have afb:=of_decide_eq_false wO
              refine⟨⟨((cC,0,s_1,[],[],[]),false), ?_⟩,kF ah ai [oB bE,oB bF,oB fF,oB cN,oB eL,oB jk,oB fR,oB iJ,oB iB,oB nr,oB nr,oC (bk J2 (x:=.str s_1) (.string _)),oB Ar,oB Ar,oB Ar,oB Ar,oB wO,oB wO,oB wO,oB wO,oB wO,oB wO] (by kernel_rfl)⟩
              refine⟨?_, ?_⟩
              · exact fun h=>absurd (show false=true from h) (by decide)
              · exact fun e he=>by
                  simp only[dA,Tree.agg.injEq,List.cons.injEq,Tree.int.injEq,Tree.str.injEq,Tree.sl.injEq,true_and,and_true] at he
                  obtain⟨e1,e2,e3,e4,e5,e6⟩:=he
                  exact absurd (eq_of_beq nr) (by rw[e1];decide)
            ·
             refine⟨⟨((cC,0,s_1,[],[],[]),false), ?_⟩,kF ah ai [oB bE,oB bF,oB fF,oB cN,oB eL,oB jk,oB fR,oB iJ,oB iB,oB nr,oB nr,oC (bk J2 (x:=.str s_1) (.string _)),oB Ar,oB Ar,oB Ar,oB Ar,oF,oF,oF,oF,oF,oF] (by kernel_rfl)⟩
             refine⟨?_, ?_⟩
             · exact fun h=>absurd (show false=true from h) (by decide)
             · exact fun e he=>by
                 simp only[dA,Tree.agg.injEq,List.cons.injEq,Tree.int.injEq,Tree.str.injEq,Tree.sl.injEq,true_and,and_true] at he
                 obtain⟨e1,e2,e3,e4,e5,e6⟩:=he
                 exact absurd (eq_of_beq nr) (by rw[e1];decide)
           ·
            have afa:=ne_of_beq_false nr
            rcases aL ((cC==9)) with mI|mI
            ·
             have Uv:=eq_of_beq mI
             rcases aL ((Qq (.str s_1))) with Au|Au
             ·
              rcases aL (decide (cC<30)) with wP|wP
              ·
               have afc:=of_decide_eq_true wP
               refine⟨⟨((cC,0,s_1,[],[],[]),(((bW.length:Nat):Int)==1)), ?_⟩,kF ah ai [oB bE,oB bF,oB fF,oB cN,oB eL,oB jk,oB fR,oB iJ,oB iB,oB nr,oB mI,oC (bk J2 (x:=.str s_1) (.string _)),oB Au,oB Au,oB Au,oB Au,oB wP,oB wP,oB wP,oB wP,oB wP,oB wP] (by kernel_rfl)⟩
               refine⟨?_, ?_⟩
               · exact by
                   intro h
                   have h:=eq_of_beq (show(((bW.length:Nat):Int)==1)=true from h)
                   exact⟨by omega,by omega,by omega,by omega⟩
               · exact fun e he=>by
                   simp only[dA,Tree.agg.injEq,List.cons.injEq,Tree.int.injEq,Tree.str.injEq,Tree.sl.injEq,true_and,and_true] at he
                   obtain⟨e1,e2,e3,e4,e5,e6⟩:=he
                   exact absurd (eq_of_beq mI) (by rw[e1];decide)
              ·
               have afc:=of_decide_eq_false wP
               refine⟨⟨((cC,0,s_1,[],[],[]),false), ?_⟩,kF ah ai [oB bE,oB bF,oB fF,oB cN,oB eL,oB jk,oB fR,oB iJ,oB iB,oB nr,oB mI,oC (bk J2 (x:=.str s_1) (.string _)),oB Au,oB Au,oB Au,oB Au,oB wP,oB wP,oB wP,oB wP,oB wP,oB wP] (by kernel_rfl)⟩
               refine⟨?_, ?_⟩
               · exact fun h=>absurd (show false=true from h) (by decide)
               · exact fun e he=>by
                   simp only[dA,Tree.agg.injEq,List.cons.injEq,Tree.int.injEq,Tree.str.injEq,Tree.sl.injEq,true_and,and_true] at he
                   obtain⟨e1,e2,e3,e4,e5,e6⟩:=he
                   exact absurd (eq_of_beq mI) (by rw[e1];decide)
             ·
              refine⟨⟨((cC,0,s_1,[],[],[]),false), ?_⟩,kF ah ai [oB bE,oB bF,oB fF,oB cN,oB eL,oB jk,oB fR,oB iJ,oB iB,oB nr,oB mI,oC (bk J2 (x:=.str s_1) (.string _)),oB Au,oB Au,oB Au,oB Au,oF,oF,oF,oF,oF,oF] (by kernel_rfl)⟩
              refine⟨?_, ?_⟩
              · exact fun h=>absurd (show false=true from h) (by decide)
              · exact fun e he=>by
                  simp only[dA,Tree.agg.injEq,List.cons.injEq,Tree.int.injEq,Tree.str.injEq,Tree.sl.injEq,true_and,and_true] at he
                  obtain⟨e1,e2,e3,e4,e5,e6⟩:=he
                  exact absurd (eq_of_beq mI) (by rw[e1];decide)
            ·
             have Uv:=ne_of_beq_false mI
             rcases aL ((cC==10)) with uE|uE
             ·
              have afd:=eq_of_beq uE
              rcases aL ((vA (.str pQ))) with Av|Av
              ·
               rcases aL (decide (cC<30)) with wQ|wQ
               ·
                have afe:=of_decide_eq_true wQ
                refine⟨⟨((cC,0,[],pQ,[],[]),(((bW.length:Nat):Int)==1)), ?_⟩,kF ah ai [oB bE,oB bF,oB fF,oB cN,oB eL,oB jk,oB fR,oB iJ,oB iB,oB nr,oB mI,oB uE,oC (bk Al (x:=.str pQ) ⟨_,rfl⟩),oB Av,oB Av,oB Av,oB Av,oB wQ,oB wQ,oB wQ,oB wQ,oB wQ,oB wQ] (by kernel_rfl)⟩
                refine⟨?_, ?_⟩
                · exact by
                    intro h
                    have h:=eq_of_beq (show(((bW.length:Nat):Int)==1)=true from h)
                    exact⟨by omega,by omega,by omega,by omega⟩
                · exact fun e he=>by
                    simp only[dA,Tree.agg.injEq,List.cons.injEq,Tree.int.injEq,Tree.str.injEq,Tree.sl.injEq,true_and,and_true] at he
                    obtain⟨e1,e2,e3,e4,e5,e6⟩:=he
                    exact absurd (eq_of_beq uE) (by rw[e1];decide)
               ·
                have afe:=of_decide_eq_false wQ
                refine⟨⟨((cC,0,[],pQ,[],[]),false), ?_⟩,kF ah ai [oB bE,oB bF,oB fF,oB cN,oB eL,oB jk,oB fR,oB iJ,oB iB,oB nr,oB mI,oB uE,oC (bk Al (x:=.str pQ) ⟨_,rfl⟩),oB Av,oB Av,oB Av,oB Av,oB wQ,oB wQ,oB wQ,oB wQ,oB wQ,oB wQ] (by kernel_rfl)⟩
                refine⟨?_, ?_⟩
                · exact fun h=>absurd (show false=true from h) (by decide)
                · exact fun e he=>by
                    simp only[dA,Tree.agg.injEq,List.cons.injEq,Tree.int.injEq,Tree.str.injEq,Tree.sl.injEq,true_and,and_true] at he
                    obtain⟨e1,e2,e3,e4,e5,e6⟩:=he
                    exact absurd (eq_of_beq uE) (by rw[e1];decide)
              ·
               refine⟨⟨((cC,0,[],pQ,[],[]),false), ?_⟩,kF ah ai [oB bE,oB bF,oB fF,oB cN,oB eL,oB jk,oB fR,oB iJ,oB iB,oB nr,oB mI,oB uE,oC (bk Al (x:=.str pQ) ⟨_,rfl⟩),oB Av,oB Av,oB Av,oB Av,oF,oF,oF,oF,oF,oF] (by kernel_rfl)⟩
               refine⟨?_, ?_⟩
               · exact fun h=>absurd (show false=true from h) (by decide)
               · exact fun e he=>by
                   simp only[dA,Tree.agg.injEq,List.cons.injEq,Tree.int.injEq,Tree.str.injEq,Tree.sl.injEq,true_and,and_true] at he
                   obtain⟨e1,e2,e3,e4,e5,e6⟩:=he
                   exact absurd (eq_of_beq uE) (by rw[e1];decide)
             ·
              have afd:=ne_of_beq_false uE
              rcases aL ((cC==12)) with nR|nR
              ·
               have Uw:=eq_of_beq nR
               rcases aL (decide (cC<30)) with wR|wR
               ·
                have aff:=of_decide_eq_true wR
                refine⟨⟨((cC,0,[],[],[],[]),(((bW.length:Nat):Int)==1)), ?_⟩,kF ah ai [oB bE,oB bF,oB fF,oB cN,oB eL,oB jk,oB fR,oB iJ,oB iB,oB nr,oB mI,oB uE,oB nR,oB nR,oT,oT,oT,oT,oB wR,oB wR,oB wR,oB wR,oB wR,oB wR] (by kernel_rfl)⟩
                refine⟨?_, ?_⟩
                · exact by
                    intro h
                    have h:=eq_of_beq (show(((bW.length:Nat):Int)==1)=true from h)
                    exact⟨by omega,by omega,by omega,by omega⟩
                · exact fun e he=>by
                    simp only[dA,Tree.agg.injEq,List.cons.injEq,Tree.int.injEq,Tree.str.injEq,Tree.sl.injEq,true_and,and_true] at he
                    obtain⟨e1,e2,e3,e4,e5,e6⟩:=he
                    exact absurd (eq_of_beq nR) (by rw[e1];decide)
               ·
                have aff:=of_decide_eq_false wR
                refine⟨⟨((cC,0,[],[],[],[]),false), ?_⟩,kF ah ai [oB bE,oB bF,oB fF,oB cN,oB eL,oB jk,oB fR,oB iJ,oB iB,oB nr,oB mI,oB uE,oB nR,oB nR,oT,oT,oT,oT,oB wR,oB wR,oB wR,oB wR,oB wR,oB wR] (by kernel_rfl)⟩
                refine⟨?_, ?_⟩
                · exact fun h=>absurd (show false=true from h) (by decide)
                · exact fun e he=>by
                    simp only[dA,Tree.agg.injEq,List.cons.injEq,Tree.int.injEq,Tree.str.injEq,Tree.sl.injEq,true_and,and_true] at he
                    obtain⟨e1,e2,e3,e4,e5,e6⟩:=he
                    exact absurd (eq_of_beq nR) (by rw[e1];decide)
              ·
               have Uw:=ne_of_beq_false nR
               rcases aL ((cC==13)) with ko|ko
               ·
                have Ux:=eq_of_beq ko
                rcases aL (decide (cC<30)) with wS|wS
                ·
                 have afg:=of_decide_eq_true wS
                 refine⟨⟨((cC,0,[],[],[],[]),(((bW.length:Nat):Int)==1)), ?_⟩,kF ah ai [oB bE,oB bF,oB fF,oB cN,oB eL,oB jk,oB fR,oB iJ,oB iB,oB nr,oB mI,oB uE,oB nR,oB ko,oT,oT,oT,oT,oB wS,oB wS,oB wS,oB wS,oB wS,oB wS] (by kernel_rfl)⟩
                 refine⟨?_, ?_⟩
                 · exact by
                     intro h
                     have h:=eq_of_beq (show(((bW.length:Nat):Int)==1)=true from h)
                     exact⟨by omega,by omega,by omega,by omega⟩
                 · exact fun e he=>by
                     simp only[dA,Tree.agg.injEq,List.cons.injEq,Tree.int.injEq,Tree.str.injEq,Tree.sl.injEq,true_and,and_true] at he
                     obtain⟨e1,e2,e3,e4,e5,e6⟩:=he
                     exact absurd (eq_of_beq ko) (by rw[e1];decide)
                ·
                 have afg:=of_decide_eq_false wS
                 refine⟨⟨((cC,0,[],[],[],[]),false), ?_⟩,kF ah ai [oB bE,oB bF,oB fF,oB cN,oB eL,oB jk,oB fR,oB iJ,oB iB,oB nr,oB mI,oB uE,oB nR,oB ko,oT,oT,oT,oT,oB wS,oB wS,oB wS,oB wS,oB wS,oB wS] (by kernel_rfl)⟩
                 refine⟨?_, ?_⟩
                 · exact fun h=>absurd (show false=true from h) (by decide)
                 · exact fun e he=>by
                     simp only[dA,Tree.agg.injEq,List.cons.injEq,Tree.int.injEq,Tree.str.injEq,Tree.sl.injEq,true_and,and_true] at he
                     obtain⟨e1,e2,e3,e4,e5,e6⟩:=he
                     exact absurd (eq_of_beq ko) (by rw[e1];decide)
               ·
                have Ux:=ne_of_beq_false ko
                rcases aL ((cC==14)) with nt|nt
                ·
                 have Uy:=eq_of_beq nt
                 rcases aL (decide (cC<30)) with wT|wT
                 ·
                  have afh:=of_decide_eq_true wT
                  refine⟨⟨((cC,0,[],[],[],[]),(((bW.length:Nat):Int)==3)), ?_⟩,kF ah ai [oB bE,oB bF,oB fF,oB cN,oB eL,oB jk,oB fR,oB iJ,oB iB,oB nr,oB mI,oB uE,oB nR,oB ko,oB nt,oT,oT,oT,oT,oB wT,oB wT,oB wT,oB wT,oB wT,oB wT] (by kernel_rfl)⟩
                  refine⟨?_, ?_⟩
                  · exact by
                      intro h
                      have h:=eq_of_beq (show(((bW.length:Nat):Int)==3)=true from h)
                      exact⟨by omega,by omega,by omega,by omega⟩
                  · exact fun e he=>by
                      simp only[dA,Tree.agg.injEq,List.cons.injEq,Tree.int.injEq,Tree.str.injEq,Tree.sl.injEq,true_and,and_true] at he
                      obtain⟨e1,e2,e3,e4,e5,e6⟩:=he
                      exact absurd (eq_of_beq nt) (by rw[e1];decide)
                 ·
                  have afh:=of_decide_eq_false wT
                  refine⟨⟨((cC,0,[],[],[],[]),false), ?_⟩,kF ah ai [oB bE,oB bF,oB fF,oB cN,oB eL,oB jk,oB fR,oB iJ,oB iB,oB nr,oB mI,oB uE,oB nR,oB ko,oB nt,oT,oT,oT,oT,oB wT,oB wT,oB wT,oB wT,oB wT,oB wT] (by kernel_rfl)⟩
                  refine⟨?_, ?_⟩
                  · exact fun h=>absurd (show false=true from h) (by decide)
                  · exact fun e he=>by
                      simp only[dA,Tree.agg.injEq,List.cons.injEq,Tree.int.injEq,Tree.str.injEq,Tree.sl.injEq,true_and,and_true] at he
                      obtain⟨e1,e2,e3,e4,e5,e6⟩:=he
                      exact absurd (eq_of_beq nt) (by rw[e1];decide)
                ·
                 have Uy:=ne_of_beq_false nt
                 rcases aL (decide (cC<30)) with wU|wU
                 ·
                  have afi:=of_decide_eq_true wU
                  refine⟨⟨((cC,0,[],[],[],[]),(((bW.length:Nat):Int)==2)), ?_⟩,kF ah ai [oB bE,oB bF,oB fF,oB cN,oB eL,oB jk,oB fR,oB iJ,oB iB,oB nr,oB mI,oB uE,oB nR,oB ko,oB nt,oT,oT,oT,oT,oB wU,oB wU,oB wU,oB wU,oB wU,oB wU] (by kernel_rfl)⟩
                  refine⟨?_, ?_⟩
                  · exact by
                      intro h
                      have h:=eq_of_beq (show(((bW.length:Nat):Int)==2)=true from h)
                      exact⟨by omega,by omega,by omega,by omega⟩
                  · exact fun e he=>by
                      simp only[dA,Tree.agg.injEq,List.cons.injEq,Tree.int.injEq,Tree.str.injEq,Tree.sl.injEq,true_and,and_true] at he
                      obtain⟨e1,e2,e3,e4,e5,e6⟩:=he
                      exact absurd e1 (ne_of_beq_false iB)
                 ·
                  have afi:=of_decide_eq_false wU
                  refine⟨⟨((cC,0,[],[],[],[]),false), ?_⟩,kF ah ai [oB bE,oB bF,oB fF,oB cN,oB eL,oB jk,oB fR,oB iJ,oB iB,oB nr,oB mI,oB uE,oB nR,oB ko,oB nt,oT,oT,oT,oT,oB wU,oB wU,oB wU,oB wU,oB wU,oB wU] (by kernel_rfl)⟩
                  refine⟨?_, ?_⟩
                  · exact fun h=>absurd (show false=true from h) (by decide)
                  · exact fun e he=>by
                      simp only[dA,Tree.agg.injEq,List.cons.injEq,Tree.int.injEq,Tree.str.injEq,Tree.sl.injEq,true_and,and_true] at he
                      obtain⟨e1,e2,e3,e4,e5,e6⟩:=he
                      exact absurd e1 (ne_of_beq_false iB)
end
end Go.Proofs.YtijfhoelihclbaaGreatDoor.w.e

namespace Go.Proofs.YtijfhoelihclbaaGreatDoor.w.e
open Go Go.Abs Go.Abs.Ty
set_option linter.unusedVariables false
set_option maxRecDepth 100000
set_option maxHeartbeats 2000000
noncomputable section
def ey (m:Int):Tree→(Int×Int×List UInt8×List UInt8×List Tree×List Tree)×Bool:=(FP m).choose
theorem yM (m:Int):∀x,T .aW x→R1 (cf m) 66 x (.bN [.agg [.int .u8 ((ey m x).1.1),.int .i64 ((ey m x).1.2.1),.str ((ey m x).1.2.2.1),.str ((ey m x).1.2.2.2.1),.sl ((ey m x).1.2.2.2.2.1),.sl ((ey m x).1.2.2.2.2.2)],.bool (ey m x).2])∧(((ey m x).2=true→FO x)∧∀e,x=dA e→(ey m x).2=true∧(ey m x).1.2.1=0∧(ey m x).1.2.2.1=[]∧(ey m x).1.2.2.2.1=[]∧(ey m x).1.2.2.2.2.1.length=1):=(FP m).choose_spec
theorem XT (m:Int):∀x,T .aW x→R1 (cf m) 66 x (.bN [.agg [.int .u8 ((ey m x).1.1),.int .i64 ((ey m x).1.2.1),.str ((ey m x).1.2.2.1),.str ((ey m x).1.2.2.2.1),.sl ((ey m x).1.2.2.2.2.1),.sl ((ey m x).1.2.2.2.2.2)],.bool (ey m x).2]):=fun x h=>(yM m x h).1
def ny (m:Int):Tree→Bool
 |.agg [.int k op,.int k2 n,.str s,.str t,.sl ns,.sl ks]=>(ey m (.agg [.int k op,.int k2 n,.str s,.str t,.sl ns,.sl ks])).2&&((ey m (.agg [.int k op,.int k2 n,.str s,.str t,.sl ns,.sl ks])).1.2.1==n)&&((ey m (.agg [.int k op,.int k2 n,.str s,.str t,.sl ns,.sl ks])).1.2.2.1==s)&&((ey m (.agg [.int k op,.int k2 n,.str s,.str t,.sl ns,.sl ks])).1.2.2.2.1==t)&&(((((ey m (.agg [.int k op,.int k2 n,.str s,.str t,.sl ns,.sl ks])).1.2.2.2.2.1.length:Nat):Int)==((ns.length:Nat):Int)))
 |_=>false
theorem Uz {m:Int}{x:Tree}(hx:T .aW x)(h:ny m x=true):FO x:=by
 have hx0:=hx
 obtain⟨op,n,s,t,ns,ks,rfl,_⟩:=T.cG hx
 simp only[ny,Bool.and_eq_true] at h
 exact(yM m _ hx0).2.1 h.1.1.1.1
theorem XU (m:Int){e:Tree}(he:T .aW (dA e)):ny m (dA e)=true:=by
 obtain⟨h1,h2,h3,h4,h5⟩:=(yM m _ he).2.2 e rfl
 have e0:ny m (dA e)=((ey m (dA e)).2&&((ey m (dA e)).1.2.1==0)&&((ey m (dA e)).1.2.2.1==[])&&((ey m (dA e)).1.2.2.2.1==[])&&(((((ey m (dA e)).1.2.2.2.2.1.length:Nat):Int)==(([Tree.str [97]].length:Nat):Int)))):=rfl
 rw[e0,h1,h2,h3,h4,h5];rfl
inductive Rt:Tree→Prop
 |mk (op n:Int) (s t:List UInt8) (names kids:List Tree) (h:Ut op names.length kids.length) (hk:∀k∈kids,Rt k):Rt (.agg [.int .u8 op,.int .i64 n,.str s,.str t,.sl names,.sl kids])
theorem BP (m:Int)(op n:Int)(s t:List UInt8)(ns ks:List Tree)(ln:ns.length≤4194304)(Il:∀y∈ns,T .string y)(lk:ks.length≤4194304)(hks:∀y∈ks,T .aW y)(fS:Tree→Int×Int×Bool)(hS:∀y∈ks,ay (cf m) 22 [.t y] [] (.ret (.t (.bN [.int .i64 (fS y).1,.int .i64 (fS y).2.1,.bool (fS y).2.2])) [] [])):ay (cf m) 22 [.t (.agg [.int .u8 op,.int .i64 n,.str s,.str t,.sl ns,.sl ks])] [] (.ret (.t (.bN [.int .i64 (uR (ny m) fS (.agg [.int .u8 op,.int .i64 n,.str s,.str t,.sl ns,.sl ks])).1,.int .i64 (uR (ny m) fS (.agg [.int .u8 op,.int .i64 n,.str s,.str t,.sl ns,.sl ks])).2.1,.bool (uR (ny m) fS (.agg [.int .u8 op,.int .i64 n,.str s,.str t,.sl ns,.sl ks])).2.2])) [] []):=by
  have hx:T .aW (.agg [.int .u8 op,.int .i64 n,.str s,.str t,.sl ns,.sl ks]):=.aW _ _ _ _ _ _ ln Il lk hks
  obtain⟨ev,ai,DC,e_self⟩:∃ev,aF (cf m) ev∧Has ev 66 (kY (fun x=>T .aW x) (fun x=>.bN [.agg [.int .u8 (((ey m) x).1.1),.int .i64 (((ey m) x).1.2.1),.str (((ey m) x).1.2.2.1),.str (((ey m) x).1.2.2.2.1),.sl (((ey m) x).1.2.2.2.2.1),.sl (((ey m) x).1.2.2.2.2.2)],.bool ((ey m) x).2]))∧Has ev 22 (kY (fun y=>y∈ks) fun y=>.bN [.int .i64 (fS y).1,.int .i64 (fS y).2.1,.bool (fS y).2.2]):=⟨_,(ax (bD (fun x h=>XT m x h)) (ax (bD hS) aH)),az,(aq rfl az)⟩
  refine ay.gL ?_
  have abu:=yM m
  refine AX.start 76 1 Tryz.func22 rfl (by decide) rfl rfl (by decide) ?_
  refine AX.frames ?_
  have hp1:=(abu (.agg [.int .u8 op,.int .i64 n,.str s,.str t,.sl ns,.sl ks]) hx).2
  rcases aL ((ey m (.agg [.int .u8 op,.int .i64 n,.str s,.str t,.sl ns,.sl ks])).2) with hg2|hg2
  ·
   rcases aL (((ey m (.agg [.int .u8 op,.int .i64 n,.str s,.str t,.sl ns,.sl ks])).1.2.1==n)) with hg3|hg3
   ·
    have abn:=eq_of_beq hg3
    rcases aL (((ey m (.agg [.int .u8 op,.int .i64 n,.str s,.str t,.sl ns,.sl ks])).1.2.2.1==s)) with hg4|hg4
    ·
     have Ml:=eq_of_beq hg4
     rcases aL (((ey m (.agg [.int .u8 op,.int .i64 n,.str s,.str t,.sl ns,.sl ks])).1.2.2.2.1==t)) with bw|bw
     ·
      have He:=eq_of_beq bw
      have hE:ny m (.agg [.int .u8 op,.int .i64 n,.str s,.str t,.sl ns,.sl ks])=(((((ey m (.agg [.int .u8 op,.int .i64 n,.str s,.str t,.sl ns,.sl ks])).1.2.2.2.2.1).length:Nat):Int)==((ns.length:Nat):Int)):=by
        show(_&&_&&_&&_&&_)=_
        simp only[hg2,hg3,hg4,bw,Bool.and_true,Bool.true_and,Bool.false_and,Bool.and_false]
      refine eF (f:=0) (n:=3000) (once:=[]) (k:=76) (T:=0) (S:=[]) (ks:=[]) (live:=[2,3,4,48,49,50]) ah ai (α:=Nat×Int×Int×Bool) (fun x=>⟨bX 76 [(2,.t (.int .i64 x.2.1)),(3,.t (.int .i64 x.2.2.1)),(4,.t (.bool x.2.2.2)),(48,.t (.sl ks)),(49,.t (.int .i64 ((ks.length:Nat):Int))),(50,.t (.int .i64 ((x.1:Nat):Int)))],[],0⟩) (fun x=>(x.1≤ks.length)∧(x.2.1=(ks.take x.1).foldl (fun a k=>max a (fS k).1) 0)∧(x.2.2.1=(ks.take x.1).foldl (fun a k=>IntKind.wrap .i64 (a+(fS k).2.1)) 0)∧(x.2.2.2=(ks.take x.1).foldl (fun o k=>o&&(fS k).2.2) (ny m (.agg [.int .u8 op,.int .i64 n,.str s,.str t,.sl ns,.sl ks])))) (fun x=>ks.length - x.1) (⟨0,0,0,(((((ey m (.agg [.int .u8 op,.int .i64 n,.str s,.str t,.sl ns,.sl ks])).1.2.2.2.2.1).length:Nat):Int)==((ns.length:Nat):Int))⟩) (iF (Tryz.f22.body.getD .skip) 4) [oC (bk DC (x:=.agg [.int .u8 op,.int .i64 n,.str s,.str t,.sl ns,.sl ks]) hx),oB hg2,oB hg2,oB hg2,oB hg2,oB hg2,oB hg2,oB hg3,oB hg3,oB hg3,oB hg3,oB hg3,oB hg3,oB hg4,oB hg4,oB hg4,oB hg4,oB hg4,oB hg4,oB bw,oB bw,oB bw,oB bw,oB bw,oB bw,oB bw,oB bw] (by kernel_rfl) ⟨Nat.zero_le _,rfl,rfl,hE.symm⟩ (fun x hok=> ?_)
      obtain⟨Bc,Qs,XV,abv⟩:=x
      replace hok:(Bc≤ks.length)∧(Qs=(ks.take Bc).foldl (fun a k=>max a (fS k).1) 0)∧(XV=(ks.take Bc).foldl (fun a k=>IntKind.wrap .i64 (a+(fS k).2.1)) 0)∧(abv=(ks.take Bc).foldl (fun o k=>o&&(fS k).2.2) (ny m (.agg [.int .u8 op,.int .i64 n,.str s,.str t,.sl ns,.sl ks]))):=hok
      obtain⟨XW,BQ,BR,BS⟩:=hok
      rcases aL (decide (((Bc:Nat):Int)<((ks.length:Nat):Int))) with qv|qv
      ·
       have Hf:=of_decide_eq_true qv
       obtain⟨e8,Ez⟩:=ou ks Bc (by first|omega|(simp;omega))
       have Qt:=(hks e8 (List.mem_of_getElem? Ez))
       obtain⟨yN,Oi,Iq,yO,js,lH,rfl,abw,abx,aby,abz⟩:=T.cG Qt
       rcases aL (abv) with kG|kG
       ·
        exact⟨.inl ⟨⟨Bc+1,(max Qs ((fS (.agg [.int .u8 yN,.int .i64 Oi,.str Iq,.str yO,.sl js,.sl lH])).1)),(IntKind.wrap .i64 (XV+(fS (.agg [.int .u8 yN,.int .i64 Oi,.str Iq,.str yO,.sl js,.sl lH])).2.1)),(fS (.agg [.int .u8 yN,.int .i64 Oi,.str Iq,.str yO,.sl js,.sl lH])).2.2⟩,⟨⟨(by show(Bc+1)≤ks.length;omega),((bJ Ez).trans (by rw[← BQ])).symm,((bJ Ez).trans (by rw[← BR])).symm,((bJ Ez).trans (by rw[← BS];simp only[kG,Bool.true_and,Bool.false_and,Bool.and_true])).symm⟩,(by show(ks.length - (Bc+1))<(ks.length - Bc);omega)⟩⟩,bS (f:=0) (n:=3000) (once:=[]) (k:=76) (T:=0) (S:=[]) (ks:=[]) (live:=[2,3,4,48,49,50]) ah ai [oB qv,oE Ez,oC (bk e_self (x:=.agg [.int .u8 yN,.int .i64 Oi,.str Iq,.str yO,.sl js,.sl lH]) (List.mem_of_getElem? Ez)),oG .i64 Qs ((fS (.agg [.int .u8 yN,.int .i64 Oi,.str Iq,.str yO,.sl js,.sl lH])).1),oZ,oB kG,oB kG,oI (Bc) (by omega)] (by kernel_rfl)⟩
       ·
        exact⟨.inl ⟨⟨Bc+1,(max Qs ((fS (.agg [.int .u8 yN,.int .i64 Oi,.str Iq,.str yO,.sl js,.sl lH])).1)),(IntKind.wrap .i64 (XV+(fS (.agg [.int .u8 yN,.int .i64 Oi,.str Iq,.str yO,.sl js,.sl lH])).2.1)),false⟩,⟨⟨(by show(Bc+1)≤ks.length;omega),((bJ Ez).trans (by rw[← BQ])).symm,((bJ Ez).trans (by rw[← BR])).symm,((bJ Ez).trans (by rw[← BS];simp only[kG,Bool.true_and,Bool.false_and,Bool.and_true])).symm⟩,(by show(ks.length - (Bc+1))<(ks.length - Bc);omega)⟩⟩,bS (f:=0) (n:=3000) (once:=[]) (k:=76) (T:=0) (S:=[]) (ks:=[]) (live:=[2,3,4,48,49,50]) ah ai [oB qv,oE Ez,oC (bk e_self (x:=.agg [.int .u8 yN,.int .i64 Oi,.str Iq,.str yO,.sl js,.sl lH]) (List.mem_of_getElem? Ez)),oG .i64 Qs ((fS (.agg [.int .u8 yN,.int .i64 Oi,.str Iq,.str yO,.sl js,.sl lH])).1),oZ,oB kG,oB kG,oI (Bc) (by omega)] (by kernel_rfl)⟩
      ·
       have Hf:=of_decide_eq_false qv
       refine kO ah ai [oB qv] (by kernel_rfl) ?_
       have hres:uR (ny m) fS (.agg [.int .u8 op,.int .i64 n,.str s,.str t,.sl ns,.sl ks])=((IntKind.wrap .i64 (Qs+1)),(IntKind.wrap .i64 (XV+1)),abv):=by
         have hi:ks.take Bc=ks:=List.take_of_length_le (by omega)
         rw[hi] at BQ BR BS
         unfold uR
         rw[show eR (.agg [.int .u8 op,.int .i64 n,.str s,.str t,.sl ns,.sl ks])=ks from rfl,← BQ,← BR,← BS]
         try rfl
       show ∃_:Unit,KE (cf m) (cv (cf m) _ 0 (.ret (.t (.bN [.int .i64 (uR (ny m) fS (.agg [.int .u8 op,.int .i64 n,.str s,.str t,.sl ns,.sl ks])).1,.int .i64 (uR (ny m) fS (.agg [.int .u8 op,.int .i64 n,.str s,.str t,.sl ns,.sl ks])).2.1,.bool (uR (ny m) fS (.agg [.int .u8 op,.int .i64 n,.str s,.str t,.sl ns,.sl ks])).2.2])) [] [])) _ _ _
       rw[hres]
       exact⟨(),kF ah ai [oZ,oZ] (by kernel_rfl)⟩
     ·
      have He:=ne_of_beq_false bw
      have hE:ny m (.agg [.int .u8 op,.int .i64 n,.str s,.str t,.sl ns,.sl ks])=false:=by
        show(_&&_&&_&&_&&_)=_
        simp only[hg2,hg3,hg4,bw,Bool.and_true,Bool.true_and,Bool.false_and,Bool.and_false]
      refine eF (f:=0) (n:=3000) (once:=[]) (k:=76) (T:=0) (S:=[]) (ks:=[]) (live:=[2,3,4,48,49,50]) ah ai (α:=Nat×Int×Int×Bool) (fun x=>⟨bX 76 [(2,.t (.int .i64 x.2.1)),(3,.t (.int .i64 x.2.2.1)),(4,.t (.bool x.2.2.2)),(48,.t (.sl ks)),(49,.t (.int .i64 ((ks.length:Nat):Int))),(50,.t (.int .i64 ((x.1:Nat):Int)))],[],0⟩) (fun x=>(x.1≤ks.length)∧(x.2.1=(ks.take x.1).foldl (fun a k=>max a (fS k).1) 0)∧(x.2.2.1=(ks.take x.1).foldl (fun a k=>IntKind.wrap .i64 (a+(fS k).2.1)) 0)∧(x.2.2.2=(ks.take x.1).foldl (fun o k=>o&&(fS k).2.2) (ny m (.agg [.int .u8 op,.int .i64 n,.str s,.str t,.sl ns,.sl ks])))) (fun x=>ks.length - x.1) (⟨0,0,0,false⟩) (iF (Tryz.f22.body.getD .skip) 4) [oC (bk DC (x:=.agg [.int .u8 op,.int .i64 n,.str s,.str t,.sl ns,.sl ks]) hx),oB hg2,oB hg2,oB hg2,oB hg2,oB hg2,oB hg2,oB hg3,oB hg3,oB hg3,oB hg3,oB hg3,oB hg3,oB hg4,oB hg4,oB hg4,oB hg4,oB hg4,oB hg4,oB bw,oB bw,oB bw,oB bw,oB bw,oB bw,oB bw,oB bw] (by kernel_rfl) ⟨Nat.zero_le _,rfl,rfl,hE.symm⟩ (fun x hok=> ?_)
      obtain⟨uF,FQ,Oj,UA⟩:=x
      replace hok:(uF≤ks.length)∧(FQ=(ks.take uF).foldl (fun a k=>max a (fS k).1) 0)∧(Oj=(ks.take uF).foldl (fun a k=>IntKind.wrap .i64 (a+(fS k).2.1)) 0)∧(UA=(ks.take uF).foldl (fun o k=>o&&(fS k).2.2) (ny m (.agg [.int .u8 op,.int .i64 n,.str s,.str t,.sl ns,.sl ks]))):=hok
      obtain⟨afj,yP,yQ,yR⟩:=hok
      rcases aL (decide (((uF:Nat):Int)<((ks.length:Nat):Int))) with jv|jv
      ·
       have uC:=of_decide_eq_true jv
       obtain⟨e13,DD⟩:=ou ks uF (by first|omega|(simp;omega))
       have afk:=(hks e13 (List.mem_of_getElem? DD))
       obtain⟨yS,Hw,Hx,yT,lI,nS,rfl,agH,agI,agJ,agK⟩:=T.cG afk
       rcases aL (UA) with Mz|Mz
       ·
        exact⟨.inl ⟨⟨uF+1,(max FQ ((fS (.agg [.int .u8 yS,.int .i64 Hw,.str Hx,.str yT,.sl lI,.sl nS])).1)),(IntKind.wrap .i64 (Oj+(fS (.agg [.int .u8 yS,.int .i64 Hw,.str Hx,.str yT,.sl lI,.sl nS])).2.1)),(fS (.agg [.int .u8 yS,.int .i64 Hw,.str Hx,.str yT,.sl lI,.sl nS])).2.2⟩,⟨⟨(by show(uF+1)≤ks.length;omega),((bJ DD).trans (by rw[← yP])).symm,((bJ DD).trans (by rw[← yQ])).symm,((bJ DD).trans (by rw[← yR];simp only[Mz,Bool.true_and,Bool.false_and,Bool.and_true])).symm⟩,(by show(ks.length - (uF+1))<(ks.length - uF);omega)⟩⟩,bS (f:=0) (n:=3000) (once:=[]) (k:=76) (T:=0) (S:=[]) (ks:=[]) (live:=[2,3,4,48,49,50]) ah ai [oB jv,oE DD,oC (bk e_self (x:=.agg [.int .u8 yS,.int .i64 Hw,.str Hx,.str yT,.sl lI,.sl nS]) (List.mem_of_getElem? DD)),oG .i64 FQ ((fS (.agg [.int .u8 yS,.int .i64 Hw,.str Hx,.str yT,.sl lI,.sl nS])).1),oZ,oB Mz,oB Mz,oI (uF) (by omega)] (by kernel_rfl)⟩
       ·
        exact⟨.inl ⟨⟨uF+1,(max FQ ((fS (.agg [.int .u8 yS,.int .i64 Hw,.str Hx,.str yT,.sl lI,.sl nS])).1)),(IntKind.wrap .i64 (Oj+(fS (.agg [.int .u8 yS,.int .i64 Hw,.str Hx,.str yT,.sl lI,.sl nS])).2.1)),false⟩,⟨⟨(by show(uF+1)≤ks.length;omega),((bJ DD).trans (by rw[← yP])).symm,((bJ DD).trans (by rw[← yQ])).symm,((bJ DD).trans (by rw[← yR];simp only[Mz,Bool.true_and,Bool.false_and,Bool.and_true])).symm⟩,(by show(ks.length - (uF+1))<(ks.length - uF);omega)⟩⟩,bS (f:=0) (n:=3000) (once:=[]) (k:=76) (T:=0) (S:=[]) (ks:=[]) (live:=[2,3,4,48,49,50]) ah ai [oB jv,oE DD,oC (bk e_self (x:=.agg [.int .u8 yS,.int .i64 Hw,.str Hx,.str yT,.sl lI,.sl nS]) (List.mem_of_getElem? DD)),oG .i64 FQ ((fS (.agg [.int .u8 yS,.int .i64 Hw,.str Hx,.str yT,.sl lI,.sl nS])).1),oZ,oB Mz,oB Mz,oI (uF) (by omega)] (by kernel_rfl)⟩
      ·
       have uC:=of_decide_eq_false jv
       refine kO ah ai [oB jv] (by kernel_rfl) ?_
       have hres:uR (ny m) fS (.agg [.int .u8 op,.int .i64 n,.str s,.str t,.sl ns,.sl ks])=((IntKind.wrap .i64 (FQ+1)),(IntKind.wrap .i64 (Oj+1)),UA):=by
         have hi:ks.take uF=ks:=List.take_of_length_le (by omega)
         rw[hi] at yP yQ yR
         unfold uR
         rw[show eR (.agg [.int .u8 op,.int .i64 n,.str s,.str t,.sl ns,.sl ks])=ks from rfl,← yP,← yQ,← yR]
         try rfl
       show ∃_:Unit,KE (cf m) (cv (cf m) _ 0 (.ret (.t (.bN [.int .i64 (uR (ny m) fS (.agg [.int .u8 op,.int .i64 n,.str s,.str t,.sl ns,.sl ks])).1,.int .i64 (uR (ny m) fS (.agg [.int .u8 op,.int .i64 n,.str s,.str t,.sl ns,.sl ks])).2.1,.bool (uR (ny m) fS (.agg [.int .u8 op,.int .i64 n,.str s,.str t,.sl ns,.sl ks])).2.2])) [] [])) _ _ _
       rw[hres]
       exact⟨(),kF ah ai [oZ,oZ] (by kernel_rfl)⟩
    ·
     have Ml:=ne_of_beq_false hg4
     have hE:ny m (.agg [.int .u8 op,.int .i64 n,.str s,.str t,.sl ns,.sl ks])=false:=by
       show(_&&_&&_&&_&&_)=_
       simp only[hg2,hg3,hg4,Bool.and_true,Bool.true_and,Bool.false_and,Bool.and_false]
     refine eF (f:=0) (n:=3000) (once:=[]) (k:=76) (T:=0) (S:=[]) (ks:=[]) (live:=[2,3,4,48,49,50]) ah ai (α:=Nat×Int×Int×Bool) (fun x=>⟨bX 76 [(2,.t (.int .i64 x.2.1)),(3,.t (.int .i64 x.2.2.1)),(4,.t (.bool x.2.2.2)),(48,.t (.sl ks)),(49,.t (.int .i64 ((ks.length:Nat):Int))),(50,.t (.int .i64 ((x.1:Nat):Int)))],[],0⟩) (fun x=>(x.1≤ks.length)∧(x.2.1=(ks.take x.1).foldl (fun a k=>max a (fS k).1) 0)∧(x.2.2.1=(ks.take x.1).foldl (fun a k=>IntKind.wrap .i64 (a+(fS k).2.1)) 0)∧(x.2.2.2=(ks.take x.1).foldl (fun o k=>o&&(fS k).2.2) (ny m (.agg [.int .u8 op,.int .i64 n,.str s,.str t,.sl ns,.sl ks])))) (fun x=>ks.length - x.1) (⟨0,0,0,false⟩) (iF (Tryz.f22.body.getD .skip) 4) [oC (bk DC (x:=.agg [.int .u8 op,.int .i64 n,.str s,.str t,.sl ns,.sl ks]) hx),oB hg2,oB hg2,oB hg2,oB hg2,oB hg2,oB hg2,oB hg3,oB hg3,oB hg3,oB hg3,oB hg3,oB hg3,oB hg4,oB hg4,oB hg4,oB hg4,oB hg4,oB hg4,oF,oF,oF,oF,oF,oF,oF,oF] (by kernel_rfl) ⟨Nat.zero_le _,rfl,rfl,hE.symm⟩ (fun x hok=> ?_)
     obtain⟨uG,FT,Ol,UB⟩:=x
     replace hok:(uG≤ks.length)∧(FT=(ks.take uG).foldl (fun a k=>max a (fS k).1) 0)∧(Ol=(ks.take uG).foldl (fun a k=>IntKind.wrap .i64 (a+(fS k).2.1)) 0)∧(UB=(ks.take uG).foldl (fun o k=>o&&(fS k).2.2) (ny m (.agg [.int .u8 op,.int .i64 n,.str s,.str t,.sl ns,.sl ks]))):=hok
     obtain⟨afl,yU,yV,yW⟩:=hok
     rcases aL (decide (((uG:Nat):Int)<((ks.length:Nat):Int))) with yE|yE
     ·
      have TK:=of_decide_eq_true yE
      obtain⟨e18,DF⟩:=ou ks uG (by first|omega|(simp;omega))
      have afm:=(hks e18 (List.mem_of_getElem? DF))
      obtain⟨yX,Hy,Hz,yY,lJ,nT,rfl,agL,agM,agN,agO⟩:=T.cG afm
      rcases aL (UB) with pR|pR
      ·
       exact⟨.inl ⟨⟨uG+1,(max FT ((fS (.agg [.int .u8 yX,.int .i64 Hy,.str Hz,.str yY,.sl lJ,.sl nT])).1)),(IntKind.wrap .i64 (Ol+(fS (.agg [.int .u8 yX,.int .i64 Hy,.str Hz,.str yY,.sl lJ,.sl nT])).2.1)),(fS (.agg [.int .u8 yX,.int .i64 Hy,.str Hz,.str yY,.sl lJ,.sl nT])).2.2⟩,⟨⟨(by show(uG+1)≤ks.length;omega),((bJ DF).trans (by rw[← yU])).symm,((bJ DF).trans (by rw[← yV])).symm,((bJ DF).trans (by rw[← yW];simp only[pR,Bool.true_and,Bool.false_and,Bool.and_true])).symm⟩,(by show(ks.length - (uG+1))<(ks.length - uG);omega)⟩⟩,bS (f:=0) (n:=3000) (once:=[]) (k:=76) (T:=0) (S:=[]) (ks:=[]) (live:=[2,3,4,48,49,50]) ah ai [oB yE,oE DF,oC (bk e_self (x:=.agg [.int .u8 yX,.int .i64 Hy,.str Hz,.str yY,.sl lJ,.sl nT]) (List.mem_of_getElem? DF)),oG .i64 FT ((fS (.agg [.int .u8 yX,.int .i64 Hy,.str Hz,.str yY,.sl lJ,.sl nT])).1),oZ,oB pR,oB pR,oI (uG) (by omega)] (by kernel_rfl)⟩
      ·
       exact⟨.inl ⟨⟨uG+1,(max FT ((fS (.agg [.int .u8 yX,.int .i64 Hy,.str Hz,.str yY,.sl lJ,.sl nT])).1)),(IntKind.wrap .i64 (Ol+(fS (.agg [.int .u8 yX,.int .i64 Hy,.str Hz,.str yY,.sl lJ,.sl nT])).2.1)),false⟩,⟨⟨(by show(uG+1)≤ks.length;omega),((bJ DF).trans (by rw[← yU])).symm,((bJ DF).trans (by rw[← yV])).symm,((bJ DF).trans (by rw[← yW];simp only[pR,Bool.true_and,Bool.false_and,Bool.and_true])).symm⟩,(by show(ks.length - (uG+1))<(ks.length - uG);omega)⟩⟩,bS (f:=0) (n:=3000) (once:=[]) (k:=76) (T:=0) (S:=[]) (ks:=[]) (live:=[2,3,4,48,49,50]) ah ai [oB yE,oE DF,oC (bk e_self (x:=.agg [.int .u8 yX,.int .i64 Hy,.str Hz,.str yY,.sl lJ,.sl nT]) (List.mem_of_getElem? DF)),oG .i64 FT ((fS (.agg [.int .u8 yX,.int .i64 Hy,.str Hz,.str yY,.sl lJ,.sl nT])).1),oZ,oB pR,oB pR,oI (uG) (by omega)] (by kernel_rfl)⟩
     ·
      have TK:=of_decide_eq_false yE
      refine kO ah ai [oB yE] (by kernel_rfl) ?_
      have hres:uR (ny m) fS (.agg [.int .u8 op,.int .i64 n,.str s,.str t,.sl ns,.sl ks])=((IntKind.wrap .i64 (FT+1)),(IntKind.wrap .i64 (Ol+1)),UB):=by
        have hi:ks.take uG=ks:=List.take_of_length_le (by omega)
        rw[hi] at yU yV yW
        unfold uR
        rw[show eR (.agg [.int .u8 op,.int .i64 n,.str s,.str t,.sl ns,.sl ks])=ks from rfl,← yU,← yV,← yW]
        try rfl
      show ∃_:Unit,KE (cf m) (cv (cf m) _ 0 (.ret (.t (.bN [.int .i64 (uR (ny m) fS (.agg [.int .u8 op,.int .i64 n,.str s,.str t,.sl ns,.sl ks])).1,.int .i64 (uR (ny m) fS (.agg [.int .u8 op,.int .i64 n,.str s,.str t,.sl ns,.sl ks])).2.1,.bool (uR (ny m) fS (.agg [.int .u8 op,.int .i64 n,.str s,.str t,.sl ns,.sl ks])).2.2])) [] [])) _ _ _
      rw[hres]
      exact⟨(),kF ah ai [oZ,oZ] (by kernel_rfl)⟩
   ·
    have abn:=ne_of_beq_false hg3
    have hE:ny m (.agg [.int .u8 op,.int .i64 n,.str s,.str t,.sl ns,.sl ks])=false:=by
      show(_&&_&&_&&_&&_)=_
      simp only[hg2,hg3,Bool.and_true,Bool.true_and,Bool.false_and,Bool.and_false]
    refine eF (f:=0) (n:=3000) (once:=[]) (k:=76) (T:=0) (S:=[]) (ks:=[]) (live:=[2,3,4,48,49,50]) ah ai (α:=Nat×Int×Int×Bool) (fun x=>⟨bX 76 [(2,.t (.int .i64 x.2.1)),(3,.t (.int .i64 x.2.2.1)),(4,.t (.bool x.2.2.2)),(48,.t (.sl ks)),(49,.t (.int .i64 ((ks.length:Nat):Int))),(50,.t (.int .i64 ((x.1:Nat):Int)))],[],0⟩) (fun x=>(x.1≤ks.length)∧(x.2.1=(ks.take x.1).foldl (fun a k=>max a (fS k).1) 0)∧(x.2.2.1=(ks.take x.1).foldl (fun a k=>IntKind.wrap .i64 (a+(fS k).2.1)) 0)∧(x.2.2.2=(ks.take x.1).foldl (fun o k=>o&&(fS k).2.2) (ny m (.agg [.int .u8 op,.int .i64 n,.str s,.str t,.sl ns,.sl ks])))) (fun x=>ks.length - x.1) (⟨0,0,0,false⟩) (iF (Tryz.f22.body.getD .skip) 4) [oC (bk DC (x:=.agg [.int .u8 op,.int .i64 n,.str s,.str t,.sl ns,.sl ks]) hx),oB hg2,oB hg2,oB hg2,oB hg2,oB hg2,oB hg2,oB hg3,oB hg3,oB hg3,oB hg3,oB hg3,oB hg3,oF,oF,oF,oF,oF,oF,oF,oF,oF,oF,oF,oF,oF,oF] (by kernel_rfl) ⟨Nat.zero_le _,rfl,rfl,hE.symm⟩ (fun x hok=> ?_)
    obtain⟨lV,yI,A9,UC⟩:=x
    replace hok:(lV≤ks.length)∧(yI=(ks.take lV).foldl (fun a k=>max a (fS k).1) 0)∧(A9=(ks.take lV).foldl (fun a k=>IntKind.wrap .i64 (a+(fS k).2.1)) 0)∧(UC=(ks.take lV).foldl (fun o k=>o&&(fS k).2.2) (ny m (.agg [.int .u8 op,.int .i64 n,.str s,.str t,.sl ns,.sl ks]))):=hok
    obtain⟨T5,pN,yZ,y2⟩:=hok
    rcases aL (decide (((lV:Nat):Int)<((ks.length:Nat):Int))) with fR|fR
    ·
     have DA:=of_decide_eq_true fR
     obtain⟨e23,pL⟩:=ou ks lV (by first|omega|(simp;omega))
     have afn:=(hks e23 (List.mem_of_getElem? pL))
     obtain⟨y5,HA,uD,y7,lK,nU,rfl,agP,agQ,agR,agS⟩:=T.cG afn
     rcases aL (UC) with MA|MA
     ·
      exact⟨.inl ⟨⟨lV+1,(max yI ((fS (.agg [.int .u8 y5,.int .i64 HA,.str uD,.str y7,.sl lK,.sl nU])).1)),(IntKind.wrap .i64 (A9+(fS (.agg [.int .u8 y5,.int .i64 HA,.str uD,.str y7,.sl lK,.sl nU])).2.1)),(fS (.agg [.int .u8 y5,.int .i64 HA,.str uD,.str y7,.sl lK,.sl nU])).2.2⟩,⟨⟨(by show(lV+1)≤ks.length;omega),((bJ pL).trans (by rw[← pN])).symm,((bJ pL).trans (by rw[← yZ])).symm,((bJ pL).trans (by rw[← y2];simp only[MA,Bool.true_and,Bool.false_and,Bool.and_true])).symm⟩,(by show(ks.length - (lV+1))<(ks.length - lV);omega)⟩⟩,bS (f:=0) (n:=3000) (once:=[]) (k:=76) (T:=0) (S:=[]) (ks:=[]) (live:=[2,3,4,48,49,50]) ah ai [oB fR,oE pL,oC (bk e_self (x:=.agg [.int .u8 y5,.int .i64 HA,.str uD,.str y7,.sl lK,.sl nU]) (List.mem_of_getElem? pL)),oG .i64 yI ((fS (.agg [.int .u8 y5,.int .i64 HA,.str uD,.str y7,.sl lK,.sl nU])).1),oZ,oB MA,oB MA,oI (lV) (by omega)] (by kernel_rfl)⟩
     ·
      exact⟨.inl ⟨⟨lV+1,(max yI ((fS (.agg [.int .u8 y5,.int .i64 HA,.str uD,.str y7,.sl lK,.sl nU])).1)),(IntKind.wrap .i64 (A9+(fS (.agg [.int .u8 y5,.int .i64 HA,.str uD,.str y7,.sl lK,.sl nU])).2.1)),false⟩,⟨⟨(by show(lV+1)≤ks.length;omega),((bJ pL).trans (by rw[← pN])).symm,((bJ pL).trans (by rw[← yZ])).symm,((bJ pL).trans (by rw[← y2];simp only[MA,Bool.true_and,Bool.false_and,Bool.and_true])).symm⟩,(by show(ks.length - (lV+1))<(ks.length - lV);omega)⟩⟩,bS (f:=0) (n:=3000) (once:=[]) (k:=76) (T:=0) (S:=[]) (ks:=[]) (live:=[2,3,4,48,49,50]) ah ai [oB fR,oE pL,oC (bk e_self (x:=.agg [.int .u8 y5,.int .i64 HA,.str uD,.str y7,.sl lK,.sl nU]) (List.mem_of_getElem? pL)),oG .i64 yI ((fS (.agg [.int .u8 y5,.int .i64 HA,.str uD,.str y7,.sl lK,.sl nU])).1),oZ,oB MA,oB MA,oI (lV) (by omega)] (by kernel_rfl)⟩
    ·
     have DA:=of_decide_eq_false fR
     refine kO ah ai [oB fR] (by kernel_rfl) ?_
     have hres:uR (ny m) fS (.agg [.int .u8 op,.int .i64 n,.str s,.str t,.sl ns,.sl ks])=((IntKind.wrap .i64 (yI+1)),(IntKind.wrap .i64 (A9+1)),UC):=by
       have hi:ks.take lV=ks:=List.take_of_length_le (by omega)
       rw[hi] at pN yZ y2
       unfold uR
       rw[show eR (.agg [.int .u8 op,.int .i64 n,.str s,.str t,.sl ns,.sl ks])=ks from rfl,← pN,← yZ,← y2]
       try rfl
     show ∃_:Unit,KE (cf m) (cv (cf m) _ 0 (.ret (.t (.bN [.int .i64 (uR (ny m) fS (.agg [.int .u8 op,.int .i64 n,.str s,.str t,.sl ns,.sl ks])).1,.int .i64 (uR (ny m) fS (.agg [.int .u8 op,.int .i64 n,.str s,.str t,.sl ns,.sl ks])).2.1,.bool (uR (ny m) fS (.agg [.int .u8 op,.int .i64 n,.str s,.str t,.sl ns,.sl ks])).2.2])) [] [])) _ _ _
     rw[hres]
     exact⟨(),kF ah ai [oZ,oZ] (by kernel_rfl)⟩
  ·
   have hE:ny m (.agg [.int .u8 op,.int .i64 n,.str s,.str t,.sl ns,.sl ks])=false:=by
     show(_&&_&&_&&_&&_)=_
     simp only[hg2,Bool.and_true,Bool.true_and,Bool.false_and,Bool.and_false]
   refine eF (f:=0) (n:=3000) (once:=[]) (k:=76) (T:=0) (S:=[]) (ks:=[]) (live:=[2,3,4,48,49,50]) ah ai (α:=Nat×Int×Int×Bool) (fun x=>⟨bX 76 [(2,.t (.int .i64 x.2.1)),(3,.t (.int .i64 x.2.2.1)),(4,.t (.bool x.2.2.2)),(48,.t (.sl ks)),(49,.t (.int .i64 ((ks.length:Nat):Int))),(50,.t (.int .i64 ((x.1:Nat):Int)))],[],0⟩) (fun x=>(x.1≤ks.length)∧(x.2.1=(ks.take x.1).foldl (fun a k=>max a (fS k).1) 0)∧(x.2.2.1=(ks.take x.1).foldl (fun a k=>IntKind.wrap .i64 (a+(fS k).2.1)) 0)∧(x.2.2.2=(ks.take x.1).foldl (fun o k=>o&&(fS k).2.2) (ny m (.agg [.int .u8 op,.int .i64 n,.str s,.str t,.sl ns,.sl ks])))) (fun x=>ks.length - x.1) (⟨0,0,0,false⟩) (iF (Tryz.f22.body.getD .skip) 4) [oC (bk DC (x:=.agg [.int .u8 op,.int .i64 n,.str s,.str t,.sl ns,.sl ks]) hx),oB hg2,oB hg2,oB hg2,oB hg2,oB hg2,oB hg2,oF,oF,oF,oF,oF,oF,oF,oF,oF,oF,oF,oF,oF,oF,oF,oF,oF,oF,oF,oF] (by kernel_rfl) ⟨Nat.zero_le _,rfl,rfl,hE.symm⟩ (fun x hok=> ?_)
   obtain⟨lW,yJ,Ba,UD⟩:=x
   replace hok:(lW≤ks.length)∧(yJ=(ks.take lW).foldl (fun a k=>max a (fS k).1) 0)∧(Ba=(ks.take lW).foldl (fun a k=>IntKind.wrap .i64 (a+(fS k).2.1)) 0)∧(UD=(ks.take lW).foldl (fun o k=>o&&(fS k).2.2) (ny m (.agg [.int .u8 op,.int .i64 n,.str s,.str t,.sl ns,.sl ks]))):=hok
   obtain⟨T6,pO,y8,y9⟩:=hok
   rcases aL (decide (((lW:Nat):Int)<((ks.length:Nat):Int))) with tG|tG
   ·
    have JS:=of_decide_eq_true tG
    obtain⟨e28,sO⟩:=ou ks lW (by first|omega|(simp;omega))
    have Om:=(hks e28 (List.mem_of_getElem? sO))
    obtain⟨za,HB,Bt,zb,lM,nV,rfl,XX,XY,XZ,X0⟩:=T.cG Om
    rcases aL (UD) with gp|gp
    ·
     exact⟨.inl ⟨⟨lW+1,(max yJ ((fS (.agg [.int .u8 za,.int .i64 HB,.str Bt,.str zb,.sl lM,.sl nV])).1)),(IntKind.wrap .i64 (Ba+(fS (.agg [.int .u8 za,.int .i64 HB,.str Bt,.str zb,.sl lM,.sl nV])).2.1)),(fS (.agg [.int .u8 za,.int .i64 HB,.str Bt,.str zb,.sl lM,.sl nV])).2.2⟩,⟨⟨(by show(lW+1)≤ks.length;omega),((bJ sO).trans (by rw[← pO])).symm,((bJ sO).trans (by rw[← y8])).symm,((bJ sO).trans (by rw[← y9];simp only[gp,Bool.true_and,Bool.false_and,Bool.and_true])).symm⟩,(by show(ks.length - (lW+1))<(ks.length - lW);omega)⟩⟩,bS (f:=0) (n:=3000) (once:=[]) (k:=76) (T:=0) (S:=[]) (ks:=[]) (live:=[2,3,4,48,49,50]) ah ai [oB tG,oE sO,oC (bk e_self (x:=.agg [.int .u8 za,.int .i64 HB,.str Bt,.str zb,.sl lM,.sl nV]) (List.mem_of_getElem? sO)),oG .i64 yJ ((fS (.agg [.int .u8 za,.int .i64 HB,.str Bt,.str zb,.sl lM,.sl nV])).1),oZ,oB gp,oB gp,oI (lW) (by omega)] (by kernel_rfl)⟩
    ·
     exact⟨.inl ⟨⟨lW+1,(max yJ ((fS (.agg [.int .u8 za,.int .i64 HB,.str Bt,.str zb,.sl lM,.sl nV])).1)),(IntKind.wrap .i64 (Ba+(fS (.agg [.int .u8 za,.int .i64 HB,.str Bt,.str zb,.sl lM,.sl nV])).2.1)),false⟩,⟨⟨(by show(lW+1)≤ks.length;omega),((bJ sO).trans (by rw[← pO])).symm,((bJ sO).trans (by rw[← y8])).symm,((bJ sO).trans (by rw[← y9];simp only[gp,Bool.true_and,Bool.false_and,Bool.and_true])).symm⟩,(by show(ks.length - (lW+1))<(ks.length - lW);omega)⟩⟩,bS (f:=0) (n:=3000) (once:=[]) (k:=76) (T:=0) (S:=[]) (ks:=[]) (live:=[2,3,4,48,49,50]) ah ai [oB tG,oE sO,oC (bk e_self (x:=.agg [.int .u8 za,.int .i64 HB,.str Bt,.str zb,.sl lM,.sl nV]) (List.mem_of_getElem? sO)),oG .i64 yJ ((fS (.agg [.int .u8 za,.int .i64 HB,.str Bt,.str zb,.sl lM,.sl nV])).1),oZ,oB gp,oB gp,oI (lW) (by omega)] (by kernel_rfl)⟩
   ·
    have JS:=of_decide_eq_false tG
    refine kO ah ai [oB tG] (by kernel_rfl) ?_
    have hres:uR (ny m) fS (.agg [.int .u8 op,.int .i64 n,.str s,.str t,.sl ns,.sl ks])=((IntKind.wrap .i64 (yJ+1)),(IntKind.wrap .i64 (Ba+1)),UD):=by
      have hi:ks.take lW=ks:=List.take_of_length_le (by omega)
      rw[hi] at pO y8 y9
      unfold uR
      rw[show eR (.agg [.int .u8 op,.int .i64 n,.str s,.str t,.sl ns,.sl ks])=ks from rfl,← pO,← y8,← y9]
      try rfl
    show ∃_:Unit,KE (cf m) (cv (cf m) _ 0 (.ret (.t (.bN [.int .i64 (uR (ny m) fS (.agg [.int .u8 op,.int .i64 n,.str s,.str t,.sl ns,.sl ks])).1,.int .i64 (uR (ny m) fS (.agg [.int .u8 op,.int .i64 n,.str s,.str t,.sl ns,.sl ks])).2.1,.bool (uR (ny m) fS (.agg [.int .u8 op,.int .i64 n,.str s,.str t,.sl ns,.sl ks])).2.2])) [] [])) _ _ _
    rw[hres]
    exact⟨(),kF ah ai [oZ,oZ] (by kernel_rfl)⟩
theorem Qu (m:Int):∃F:Tree→Int×Int×Bool,∀x,T .aW x→ay (cf m) 22 [.t x] [] (.ret (.t (.bN [.int .i64 (F x).1,.int .i64 (F x).2.1,.bool (F x).2.2])) [] [])∧((F x).2.2=true→Rt x)∧∃n,Dx n x∧F x=zK (ny m) n x:=by
 have key:∀(k:K) (x:Tree),T k x→k=.aW→∃r:Int×Int×Bool,ay (cf m) 22 [.t x] [] (.ret (.t (.bN [.int .i64 r.1,.int .i64 r.2.1,.bool r.2.2])) [] [])∧(r.2.2=true→Rt x)∧∃n,Dx n x∧r=zK (ny m) n x:=by
  intro k x h
  induction h with
  | aW op n s t_ names kids h0 h1 h2 h3 ih1 ih3=>
   intro _
   obtain⟨fS,hS⟩:=dQ (P:=fun y=>y∈kids) (Q:=fun y (r:Int×Int×Bool)=>ay (cf m) 22 [.t y] [] (.ret (.t (.bN [.int .i64 r.1,.int .i64 r.2.1,.bool r.2.2])) [] [])∧(r.2.2=true→Rt y)∧∃n,Dx n y∧r=zK (ny m) n y) fun y hy=>ih3 y hy rfl
   obtain⟨d,hd⟩:=adH (l:=kids) fun y hy=>by obtain⟨n,h,_⟩:=(hS y hy).2.2;exact⟨n,h⟩
   have e:uR (ny m) fS (.agg [.int .u8 op,.int .i64 n,.str s,.str t_,.sl names,.sl kids])=zK (ny m) (d+1) (.agg [.int .u8 op,.int .i64 n,.str s,.str t_,.sl names,.sl kids]):=Fc fun y hy=>by
    obtain⟨k,h,e⟩:=(hS y hy).2.2
    rw[e];exact wk _ _ _ h (hd y hy)
   refine⟨_,BP m op n s t_ names kids h0 h1 h2 h3 fS (fun y hy=>(hS y hy).1),fun h=> ?_,d+1,hd,e⟩
   obtain⟨h4,h5⟩:=CL.1 h
   exact Rt.mk op n s t_ names kids (Uz (.aW op n s t_ names kids h0 h1 h2 h3) h4) fun y hy=>(hS y hy).2.1 (h5 y hy)
  |_=>intro hk;cases hk
 exact dQ fun x hx=>key _ x hx rfl
theorem sS (m:Int):∃F:Tree→Int,∀x,(T .aW x)→R1 (cf m) 9 x (.int .i64 (F x))∧(((F x)=0→Rt x)∧∃n,Dx n x∧(F x)=wm (zK (ny m) n x)):=by
  refine vz (P:=fun x=>T .aW x) (mk:=fun(r:Int)=>.int .i64 r) (Post:=fun x r=>(r=0→Rt x)∧∃n,Dx n x∧r=wm (zK (ny m) n x)) fun x hx=> ?_
  show ∃r:{r:Int //(r=0→Rt x)∧∃n,Dx n x∧r=wm (zK (ny m) n x)},ay (cf m) 9 [.t x] [] (.ret (.t (.int .i64 r.1)) [] [])
  have bY:=hx
  obtain⟨cC,n_1,s_1,pQ,fU,bW,rfl,dY,bh,ji,dD⟩:=T.cG bY
  obtain⟨Aw,h_size⟩:=Qu m
  obtain⟨ev,ai,HD⟩:∃ev,aF (cf m) ev∧Has ev 22 (kY (fun x=>T .aW x) (fun x=>.bN [.int .i64 (Aw x).1,.int .i64 (Aw x).2.1,.bool (Aw x).2.2])):=⟨_,(ax (bD (fun x h=>(h_size x h).1)) aH),az⟩
  refine AX.start 21 1 Tryz.func9 rfl (by decide) rfl rfl (by decide) ?_
  refine AX.frames ?_
  have hp2:=(h_size (.agg [.int .u8 cC,.int .i64 n_1,.str s_1,.str pQ,.sl fU,.sl bW]) bY).2
  rcases aL ((!(Aw (.agg [.int .u8 cC,.int .i64 n_1,.str s_1,.str pQ,.sl fU,.sl bW])).2.2)) with bF|bF
  ·
   refine⟨⟨5, ?_⟩,kF ah ai [oC (bk HD (x:=.agg [.int .u8 cC,.int .i64 n_1,.str s_1,.str pQ,.sl fU,.sl bW]) bY),oB bF] (by kernel_rfl)⟩
   exact⟨fun h=>absurd h (by decide),by
     obtain⟨_,n,hn,e⟩:=hp2
     refine⟨n,hn, ?_⟩
     rw[← e]
     unfold wm
     rw[if_pos (eT bF)]⟩
  ·
   rcases aL (decide ((Aw (.agg [.int .u8 cC,.int .i64 n_1,.str s_1,.str pQ,.sl fU,.sl bW])).1>16)) with rU|rU
   ·
    have Hq:=of_decide_eq_true rU
    refine⟨⟨4, ?_⟩,kF ah ai [oC (bk HD (x:=.agg [.int .u8 cC,.int .i64 n_1,.str s_1,.str pQ,.sl fU,.sl bW]) bY),oB bF,oB rU] (by kernel_rfl)⟩
    exact⟨fun h=>absurd h (by decide),by
      obtain⟨_,n,hn,e⟩:=hp2
      refine⟨n,hn, ?_⟩
      rw[← e]
      unfold wm
      rw[if_neg (by rw[(dm bF)];decide)]
      rw[if_pos (of_decide_eq_true rU)]⟩
   ·
    have Hq:=of_decide_eq_false rU
    rcases aL (decide ((Aw (.agg [.int .u8 cC,.int .i64 n_1,.str s_1,.str pQ,.sl fU,.sl bW])).2.1>128)) with jX|jX
    ·
     have wG:=of_decide_eq_true jX
     refine⟨⟨2, ?_⟩,kF ah ai [oC (bk HD (x:=.agg [.int .u8 cC,.int .i64 n_1,.str s_1,.str pQ,.sl fU,.sl bW]) bY),oB bF,oB rU,oB jX] (by kernel_rfl)⟩
     exact⟨fun h=>absurd h (by decide),by
       obtain⟨_,n,hn,e⟩:=hp2
       refine⟨n,hn, ?_⟩
       rw[← e]
       unfold wm
       rw[if_neg (by rw[(dm bF)];decide)]
       rw[if_neg (of_decide_eq_false rU)]
       rw[if_pos (of_decide_eq_true jX)]⟩
    ·
     have wG:=of_decide_eq_false jX
     refine⟨⟨0, ?_⟩,kF ah ai [oC (bk HD (x:=.agg [.int .u8 cC,.int .i64 n_1,.str s_1,.str pQ,.sl fU,.sl bW]) bY),oB bF,oB rU,oB jX] (by kernel_rfl)⟩
     exact⟨fun _=>hp2.1 (dm bF),by
       obtain⟨_,n,hn,e⟩:=hp2
       refine⟨n,hn, ?_⟩
       rw[← e]
       unfold wm
       rw[if_neg (by rw[(dm bF)];decide)]
       rw[if_neg (of_decide_eq_false rU)]
       rw[if_neg (of_decide_eq_false jX)]⟩
end
end Go.Proofs.YtijfhoelihclbaaGreatDoor.w.e
