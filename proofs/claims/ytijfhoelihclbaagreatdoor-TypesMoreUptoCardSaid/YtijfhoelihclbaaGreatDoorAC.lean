/- TypesJoined. -/
import Derived.Test.YtijfhoelihclbaaGreatDoorAA
import Derived.Test.YtijfhoelihclbaaGreatDoorAB
import Derived.Test.YtijfhoelihclbaaGreatDoorR
import Derived.Test.YtijfhoelihclbaaGreatDoorS
import Derived.Test.YtijfhoelihclbaaGreatDoorT
import Derived.Test.YtijfhoelihclbaaGreatDoorG
namespace Go.Proofs.YtijfhoelihclbaaGreatDoor.w
open Go Go.Abs Go.Abs.Ty
set_option linter.unusedVariables false
set_option maxRecDepth 100000
set_option maxHeartbeats 2000000
noncomputable section
theorem Rc {m:Int}:bld (cf m).P 38=some ([.t (.int .u8 0),.t (.str []),.aL,.aL],[(0,1),(1,1),(2,1),(3,1)]):=by kernel_rfl
theorem U1 (m:Int)(D G:Tree→Prop)(FZ:Tree→Int×Bool)(hsz:∀x,D x→R1 (cf m) 47 x (.bX [.int .i64 (FZ x).1,.bool (FZ x).2]))(k:Int)(s:List UInt8)(os bs:List Tree)(hd:D (aG k s os bs))(hz:(FZ (aG k s os bs)).2=true→G (aG k s os bs)):
  ∃r:{r:Int // r=0→G (aG k s os bs)},R1 (cf m) 13 (aG k s os bs) (.int .i64 r.1):=by
 obtain⟨ev,ai,KJ⟩:∃ev,aF (cf m) ev∧Has ev 47 (jP D (fun x=>.bX [.int .i64 (FZ x).1,.bool (FZ x).2])):=⟨_,(ax (bp hsz) aH),az⟩
 show ∃r:{r:Int // r=0→G (aG k s os bs)},ay (cf m) 13 [.t (aG k s os bs)] [] (.ret (.t (.int .i64 r.1)) [] [])
 refine AX.start 16 1 Tryz.func13 rfl (by decide) rfl rfl (by decide) ?_
 refine AX.seq ?_
 refine AX.region ?_
 refine ak.go (f:=0) ai (FW rfl rfl) ?_
 refine ak.go (f:=0) ai (au rfl) ?_
 refine ak.nil ?_
 refine AX.seq ?_
 refine AX.region ?_
 refine ak.go (f:=0) ai (aS rfl (ld eu rfl rfl)) ?_
 refine ak.go (f:=0) ai (bU (uQ rfl) (bf KJ hd)) ?_
 refine ak.go (f:=0) ai (av rfl) ?_
 refine ak.go (f:=0) ai (cW rfl rfl) ?_
 refine ak.go (f:=0) ai (cW rfl rfl) ?_
 refine ak.go (f:=0) ai (au rfl) ?_
 refine ak.go (f:=0) ai (au rfl) ?_
 refine ak.nil ?_
 refine AX.seq ?_
 refine AX.block ?_
 refine AX.seq ?_
 refine AX.region ?_
 refine ak.go (f:=0) ai (av rfl) ?_
 refine ak.go (f:=0) ai (w6 rfl) ?_
 refine ak.go (f:=0) ai (au rfl) ?_
 refine ak.nil ?_
 refine AX.cond rfl (fun hc1=> ?_) (fun hc1=> ?_)
 ·
  refine AX.seq ?_
  refine AX.region ?_
  refine ak.go (f:=0) ai (au rfl) ?_
  refine ak.nil ?_
  refine AX.ret ?_
  refine AX.bx ?_
  refine AX.bt ?_
  refine⟨⟨_,fun hr=> ?_⟩,.inl rfl⟩
  exact absurd hr (by decide)
 ·
  refine AX.seq ?_
  refine AX.region ?_
  refine ak.go (f:=0) ai (av rfl) ?_
  refine ak.go (f:=0) ai (FX rfl rfl) ?_
  refine ak.go (f:=0) ai (au rfl) ?_
  refine ak.nil ?_
  refine AX.cond rfl (fun bD=> ?_) (fun bD=> ?_)
  ·
   have gM:=of_decide_eq_true bD
   refine AX.seq ?_
   refine AX.region ?_
   refine ak.go (f:=0) ai (au rfl) ?_
   refine ak.nil ?_
   refine AX.ret ?_
   refine AX.bx ?_
   refine AX.bt ?_
   refine⟨⟨_,fun hr=> ?_⟩,.inl rfl⟩
   exact absurd hr (by decide)
  ·
   have gM:=of_decide_eq_false bD
   refine AX.skip ?_
   refine AX.cC ?_
   refine AX.seq ?_
   refine AX.region ?_
   refine ak.go (f:=0) ai (au rfl) ?_
   refine ak.nil ?_
   refine AX.ret ?_
   refine⟨⟨_,fun hr=> ?_⟩,.inl rfl⟩
   exact hz (dJ hc1)
theorem O5 (m:Int):∀n,∃F:Tree→Int×Bool,∀x,Dp n x→R1 (cf m) 47 x (.bX [.int .i64 (F x).1,.bool (F x).2])∧((F x).2=true→Gd n x)
 |0=>by
  obtain⟨r,hr⟩:=Cx m (fun _=>False) (fun _=>True) Ui (fun _=>0) (fun _=>false) (fun x h=>h.elim) (fun x h=>h.elim) 0 [] [] [] (by simp) (by simp) (by simp) (fun e h=>by simp at h)
  exact⟨fun _=>r.1,fun x hx=>by subst hx;exact⟨hr,fun _=>rfl⟩⟩
 |n+1=>by
  obtain⟨F,hF⟩:=O5 m n
  refine Go.Abs.eF (P:=Dp (n+1)) (Q:=fun x (r:Int×Bool)=>R1 (cf m) 47 x (.bX [.int .i64 r.1,.bool r.2])∧(r.2=true→Gd (n+1) x)) fun x hx=> ?_
  obtain⟨k,s,os,bs,rfl,l1,l2,h1,h2⟩:=hx
  obtain⟨r,hr⟩:=Cx m (Dp n) (Gd n) (Dp.OI n) (fun x=>(F x).1) (fun x=>(F x).2) (fun x h=>(hF x h).1) (fun x h e=>(hF x h).2 e) k s os bs l1 l2 h1 h2
  exact⟨r.1,hr,r.2⟩
theorem U2 (m:Int)(n:Nat):∃ck:Tree→Int,∀x,Dp n x→R1 (cf m) 13 x (.int .i64 (ck x))∧(ck x=0→Gd n x):=by
 obtain⟨F,hF⟩:=O5 m n
 refine Go.Abs.eF (P:=Dp n) (Q:=fun x (r:Int)=>R1 (cf m) 13 x (.int .i64 r)∧(r=0→Gd n x)) fun x hx=> ?_
 have hx0:=hx
 obtain⟨k,s,os,bs,rfl,_,_⟩:=hx.form
 obtain⟨r,hr⟩:=U1 m (Dp n) (Gd n) F (fun x h=>(hF x h).1) k s os bs hx0 (hF _ hx0).2
 exact⟨r.1,hr,r.2⟩
theorem KO (m:Int):R0 (cf m) 6 (.bool true):=by
 have hr:=Td (live.akq m)
 rw[qx] at hr
 exact fun G w vs hw hg ha hh hv=>qo (live.ah m) (live.YM m) 300 6 [] [] _ hr G w vs hw hg ha hh hv
end
end Go.Proofs.YtijfhoelihclbaaGreatDoor.w

namespace Go.Proofs.YtijfhoelihclbaaGreatDoor.w.e
open Go Go.Abs Go.Abs.Ty
set_option linter.unusedVariables false
set_option maxRecDepth 100000
set_option maxHeartbeats 2000000
noncomputable section
open Classical in
def px (args:List TV)(aX:List aV)(r:bG):List TV→List aV→Option bG:=fun a o=>if a=args∧o=aX then some r else none
theorem jY {C:dI}{g:FuncId}{args:List TV}{aX:List aV}{r:bG}(h:ay C g args aX r):kY C g (px args aX r):=fun a o q hq=>by
 unfold px at hq
 split at hq
 · rename_i hp;obtain⟨rfl,rfl⟩:=hp;cases hq;exact h
 · cases hq
theorem lH {g:FuncId}{ev:aW}{args:List TV}{aX:List aV}{r:bG}(h:Has ev g (px args aX r)):ev g args aX=some r:=h _ _ _ (if_pos ⟨rfl,rfl⟩)
theorem YN {l:List Tree}(h:∀y∈l,T .string y):∃zs:List (List UInt8),l=zs.map .str:=by
 induction l with
 |nil=>exact⟨[],rfl⟩
 |cons a r ih=>
  obtain⟨zs,rfl⟩:=ih fun y hy=>h y (List.mem_cons_of_mem _ hy)
  obtain⟨s,rfl⟩:=T.cT (h a List.mem_cons_self)
  exact⟨s::zs,rfl⟩
theorem Na (m:Int):ay (cf m) 134 [.fn (.func 177) [] [.ptr (.arg 0) 0]] [.cells 23 [.t (.sl [])]] (.ret (.t (.sl [])) [.cells 23 [.t (.sl [])]] []):=F8 m [] (by decide)
theorem BX (m:Int)(zs:List (List UInt8))(hz:zs.length≤4194304)(hne:zs≠ []):ay (cf m) 134 [.fn (.func 177) [] [.ptr (.arg 0) 0]] [.cells 23 [.t (.sl (zs.map Tree.str))]]
  (.ret (.ref (.loc [0]) 0 zs.length) [.cells 23 [.t (.sl (zs.map Tree.str))]] [(.loc [0],.arr (9,false) 1 false ((flat ((lT zs).map Tree.str)).map .t))]):=by
 have h:=F8 m zs hz
 rw[if_neg hne] at h
 rw[sM]
 exact h
theorem zK (m:Int)(zs:List (List UInt8))(hz:zs.length≤4194304)(hne:zs≠ []):
  ∃r:Nat,(zs.length=1→r=1)∧ay (cf m) 137 [.ref (.arg 0) 0 zs.length] [.arr (9,false) 1 false ((flat ((lT zs).map Tree.str)).map .t)] (.ret (.ref (.arg 0) 0 r) [.dead] []):=by
 have hl:(lT zs).length=zs.length:=by simp[lT]
 obtain⟨r,_,h1,h⟩:=MK m (lT zs) (by omega) (fun e=>hne (by rw[e] at hl;exact List.eq_nil_of_length_eq_zero hl.symm))
 rw[hl] at h
 rw[sM]
 exact⟨r,fun e=>h1 (by rw[hl];exact e),h⟩
theorem KP (m:Int):ay (cf m) 137 [.t (.sl [])] [] (.ret (.t (.sl [])) [] []):=by
 intro G w vs hw hg had hH hv
 obtain⟨x,rfl,hx⟩:=hv.only
 have abI:∀args w,(callFunc 137 args).run Tryz.prog w=.ok (.enter 137 args) w:=enters_of Tryz.func137 (by kernel_rfl) rfl
 have hx':∃a cap,x=.slice a 0 cap:=by
  cases hx with|t _ _ hx=>
  generalize hz':([]:List Tree)=l at hx
  cases hx with
  |xg a cap=>exact⟨a,cap,rfl⟩
  |sl b8 es b o cap vals hne hc hu hF RG=>exact absurd hz'.symm hne
 obtain⟨a,cap,rfl⟩:=hx'
 refine .inl ⟨abI _ _,Calls.mono (Tryz.slices_Compact_string_empty a cap w) ?_⟩
 rintro e w' ⟨rfl,rfl⟩
 exact⟨_,G,rfl,Step.refl hw _ _,rfl,fun i o ho=>by simp at ho,fun _ _ h=>by simp at h,hx⟩
theorem tS (m:Int):∃f:Tree→Bool,∀x,PS x→ay (cf m) 29 [.t x] [] (.ret (.t (.bool (f x))) [] []):=by
 obtain⟨fw,hw⟩:=rL (C:=cf m) (g:=73) (P:=fun x=>∃s:List UInt8,8≤s.length∧x=.str s) (Tree.int .u64) (fun x ⟨s,hs,e⟩=>by
  subst e
  match s,hs with
  |b0::b1::b2::b3::b4::b5::b6::b7::r,_=>exact Ol aH b0 b1 b2 b3 b4 b5 b6 b7 r)
 exact rL (C:=cf m) (g:=29) (P:=PS) Tree.bool (fun x ⟨s,e⟩=>e▸Kk _ (ax (uC hw) aH) (fun s=>fw (.str s)) (fun s hs=>uD ⟨s,hs,rfl⟩) s)
theorem O6 (m:Int):∃F:Tree→Bool,∀x,(T .string x)→R1 (cf m) 103 x (.bool (F x))∧(True):=by
  refine wT (P:=fun x=>T .string x) (mk:=fun(r:Bool)=>.bool r) (Post:=fun x r=>True) fun x hx=> ?_
  show ∃r:{r:Bool // True},ay (cf m) 103 [.t x] [] (.ret (.t (.bool r.1)) [] [])
  have cv:=hx
  obtain⟨v_1,rfl⟩:=T.cT cv
  obtain⟨Cf,Nb⟩:=tS m
  obtain⟨ev,ai,wW⟩:∃ev,aF (cf m) ev∧Has ev 29 (jP (fun x=>PS x) (fun x=>.bool (Cf x))):=⟨_,(ax (bp (fun x h=>(Nb x h))) aH),az⟩
  refine AX.start 14 1 Tryz.func103 rfl (by decide) rfl rfl (by decide) ?_
  refine AX.frames ?_
  rcases aK ((!(v_1==[]))) with hg2|hg2
  ·
   have HT:=ne_of_beq_false (fJ hg2)
   rcases aK (decide (((v_1.length:Nat):Int)≤64)) with hg3|hg3
   ·
    have acs:=of_decide_eq_true hg3
    refine⟨⟨(Cf (.str v_1)), ?_⟩,kF ah ai [oB hg2,oB hg2,oB hg2,oB hg2,oB hg3,oB hg3,oC (bf wW (x:=.str v_1) ⟨_,rfl⟩),oB hg3] (by kernel_rfl)⟩
    trivial
   ·
    have acs:=of_decide_eq_false hg3
    refine⟨⟨false, ?_⟩,kF ah ai [oB hg2,oB hg2,oB hg2,oB hg2,oB hg3,oB hg3,oB hg3] (by kernel_rfl)⟩
    trivial
  ·
   have HT:=eq_of_beq (dJ hg2)
   refine⟨⟨false, ?_⟩,kF ah ai [oB hg2,oB hg2,oB hg2,oB hg2,oF,oF,oF] (by kernel_rfl)⟩
   trivial
theorem YO (m:Int):∃F:Tree→Bool,∀x,(T .string x)→R1 (cf m) 136 x (.bool (F x))∧(True):=by
 refine wT (P:=fun x=>T .string x) (mk:=fun(r:Bool)=>.bool r) (Post:=fun x r=>True) fun x hx=> ?_
 show ∃r:{r:Bool // True},ay (cf m) 136 [.t x] [] (.ret (.t (.bool r.1)) [] [])
 have cv:=hx
 obtain⟨v_1,rfl⟩:=T.cT cv
 obtain⟨Rf,acu⟩:=O6 m
 obtain⟨ev,ai,KQ⟩:∃ev,aF (cf m) ev∧Has ev 103 (jP (fun x=>T .string x) (fun x=>.bool (Rf x))):=⟨_,(ax (bp (fun x h=>(acu x h).1)) aH),az⟩
 refine AX.start 6 1 Tryz.func136 rfl (by decide) rfl rfl (by decide) ?_
 refine AX.frames ?_
 refine⟨⟨(!(Rf (.str v_1))), ?_⟩,kF ah ai [oC (bf KQ (x:=.str v_1) cv)] (by kernel_rfl)⟩
 trivial
theorem Rh (m:Int):∃F:Tree→Tree→Int,∀x y,(T .bl x∧y=.fn (.func 136))→R2 (cf m) 112 x y (.int .i64 (F x y))∧(True):=by
  refine tO (P:=fun x y=>T .bl x∧y=.fn (.func 136)) (mk:=fun(r:Int)=>.int .i64 r) (Post:=fun x y r=>True) fun x y hx=> ?_
  obtain⟨hx,hy⟩:=hx
  show ∃r:{r:Int // True},ay (cf m) 112 [.t x,.t y] [] (.ret (.t (.int .i64 r.1)) [] [])
  have cv:=hx
  obtain⟨v_1,rfl,eT,bq⟩:=T.iV cv
  subst hy
  obtain⟨af0,akr⟩:=YO m
  obtain⟨ev,ai,af1⟩:∃ev,aF (cf m) ev∧Has ev 136 (jP (fun x=>T .string x) (fun x=>.bool (af0 x))):=⟨_,(ax (bp (fun x h=>(akr x h).1)) aH),az⟩
  refine AX.start 19 2 Tryz.func112 rfl (by decide) rfl rfl (by decide) ?_
  refine AX.frames ?_
  refine eo (f:=0) (n:=3000) (once:=[]) (k:=19) (T:=0) (S:=[]) (ks:=[]) (live:=[0,1,7,8]) ah ai (α:=Nat) (fun x=>⟨bH 19 [(0,.t (.sl v_1)),(1,.t (.fn (.func 136))),(7,.t (.int .i64 ((v_1.length:Nat):Int))),(8,.t (.int .i64 ((x:Nat):Int)))],[],0⟩) (fun x=>(x≤v_1.length)) (fun x=>v_1.length - x) 0 (iA (Tryz.f112.body.getD .skip) 2) [] (by kernel_rfl) (by show(0≤v_1.length);first|trivial|omega|(refine⟨?_, ?_⟩<;>first|omega|exact SM.nil)|simp) (fun x hok=> ?_)
  obtain⟨i_2,mJ⟩:∃y,y=x:=⟨x,rfl⟩
  subst mJ
  replace hok:(i_2≤v_1.length):=hok
  have pH:=hok
  rcases aK (decide (((i_2:Nat):Int)<((v_1.length:Nat):Int))) with bM|bM
  ·
   have lF:=of_decide_eq_true bM
   obtain⟨e4,qU⟩:=lC v_1 i_2 (by first|omega|(simp;omega))
   have k8:=(bq e4 (List.mem_of_getElem? qU))
   obtain⟨Xw,rfl⟩:=T.cT k8
   rcases aK ((af0 (.str Xw))) with jX|jX
   ·
    refine kO ah ai [oB bM,oE qU,oC (bf af1 (x:=.str Xw) k8),oB jX] (by kernel_rfl) ?_
    refine⟨⟨((i_2:Nat):Int), ?_⟩,kF ah ai [] (by kernel_rfl)⟩
    trivial
   ·
    exact⟨.inl ⟨i_2+1,⟨(by show(i_2+1)≤v_1.length;omega),(by show(v_1.length - (i_2+1))<(v_1.length - i_2);omega)⟩⟩,bB (f:=0) (n:=3000) (once:=[]) (k:=19) (T:=0) (S:=[]) (ks:=[]) (live:=[0,1,7,8]) ah ai [oB bM,oE qU,oC (bf af1 (x:=.str Xw) k8),oB jX,oI (i_2) (by omega)] (by kernel_rfl)⟩
  ·
   have lF:=of_decide_eq_false bM
   refine kO ah ai [oB bM] (by kernel_rfl) ?_
   refine⟨⟨-1, ?_⟩,kF ah ai [] (by kernel_rfl)⟩
   trivial
theorem Gr (m:Int):∃F:Tree→Tree→Bool,∀x y,(T .bl x∧y=.fn (.func 136))→R2 (cf m) 77 x y (.bool (F x y))∧(True):=by
 refine tO (P:=fun x y=>T .bl x∧y=.fn (.func 136)) (mk:=fun(r:Bool)=>.bool r) (Post:=fun x y r=>True) fun x y hx=> ?_
 obtain⟨hx,hy⟩:=hx
 show ∃r:{r:Bool // True},ay (cf m) 77 [.t x,.t y] [] (.ret (.t (.bool r.1)) [] [])
 have cv:=hx
 obtain⟨v_1,rfl,eT,bq⟩:=T.iV cv
 subst hy
 obtain⟨U3,acv⟩:=Rh m
 obtain⟨ev,ai,acw⟩:∃ev,aF (cf m) ev∧Has ev 112 (r7 (fun x y=>T .bl x∧y=.fn (.func 136)) (fun x y=>.int .i64 (U3 x y))):=⟨_,(ax (dH (fun x y h=>(acv x y h).1)) aH),az⟩
 refine AX.start 9 2 Tryz.func77 rfl (by decide) rfl rfl (by decide) ?_
 refine AX.frames ?_
 refine⟨⟨decide ((U3 (.sl v_1) (.fn (.func 136)))≥0), ?_⟩,kF ah ai [oC (dm acw (x:=.sl v_1) (y:=.fn (.func 136)) ⟨cv,rfl⟩)] (by kernel_rfl)⟩
 trivial
theorem Bh (m:Int)(L:List Tree):ay (cf m) 135 [.t (.sl L)] [] (.ret (.fn (.func 177) [] [.ptr (.loc [0]) 0]) [] [(.loc [0],.cells 23 [.t (.sl L)])]):=by
 obtain⟨ev,ai⟩:∃ev,aF (cf m) ev:=⟨_,aH⟩
 refine ay.fu ?_
 refine AX.start 4 1 Tryz.func135 rfl (by decide) rfl rfl (by decide) ?_
 refine AX.frames ?_
 exact⟨(),kF ah ai [] (by kernel_rfl)⟩
theorem Nc (m:Int):∃r:Bool,ay (cf m) 102 [.t (.sl ([]:List Tree))] [] (.ret (.t (.bool r)) [] []):=by
  have hl:([]:List Tree).length≤4194304:=by simp
  have hl2:∀y∈([]:List Tree),T .string y:=by intro y hy;cases hy
  obtain⟨Ie,Nd⟩:=Gr m
  obtain⟨ev,ai,e_vals,Gs,Bi,KR⟩:∃ev,aF (cf m) ev∧Has ev 135 (px [.t (.sl ([]:List Tree))] [] (.ret (.fn (.func 177) [] [.ptr (.loc [0]) 0]) [] [(.loc [0],.cells 23 [.t (.sl ([]:List Tree))])]))∧Has ev 134 (px [.fn (.func 177) [] [.ptr (.arg 0) 0]] [.cells 23 [.t (.sl ([]:List Tree))]] (.ret (.t (.sl [])) [.cells 23 [.t (.sl ([]:List Tree))]] []))∧Has ev 77 (r7 (fun x y=>T .bl x∧y=.fn (.func 136)) (fun x y=>.bool (Ie x y)))∧Has ev 137 (px [.t (.sl [])] [] (.ret (.t (.sl [])) [] [])):=⟨_,(ax (jY (Bh m _)) (ax (jY (Na m)) (ax (dH (fun x y h=>(Nd x y h).1)) (ax (jY (KP m)) aH)))),az,(aj rfl az),(aj rfl (aj rfl az)),(aj rfl (aj rfl (aj rfl az)))⟩
  refine AX.start 18 1 Tryz.func102 rfl (by decide) rfl rfl (by decide) ?_
  refine AX.frames ?_
  rcases aK ((!(Ie (.sl ([]:List Tree)) (.fn (.func 136))))) with hg1|hg1
  ·
   exact⟨(((([]:List Tree).length:Nat):Int)==((([]:List Tree).length:Nat):Int)),kF ah ai [oC (lH e_vals),oC (lH Gs),oC (dm Bi (x:=.sl ([]:List Tree)) (y:=.fn (.func 136)) ⟨(.bl _ (by first|assumption|omega|(simp;done)|(simp;omega)) hl2),rfl⟩),oB hg1,oB hg1,oC (lH KR),oB hg1,oB hg1,oB hg1,oB hg1,oB hg1] (by kernel_rfl)⟩
  ·
   exact⟨false,kF ah ai [oC (lH e_vals),oC (lH Gs),oC (dm Bi (x:=.sl ([]:List Tree)) (y:=.fn (.func 136)) ⟨(.bl _ (by first|assumption|omega|(simp;done)|(simp;omega)) hl2),rfl⟩),oB hg1,oB hg1,oB hg1,oB hg1,oB hg1,oB hg1,oB hg1] (by kernel_rfl)⟩
theorem KS (m:Int)(zs:List (List UInt8))(hz:zs.length≤4194304)(hne:zs≠ []):∃r:Bool,ay (cf m) 102 [.t (.sl (zs.map Tree.str))] [] (.ret (.t (.bool r)) [] []):=by
  have hl:(zs.map Tree.str).length≤4194304:=by simp;omega
  have hl2:∀y∈(zs.map Tree.str),T .string y:=by intro y hy;obtain⟨s,_,rfl⟩:=List.mem_map.1 hy;exact .string s
  obtain⟨Ie,Nd⟩:=Gr m
  obtain⟨rc,Qf,hrc⟩:=zK m zs hz hne
  obtain⟨ev,ai,e_vals,Gs,Bi,KR⟩:∃ev,aF (cf m) ev∧Has ev 135 (px [.t (.sl (zs.map Tree.str))] [] (.ret (.fn (.func 177) [] [.ptr (.loc [0]) 0]) [] [(.loc [0],.cells 23 [.t (.sl (zs.map Tree.str))])]))∧Has ev 134 (px [.fn (.func 177) [] [.ptr (.arg 0) 0]] [.cells 23 [.t (.sl (zs.map Tree.str))]] (.ret (.ref (.loc [0]) 0 zs.length) [.cells 23 [.t (.sl (zs.map Tree.str))]] [(.loc [0],.arr (9,false) 1 false ((flat ((lT zs).map Tree.str)).map .t))]))∧Has ev 77 (r7 (fun x y=>T .bl x∧y=.fn (.func 136)) (fun x y=>.bool (Ie x y)))∧Has ev 137 (px [.ref (.arg 0) 0 zs.length] [.arr (9,false) 1 false ((flat ((lT zs).map Tree.str)).map .t)] (.ret (.ref (.arg 0) 0 rc) [.dead] [])):=⟨_,(ax (jY (Bh m _)) (ax (jY (BX m zs hz hne)) (ax (dH (fun x y h=>(Nd x y h).1)) (ax (jY hrc) aH)))),az,(aj rfl az),(aj rfl (aj rfl az)),(aj rfl (aj rfl (aj rfl az)))⟩
  refine AX.start 18 1 Tryz.func102 rfl (by decide) rfl rfl (by decide) ?_
  refine AX.frames ?_
  refine uR (f:=0) (n:=3000) (once:=[]) (k:=18) (T:=0) (S:=[]) (ks:=[]) (live:=[0,2]) ah ai (Tryz.f102.body.getD .skip) 1 rfl (⟨bH 18 [(0,.t (.sl (zs.map Tree.str))),(2,.t (.bool false))],[],0⟩) [] (by kernel_rfl) ?_
  refine AX.region ?_
  refine ak.go (f:=0) ai (av rfl) ?_
  refine ak.go (f:=0) ai (rH (eU rfl) rfl rfl (by decide) rfl rfl (lH e_vals) rfl rfl rfl) ?_
  refine ak.go (f:=0) ai (rH (eU rfl) rfl rfl (by decide) rfl rfl (lH Gs) rfl rfl Ba) ?_
  refine ak.go (f:=0) ai (au rfl) ?_
  refine ak.nil ?_
  refine uR (f:=0) (n:=3000) (once:=[]) (k:=18) (T:=1) (S:=[.loc [2,0]]) (ks:=[.loc [2,0]]) (live:=[0,2,3]) ah ai (Tryz.f102.body.getD .skip) 2 rfl (⟨bH 18 [(0,.t (.sl (zs.map Tree.str))),(2,.t (.bool false)),(3,.ref (.loc [0]) 0 zs.length)],[(.loc [0],.arr (9,false) 1 false ((flat ((lT zs).map Tree.str)).map .t))],1⟩) [oN (o:=.arr (9,false) 1 false ((flat ((lT zs).map Tree.str)).map .t)) (fun _=>bw)] (by kernel_rfl) ?_
  refine AX.region ?_
  refine ak.go (f:=0) ai (av rfl) ?_
  refine ak.go (f:=0) ai (bU (Oa rfl rfl) (dm Bi ⟨(.bl _ (by first|assumption|omega|(simp;done)|(simp;omega)) hl2),rfl⟩)) ?_
  refine ak.go (f:=0) ai (w6 rfl) ?_
  refine ak.go (f:=0) ai (av rfl) ?_
  refine ak.split 10 rfl (fun hg1=> ?_) (fun hg1=> ?_)
  ·
   refine ak.yes (f:=0) ai rfl rfl rfl (cQ hg1) (av rfl) ?_
   refine ak.TD (S:=[.loc [0]]) ai rfl rfl rfl (cQ hg1) (eU rfl) (by decide) rfl (zj rfl) (lH KR) rfl rfl rfl ?_
   refine ak.yes (f:=0) ai rfl rfl rfl (cQ hg1) (xJ rfl kJ rfl) ?_
   refine ak.yes (f:=0) ai rfl rfl rfl (cQ hg1) (av rfl) ?_
   refine ak.yes (f:=0) ai rfl rfl rfl (cQ hg1) (gX rfl kJ rfl) ?_
   refine ak.yes (f:=0) ai rfl rfl rfl (cQ hg1) (gR rfl rfl) ?_
   refine ak.go (f:=0) ai (bz rfl hg1 rfl rfl) ?_
   refine ak.go (f:=0) ai (au rfl) ?_
   refine ak.nil ?_
   exact⟨(((rc:Nat):Int)==(((zs.map Tree.str).length:Nat):Int)),kF ah ai [] (by kernel_rfl)⟩
  ·
   refine ak.no rfl rfl rfl (dh hg1) ?_
   refine ak.no rfl rfl rfl (dh hg1) ?_
   refine ak.no rfl rfl rfl (dh hg1) ?_
   refine ak.no rfl rfl rfl (dh hg1) ?_
   refine ak.no rfl rfl rfl (dh hg1) ?_
   refine ak.no rfl rfl rfl (dh hg1) ?_
   refine ak.go (f:=0) ai (dU rfl hg1 rfl rfl) ?_
   refine ak.go (f:=0) ai (au rfl) ?_
   refine ak.nil ?_
   exact⟨false,kF ah ai [] (by kernel_rfl)⟩
theorem U4 {m:Int}{g:FuncId}{args:List TV}{aX:List aV}{r:bG}(h:fe (live.cfg m) (live.kq m) 300 g args aX=some r):ay (cf m) g args aX r:=by
 rw[qx] at h
 exact fun G w vs hw hg ha hh hv=>qo (live.ah m) (live.zb m) 300 g args aX _ h G w vs hw hg ha hh hv
theorem U5 (m:Int):ay (cf m) 77 [.t (.sl [.str [97]]),.t (.fn (.func 136))] [] (.ret (.t (.bool false)) [] []):=U4 (by kernel_rfl)
theorem Nf (m:Int):ay (cf m) 102 [.t (.sl [.str [97]])] [] (.ret (.t (.bool true)) [] []):=by
 obtain⟨zs,hzs⟩:∃zs:List (List UInt8),zs=[[97]]:=⟨_,rfl⟩
 have hz:zs.length≤4194304:=by rw[hzs];decide
 have hne:zs≠ []:=by rw[hzs];decide
 have hcf:ay (cf m) 77 [.t (.sl (zs.map Tree.str)),.t (.fn (.func 136))] [] (.ret (.t (.bool false)) [] []):=by rw[hzs];exact U5 m
 show ay (cf m) 102 [.t (.sl (([[97]]:List (List UInt8)).map Tree.str))] [] _
 rw[← hzs]
 have hl:(zs.map Tree.str).length≤4194304:=by simp;omega
 have hl2:∀y∈(zs.map Tree.str),T .string y:=by intro y hy;obtain⟨s,_,rfl⟩:=List.mem_map.1 hy;exact .string s
 obtain⟨rc,Qf,hrc⟩:=zK m zs hz hne
 obtain⟨ev,ai,e_vals,Gs,Bi,KR⟩:∃ev,aF (cf m) ev∧Has ev 135 (px [.t (.sl (zs.map Tree.str))] [] (.ret (.fn (.func 177) [] [.ptr (.loc [0]) 0]) [] [(.loc [0],.cells 23 [.t (.sl (zs.map Tree.str))])]))∧Has ev 134 (px [.fn (.func 177) [] [.ptr (.arg 0) 0]] [.cells 23 [.t (.sl (zs.map Tree.str))]] (.ret (.ref (.loc [0]) 0 zs.length) [.cells 23 [.t (.sl (zs.map Tree.str))]] [(.loc [0],.arr (9,false) 1 false ((flat ((lT zs).map Tree.str)).map .t))]))∧Has ev 77 (px [.t (.sl (zs.map Tree.str)),.t (.fn (.func 136))] [] (.ret (.t (.bool false)) [] []))∧Has ev 137 (px [.ref (.arg 0) 0 zs.length] [.arr (9,false) 1 false ((flat ((lT zs).map Tree.str)).map .t)] (.ret (.ref (.arg 0) 0 rc) [.dead] [])):=⟨_,(ax (jY (Bh m _)) (ax (jY (BX m zs hz hne)) (ax (jY hcf) (ax (jY hrc) aH)))),az,(aj rfl az),(aj rfl (aj rfl az)),(aj rfl (aj rfl (aj rfl az)))⟩
 refine ay.fu ?_
 refine AX.start 18 1 Tryz.func102 rfl (by decide) rfl rfl (by decide) ?_
 refine AX.frames ?_
 refine uR (f:=0) (n:=3000) (once:=[]) (k:=18) (T:=0) (S:=[]) (ks:=[]) (live:=[0,2]) ah ai (Tryz.f102.body.getD .skip) 1 rfl (⟨bH 18 [(0,.t (.sl (zs.map Tree.str))),(2,.t (.bool false))],[],0⟩) [] (by kernel_rfl) ?_
 refine AX.region ?_
 refine ak.go (f:=0) ai (av rfl) ?_
 refine ak.go (f:=0) ai (rH (eU rfl) rfl rfl (by decide) rfl rfl (lH e_vals) rfl rfl rfl) ?_
 refine ak.go (f:=0) ai (rH (eU rfl) rfl rfl (by decide) rfl rfl (lH Gs) rfl rfl Ba) ?_
 refine ak.go (f:=0) ai (au rfl) ?_
 refine ak.nil ?_
 refine uR (f:=0) (n:=3000) (once:=[]) (k:=18) (T:=1) (S:=[.loc [2,0]]) (ks:=[.loc [2,0]]) (live:=[0,2,3]) ah ai (Tryz.f102.body.getD .skip) 2 rfl (⟨bH 18 [(0,.t (.sl (zs.map Tree.str))),(2,.t (.bool false)),(3,.ref (.loc [0]) 0 zs.length)],[(.loc [0],.arr (9,false) 1 false ((flat ((lT zs).map Tree.str)).map .t))],1⟩) [oN (o:=.arr (9,false) 1 false ((flat ((lT zs).map Tree.str)).map .t)) (fun _=>bw)] (by kernel_rfl) ?_
 refine AX.region ?_
 refine ak.go (f:=0) ai (av rfl) ?_
 refine ak.go (f:=0) ai (bU (Oa rfl rfl) (lH Bi)) ?_
 refine ak.go (f:=0) ai (w6 rfl) ?_
 refine ak.go (f:=0) ai (av rfl) ?_
 refine ak.yes (f:=0) ai rfl rfl rfl (cQ rfl) (av rfl) ?_
 refine ak.TD (S:=[.loc [0]]) ai rfl rfl rfl (cQ rfl) (eU rfl) (by decide) rfl (zj rfl) (lH KR) rfl rfl rfl ?_
 refine ak.yes (f:=0) ai rfl rfl rfl (cQ rfl) (xJ rfl kJ rfl) ?_
 refine ak.yes (f:=0) ai rfl rfl rfl (cQ rfl) (av rfl) ?_
 refine ak.yes (f:=0) ai rfl rfl rfl (cQ rfl) (gX rfl kJ rfl) ?_
 refine ak.yes (f:=0) ai rfl rfl rfl (cQ rfl) (gR rfl rfl) ?_
 refine ak.go (f:=0) ai (bz rfl rfl rfl rfl) ?_
 refine ak.go (f:=0) ai (au rfl) ?_
 refine ak.nil ?_
 exact⟨(),(by rw[show(((rc:Nat):Int)==(((zs.map Tree.str).length:Nat):Int))=true from beq_iff_eq.2 (by rw[Qf (by rw[hzs];rfl)];rw[hzs];rfl)];exact kF ah ai [] (by kernel_rfl))⟩
theorem KU (m:Int):∃f:Tree→Bool,∀x,T .bl x→ay (cf m) 102 [.t x] [] (.ret (.t (.bool (f x))) [] [])∧(x=.sl [.str [97]]→f x=true):=eF (P:=T .bl) (Q:=fun x (r:Bool)=>ay (cf m) 102 [.t x] [] (.ret (.t (.bool r)) [] [])∧(x=.sl [.str [97]]→r=true)) fun x hx=>by
 by_cases h1:x=.sl [.str [97]]
 · subst h1;exact⟨true,Nf m,fun _=>rfl⟩
 obtain⟨l,rfl,hl,h2⟩:=T.iV hx
 obtain⟨zs,rfl⟩:=YN h2
 by_cases h:zs=[]
 · subst h;obtain⟨r,hr⟩:=Nc m;exact⟨r,hr,fun e=>absurd e h1⟩
 · obtain⟨r,hr⟩:=KS m zs (by simpa using hl) h;exact⟨r,hr,fun e=>absurd e h1⟩
end
end Go.Proofs.YtijfhoelihclbaaGreatDoor.w.e

namespace Go.Proofs.YtijfhoelihclbaaGreatDoor.w.e
open Go Go.Abs Go.Abs.Ty
set_option linter.unusedVariables false
set_option maxRecDepth 100000
set_option maxHeartbeats 2000000
noncomputable section
theorem YP (m:Int):∃F:Tree→Int,∀x,(T .o9 x)→R1 (cf m) 101 x (.int .i64 (F x))∧(True):=by
  refine wT (P:=fun x=>T .o9 x) (mk:=fun(r:Int)=>.int .i64 r) (Post:=fun x r=>True) fun x hx=> ?_
  show ∃r:{r:Int // True},ay (cf m) 101 [.t x] [] (.ret (.t (.int .i64 r.1)) [] [])
  have cv:=hx
  obtain⟨type_1,qI,rfl⟩:=T.MH cv
  obtain⟨wU,M9⟩:=Cw m
  obtain⟨Cf,Nb⟩:=tS m
  obtain⟨ev,ai,Bg,wW⟩:∃ev,aF (cf m) ev∧Has ev 68 (jP (fun x=>PS x) (fun x=>.bool (wU x)))∧Has ev 29 (jP (fun x=>PS x) (fun x=>.bool (Cf x))):=⟨_,(ax (bp (fun x h=>(M9 x h))) (ax (bp (fun x h=>(Nb x h))) aH)),az,(aj rfl az)⟩
  refine AX.start 18 1 Tryz.func101 rfl (by decide) rfl rfl (by decide) ?_
  refine AX.frames ?_
  rcases aK ((!(wU (.str type_1)))) with bD|bD
  ·
   refine⟨⟨5, ?_⟩,kF ah ai [oC (bf Bg (x:=.str type_1) ⟨_,rfl⟩),oB bD] (by kernel_rfl)⟩
   trivial
  ·
   rcases aK ((!(Cf (.str qI)))) with bM|bM
   ·
    refine⟨⟨6, ?_⟩,kF ah ai [oC (bf Bg (x:=.str type_1) ⟨_,rfl⟩),oB bD,oC (bf wW (x:=.str qI) ⟨_,rfl⟩),oB bM] (by kernel_rfl)⟩
    trivial
   ·
    rcases aK (decide (((qI.length:Nat):Int)>64)) with s5|s5
    ·
     have H8:=of_decide_eq_true s5
     refine⟨⟨3, ?_⟩,kF ah ai [oC (bf Bg (x:=.str type_1) ⟨_,rfl⟩),oB bD,oC (bf wW (x:=.str qI) ⟨_,rfl⟩),oB bM,oB s5] (by kernel_rfl)⟩
     trivial
    ·
     have H8:=of_decide_eq_false s5
     refine⟨⟨0, ?_⟩,kF ah ai [oC (bf Bg (x:=.str type_1) ⟨_,rfl⟩),oB bD,oC (bf wW (x:=.str qI) ⟨_,rfl⟩),oB bM,oB s5] (by kernel_rfl)⟩
     trivial
theorem U6 (m:Int):∃F:Tree→Tree→Int,∀x y,(T .bl x∧T .string y)→R2 (cf m) 108 x y (.int .i64 (F x y))∧(True):=by
  refine tO (P:=fun x y=>T .bl x∧T .string y) (mk:=fun(r:Int)=>.int .i64 r) (Post:=fun x y r=>True) fun x y hx=> ?_
  obtain⟨hx,hy⟩:=hx
  show ∃r:{r:Int // True},ay (cf m) 108 [.t x,.t y] [] (.ret (.t (.int .i64 r.1)) [] [])
  have cv:=hx
  obtain⟨v_1,rfl,eT,bq⟩:=T.iV cv
  have ng:=hy
  obtain⟨v_2,rfl⟩:=T.cT ng
  obtain⟨ev,ai⟩:∃ev,aF (cf m) ev:=⟨_,aH⟩
  refine AX.start 19 2 Tryz.func108 rfl (by decide) rfl rfl (by decide) ?_
  refine AX.frames ?_
  refine eo (f:=0) (n:=3000) (once:=[]) (k:=19) (T:=0) (S:=[]) (ks:=[]) (live:=[0,1,7,8]) ah ai (α:=Nat) (fun x=>⟨bH 19 [(0,.t (.sl v_1)),(1,.t (.str v_2)),(7,.t (.int .i64 ((v_1.length:Nat):Int))),(8,.t (.int .i64 ((x:Nat):Int)))],[],0⟩) (fun x=>(x≤v_1.length)) (fun x=>v_1.length - x) 0 (iA (Tryz.f108.body.getD .skip) 2) [] (by kernel_rfl) (by show(0≤v_1.length);first|trivial|omega|(refine⟨?_, ?_⟩<;>first|omega|exact SM.nil)|simp) (fun x hok=> ?_)
  obtain⟨Gq,mJ⟩:∃y,y=x:=⟨x,rfl⟩
  subst mJ
  replace hok:(Gq≤v_1.length):=hok
  have YI:=hok
  rcases aK (decide (((Gq:Nat):Int)<((v_1.length:Nat):Int))) with s5|s5
  ·
   have H8:=of_decide_eq_true s5
   obtain⟨e5,YJ⟩:=lC v_1 Gq (by first|omega|(simp;omega))
   have xS:=(bq e5 (List.mem_of_getElem? YJ))
   obtain⟨v_6,rfl⟩:=T.cT xS
   rcases aK ((v_2==v_6)) with uE|uE
   ·
    have M4:=eq_of_beq uE
    refine kO ah ai [oB s5,oE YJ,oB uE] (by kernel_rfl) ?_
    refine⟨⟨((Gq:Nat):Int), ?_⟩,kF ah ai [] (by kernel_rfl)⟩
    trivial
   ·
    have M4:=ne_of_beq_false uE
    exact⟨.inl ⟨Gq+1,⟨(by show(Gq+1)≤v_1.length;omega),(by show(v_1.length - (Gq+1))<(v_1.length - Gq);omega)⟩⟩,bB (f:=0) (n:=3000) (once:=[]) (k:=19) (T:=0) (S:=[]) (ks:=[]) (live:=[0,1,7,8]) ah ai [oB s5,oE YJ,oB uE,oI (Gq) (by omega)] (by kernel_rfl)⟩
  ·
   have H8:=of_decide_eq_false s5
   refine kO ah ai [oB s5] (by kernel_rfl) ?_
   refine⟨⟨-1, ?_⟩,kF ah ai [] (by kernel_rfl)⟩
   trivial
theorem KV (m:Int):∃F:Tree→Tree→Bool,∀x y,(T .bl x∧T .string y)→R2 (cf m) 69 x y (.bool (F x y))∧(True):=by
 refine tO (P:=fun x y=>T .bl x∧T .string y) (mk:=fun(r:Bool)=>.bool r) (Post:=fun x y r=>True) fun x y hx=> ?_
 obtain⟨hx,hy⟩:=hx
 show ∃r:{r:Bool // True},ay (cf m) 69 [.t x,.t y] [] (.ret (.t (.bool r.1)) [] [])
 have cv:=hx
 obtain⟨v_1,rfl,eT,bq⟩:=T.iV cv
 have ng:=hy
 obtain⟨v_2,rfl⟩:=T.cT ng
 obtain⟨aav,af2⟩:=U6 m
 obtain⟨ev,ai,af3⟩:∃ev,aF (cf m) ev∧Has ev 108 (r7 (fun x y=>T .bl x∧T .string y) (fun x y=>.int .i64 (aav x y))):=⟨_,(ax (dH (fun x y h=>(af2 x y h).1)) aH),az⟩
 refine AX.start 9 2 Tryz.func69 rfl (by decide) rfl rfl (by decide) ?_
 refine AX.frames ?_
 refine⟨⟨decide ((aav (.sl v_1) (.str v_2))≥0), ?_⟩,kF ah ai [oC (dm af3 (x:=.sl v_1) (y:=.str v_2) ⟨cv,ng⟩)] (by kernel_rfl)⟩
 trivial
def U7 (op:Int)(nn nk:Nat):Prop:=op<30∧(op=7→nn=nk)∧(op=14→3≤nk)∧(op=1∨op=2∨op=3∨op=4∨op=5∨op=6∨op=7∨1≤nk)
def Gt:Tree→Prop
 |.agg [.int _ op,_,_,_,.sl ns,.sl ks]=>U7 op ns.length ks.length
 |_=>False
theorem Gu        (m :Int):∃F:Tree→(Int×Int×List UInt8×List UInt8×List Tree×List Tree)×Bool,∀x,(T .bJ x)→R1 (cf m) 66 x (.bX [.agg [.int .u8 ((F x).1.1),.int .i64 ((F x).1.2.1),.str ((F x).1.2.2.1),.str ((F x).1.2.2.2.1),.sl ((F x).1.2.2.2.2.1),.sl ((F x).1.2.2.2.2.2)],.bool (F x).2])∧(((F x).2=true→Gt x)∧∀e,x=gP e→(F x).2=true∧(F x).1.2.1=0∧(F x).1.2.2.1=[]∧(F x).1.2.2.2.1=[]∧(F x).1.2.2.2.2.1.length=1):=by
  refine wT (P:=fun x=>T .bJ x) (mk:=fun(r:(Int×Int×List UInt8×List UInt8×List Tree×List Tree)×Bool)=>.bX [.agg [.int .u8 r.1.1,.int .i64 r.1.2.1,.str r.1.2.2.1,.str r.1.2.2.2.1,.sl r.1.2.2.2.2.1,.sl r.1.2.2.2.2.2],.bool r.2]) (Post:=fun x r=>(r.2=true→Gt x)∧∀e,x=gP e→r.2=true∧r.1.2.1=0∧r.1.2.2.1=[]∧r.1.2.2.2.1=[]∧r.1.2.2.2.2.1.length=1) fun x hx=> ?_
  show ∃r:{r:(Int×Int×List UInt8×List UInt8×List Tree×List Tree)×Bool //(r.2=true→Gt x)∧∀e,x=gP e→r.2=true∧r.1.2.1=0∧r.1.2.2.1=[]∧r.1.2.2.2.1=[]∧r.1.2.2.2.2.1.length=1},ay (cf m) 66 [.t x] [] (.ret (.t (.bX [.agg [.int .u8 r.1.1.1,.int .i64 r.1.1.2.1,.str r.1.1.2.2.1,.str r.1.1.2.2.2.1,.sl r.1.1.2.2.2.2.1,.sl r.1.1.2.2.2.2.2],.bool r.1.2])) [] [])
  have cv:=hx
  obtain⟨cM,n_1,s_1,qJ,gU,cm,rfl,eT,bq,jQ,dP⟩:=T.eB cv
  obtain⟨Cf,Nb⟩:=tS m
  obtain⟨af4,aks⟩:=YP m
  obtain⟨KW,U8⟩:=KV m
  obtain⟨KX,KY⟩:=KU m
  obtain⟨Rf,acu⟩:=O6 m
  obtain⟨wU,M9⟩:=Cw m
  obtain⟨ev,ai,wW,acy,KZ,Ej,KQ,Bg⟩:∃ev,aF (cf m) ev∧Has ev 29 (jP (fun x=>PS x) (fun x=>.bool (Cf x)))∧Has ev 101 (jP (fun x=>T .o9 x) (fun x=>.int .i64 (af4 x)))∧Has ev 69 (r7 (fun x y=>T .bl x∧T .string y) (fun x y=>.bool (KW x y)))∧Has ev 102 (jP (fun x=>T .bl x) (fun x=>.bool (KX x)))∧Has ev 103 (jP (fun x=>T .string x) (fun x=>.bool (Rf x)))∧Has ev 68 (jP (fun x=>PS x) (fun x=>.bool (wU x))):=⟨_,(ax (bp (fun x h=>(Nb x h))) (ax (bp (fun x h=>(aks x h).1)) (ax (dH (fun x y h=>(U8 x y h).1)) (ax (bp (fun x h=>(KY x h).1)) (ax (bp (fun x h=>(acu x h).1)) (ax (bp (fun x h=>(M9 x h))) aH)))))),az,(aj rfl az),(aj rfl (aj rfl az)),(aj rfl (aj rfl (aj rfl az))),(aj rfl (aj rfl (aj rfl (aj rfl az)))),(aj rfl (aj rfl (aj rfl (aj rfl (aj rfl az)))))⟩
  refine AX.start 149 1 Tryz.func66 rfl (by decide) rfl rfl (by decide) ?_
  refine AX.frames ?_
  rcases aK ((cM==0)) with bD|bD
  ·
   have gM:=eq_of_beq bD
   refine⟨⟨((cM,0,[],[],[],[]),false), ?_⟩,kF ah ai [oB bD,oF,oF,oF,oF,oF,oF,oF,oF,oF,oF] (by kernel_rfl)⟩
   refine⟨?_, ?_⟩
   · exact fun h=>absurd (show false=true from h) (by decide)
   · exact fun e he=>by
       simp only[gP,Tree.agg.injEq,List.cons.injEq,Tree.int.injEq,Tree.str.injEq,Tree.sl.injEq,true_and,and_true] at he
       obtain⟨e1,e2,e3,e4,e5,e6⟩:=he
       exact absurd (eq_of_beq bD) (by rw[e1];decide)
  ·
   have gM:=ne_of_beq_false bD
   rcases aK ((cM==1)) with bM|bM
   ·
    have lF:=eq_of_beq bM
    rcases aK ((n_1==0)) with hg4|hg4
    ·
     have D4:=eq_of_beq hg4
     rcases aK (decide (cM<30)) with bu|bu
     ·
      have HU:=of_decide_eq_true bu
      refine⟨⟨((cM,n_1,[],[],[],[]),(((cm.length:Nat):Int)==0)), ?_⟩,kF ah ai [oB bD,oB bM,oB hg4,oB hg4,oB hg4,oB hg4,oT,oT,oT,oT,oB bu,oB bu,oB bu,oB bu,oB bu,oB bu] (by kernel_rfl)⟩
      refine⟨?_, ?_⟩
      · exact by
          intro h
          have h:=eq_of_beq (show(((cm.length:Nat):Int)==0)=true from h)
          exact⟨by omega,by omega,by omega,by omega⟩
      · exact fun e he=>by
          simp only[gP,Tree.agg.injEq,List.cons.injEq,Tree.int.injEq,Tree.str.injEq,Tree.sl.injEq,true_and,and_true] at he
          obtain⟨e1,e2,e3,e4,e5,e6⟩:=he
          exact absurd (eq_of_beq bM) (by rw[e1];decide)
     ·
      have HU:=of_decide_eq_false bu
      refine⟨⟨((cM,n_1,[],[],[],[]),false), ?_⟩,kF ah ai [oB bD,oB bM,oB hg4,oB hg4,oB hg4,oB hg4,oT,oT,oT,oT,oB bu,oB bu,oB bu,oB bu,oB bu,oB bu] (by kernel_rfl)⟩
      refine⟨?_, ?_⟩
      · exact fun h=>absurd (show false=true from h) (by decide)
      · exact fun e he=>by
          simp only[gP,Tree.agg.injEq,List.cons.injEq,Tree.int.injEq,Tree.str.injEq,Tree.sl.injEq,true_and,and_true] at he
          obtain⟨e1,e2,e3,e4,e5,e6⟩:=he
          exact absurd (eq_of_beq bM) (by rw[e1];decide)
    ·
     have D4:=ne_of_beq_false hg4
     rcases aK ((n_1==1)) with gh|gh
     ·
      have acm:=eq_of_beq gh
      rcases aK (decide (cM<30)) with rK|rK
      ·
       have akt:=of_decide_eq_true rK
       refine⟨⟨((cM,n_1,[],[],[],[]),(((cm.length:Nat):Int)==0)), ?_⟩,kF ah ai [oB bD,oB bM,oB hg4,oB hg4,oB hg4,oB hg4,oB gh,oB gh,oB gh,oB gh,oB rK,oB rK,oB rK,oB rK,oB rK,oB rK] (by kernel_rfl)⟩
       refine⟨?_, ?_⟩
       · exact by
           intro h
           have h:=eq_of_beq (show(((cm.length:Nat):Int)==0)=true from h)
           exact⟨by omega,by omega,by omega,by omega⟩
       · exact fun e he=>by
           simp only[gP,Tree.agg.injEq,List.cons.injEq,Tree.int.injEq,Tree.str.injEq,Tree.sl.injEq,true_and,and_true] at he
           obtain⟨e1,e2,e3,e4,e5,e6⟩:=he
           exact absurd (eq_of_beq bM) (by rw[e1];decide)
      ·
       have akt:=of_decide_eq_false rK
       refine⟨⟨((cM,n_1,[],[],[],[]),false), ?_⟩,kF ah ai [oB bD,oB bM,oB hg4,oB hg4,oB hg4,oB hg4,oB gh,oB gh,oB gh,oB gh,oB rK,oB rK,oB rK,oB rK,oB rK,oB rK] (by kernel_rfl)⟩
       refine⟨?_, ?_⟩
       · exact fun h=>absurd (show false=true from h) (by decide)
       · exact fun e he=>by
           simp only[gP,Tree.agg.injEq,List.cons.injEq,Tree.int.injEq,Tree.str.injEq,Tree.sl.injEq,true_and,and_true] at he
           obtain⟨e1,e2,e3,e4,e5,e6⟩:=he
           exact absurd (eq_of_beq bM) (by rw[e1];decide)
     ·
      have acm:=ne_of_beq_false gh
      refine⟨⟨((cM,n_1,[],[],[],[]),false), ?_⟩,kF ah ai [oB bD,oB bM,oB hg4,oB hg4,oB hg4,oB hg4,oB gh,oB gh,oB gh,oB gh,oF,oF,oF,oF,oF,oF] (by kernel_rfl)⟩
      refine⟨?_, ?_⟩
      · exact fun h=>absurd (show false=true from h) (by decide)
      · exact fun e he=>by
          simp only[gP,Tree.agg.injEq,List.cons.injEq,Tree.int.injEq,Tree.str.injEq,Tree.sl.injEq,true_and,and_true] at he
          obtain⟨e1,e2,e3,e4,e5,e6⟩:=he
          exact absurd (eq_of_beq bM) (by rw[e1];decide)
   ·
    have lF:=ne_of_beq_false bM
    rcases aK ((cM==2)) with gp|gp
    ·
     have xQ:=eq_of_beq gp
     rcases aK (decide (n_1≥0)) with Ng|Ng
     ·
      have aku:=of_decide_eq_true Ng
      rcases aK (decide (cM<30)) with lD|lD
      ·
       have af5:=of_decide_eq_true lD
       refine⟨⟨((cM,n_1,[],[],[],[]),(((cm.length:Nat):Int)==0)), ?_⟩,kF ah ai [oB bD,oB bM,oB gp,oB Ng,oB Ng,oB Ng,oB Ng,oB lD,oB lD,oB lD,oB lD,oB lD,oB lD] (by kernel_rfl)⟩
       refine⟨?_, ?_⟩
       · exact by
           intro h
           have h:=eq_of_beq (show(((cm.length:Nat):Int)==0)=true from h)
           exact⟨by omega,by omega,by omega,by omega⟩
       · exact fun e he=>by
           simp only[gP,Tree.agg.injEq,List.cons.injEq,Tree.int.injEq,Tree.str.injEq,Tree.sl.injEq,true_and,and_true] at he
           obtain⟨e1,e2,e3,e4,e5,e6⟩:=he
           exact absurd (eq_of_beq gp) (by rw[e1];decide)
      ·
       have af5:=of_decide_eq_false lD
       refine⟨⟨((cM,n_1,[],[],[],[]),false), ?_⟩,kF ah ai [oB bD,oB bM,oB gp,oB Ng,oB Ng,oB Ng,oB Ng,oB lD,oB lD,oB lD,oB lD,oB lD,oB lD] (by kernel_rfl)⟩
       refine⟨?_, ?_⟩
       · exact fun h=>absurd (show false=true from h) (by decide)
       · exact fun e he=>by
           simp only[gP,Tree.agg.injEq,List.cons.injEq,Tree.int.injEq,Tree.str.injEq,Tree.sl.injEq,true_and,and_true] at he
           obtain⟨e1,e2,e3,e4,e5,e6⟩:=he
           exact absurd (eq_of_beq gp) (by rw[e1];decide)
     ·
      have aku:=of_decide_eq_false Ng
      refine⟨⟨((cM,n_1,[],[],[],[]),false), ?_⟩,kF ah ai [oB bD,oB bM,oB gp,oB Ng,oB Ng,oB Ng,oB Ng,oF,oF,oF,oF,oF,oF] (by kernel_rfl)⟩
      refine⟨?_, ?_⟩
      · exact fun h=>absurd (show false=true from h) (by decide)
      · exact fun e he=>by
          simp only[gP,Tree.agg.injEq,List.cons.injEq,Tree.int.injEq,Tree.str.injEq,Tree.sl.injEq,true_and,and_true] at he
          obtain⟨e1,e2,e3,e4,e5,e6⟩:=he
          exact absurd (eq_of_beq gp) (by rw[e1];decide)
    ·
     have xQ:=ne_of_beq_false gp
     rcases aK ((cM==3)) with dn|dn
     ·
      have zH:=eq_of_beq dn
      rcases aK (decide (((s_1.length:Nat):Int)≤256)) with l5|l5
      ·
       have af6:=of_decide_eq_true l5
       rcases aK ((Cf (.str s_1))) with Bj|Bj
       ·
        rcases aK (decide (cM<30)) with xT|xT
        ·
         have af7:=of_decide_eq_true xT
         refine⟨⟨((cM,0,s_1,[],[],[]),(((cm.length:Nat):Int)==(IntKind.wrap .i64 (IntKind.wrap .u8 (cM.tdiv 11))))), ?_⟩,kF ah ai [oB bD,oB bM,oB gp,oB dn,oB dn,oB l5,oB l5,oB l5,oC (bf wW (x:=.str s_1) ⟨_,rfl⟩),oB l5,oB Bj,oB Bj,oB Bj,oB Bj,oB xT,oB xT,oB xT,oB xT,oB xT,oB xT] (by kernel_rfl)⟩
         refine⟨?_, ?_⟩
         · exact by
             intro h
             have h:=eq_of_beq (show(((cm.length:Nat):Int)==(IntKind.wrap .i64 (IntKind.wrap .u8 (cM.tdiv 11))))=true from h)
             clear h
             exact⟨by omega,by omega,by omega,by omega⟩
         · exact fun e he=>by
             simp only[gP,Tree.agg.injEq,List.cons.injEq,Tree.int.injEq,Tree.str.injEq,Tree.sl.injEq,true_and,and_true] at he
             obtain⟨e1,e2,e3,e4,e5,e6⟩:=he
             exact absurd (eq_of_beq dn) (by rw[e1];decide)
        ·
         have af7:=of_decide_eq_false xT
         refine⟨⟨((cM,0,s_1,[],[],[]),false), ?_⟩,kF ah ai [oB bD,oB bM,oB gp,oB dn,oB dn,oB l5,oB l5,oB l5,oC (bf wW (x:=.str s_1) ⟨_,rfl⟩),oB l5,oB Bj,oB Bj,oB Bj,oB Bj,oB xT,oB xT,oB xT,oB xT,oB xT,oB xT] (by kernel_rfl)⟩
         refine⟨?_, ?_⟩
         · exact fun h=>absurd (show false=true from h) (by decide)
         · exact fun e he=>by
             simp only[gP,Tree.agg.injEq,List.cons.injEq,Tree.int.injEq,Tree.str.injEq,Tree.sl.injEq,true_and,and_true] at he
             obtain⟨e1,e2,e3,e4,e5,e6⟩:=he
             exact absurd (eq_of_beq dn) (by rw[e1];decide)
       ·
        refine⟨⟨((cM,0,s_1,[],[],[]),false), ?_⟩,kF ah ai [oB bD,oB bM,oB gp,oB dn,oB dn,oB l5,oB l5,oB l5,oC (bf wW (x:=.str s_1) ⟨_,rfl⟩),oB l5,oB Bj,oB Bj,oB Bj,oB Bj,oF,oF,oF,oF,oF,oF] (by kernel_rfl)⟩
        refine⟨?_, ?_⟩
        · exact fun h=>absurd (show false=true from h) (by decide)
        · exact fun e he=>by
            simp only[gP,Tree.agg.injEq,List.cons.injEq,Tree.int.injEq,Tree.str.injEq,Tree.sl.injEq,true_and,and_true] at he
            obtain⟨e1,e2,e3,e4,e5,e6⟩:=he
            exact absurd (eq_of_beq dn) (by rw[e1];decide)
      ·
       have af6:=of_decide_eq_false l5
       refine⟨⟨((cM,0,s_1,[],[],[]),false), ?_⟩,kF ah ai [oB bD,oB bM,oB gp,oB dn,oB dn,oB l5,oB l5,oB l5,oB l5,oF,oF,oF,oF,oF,oF,oF,oF,oF,oF] (by kernel_rfl)⟩
       refine⟨?_, ?_⟩
       · exact fun h=>absurd (show false=true from h) (by decide)
       · exact fun e he=>by
           simp only[gP,Tree.agg.injEq,List.cons.injEq,Tree.int.injEq,Tree.str.injEq,Tree.sl.injEq,true_and,and_true] at he
           obtain⟨e1,e2,e3,e4,e5,e6⟩:=he
           exact absurd (eq_of_beq dn) (by rw[e1];decide)
     ·
      have zH:=ne_of_beq_false dn
      rcases aK ((cM==11)) with fD|fD
      ·
       have Ur:=eq_of_beq fD
       rcases aK (decide (((s_1.length:Nat):Int)≤256)) with tT|tT
       ·
        have af8:=of_decide_eq_true tT
        rcases aK ((Cf (.str s_1))) with qC|qC
        ·
         rcases aK (decide (cM<30)) with xU|xU
         ·
          have af9:=of_decide_eq_true xU
          refine⟨⟨((cM,0,s_1,[],[],[]),(((cm.length:Nat):Int)==(IntKind.wrap .i64 (IntKind.wrap .u8 (cM.tdiv 11))))), ?_⟩,kF ah ai [oB bD,oB bM,oB gp,oB dn,oB fD,oB tT,oB tT,oB tT,oC (bf wW (x:=.str s_1) ⟨_,rfl⟩),oB tT,oB qC,oB qC,oB qC,oB qC,oB xU,oB xU,oB xU,oB xU,oB xU,oB xU] (by kernel_rfl)⟩
          refine⟨?_, ?_⟩
          · exact by
              intro h
              have h:=eq_of_beq (show(((cm.length:Nat):Int)==(IntKind.wrap .i64 (IntKind.wrap .u8 (cM.tdiv 11))))=true from h)
              have h:((cm.length:Nat):Int)=1:=h.trans (by rw[eq_of_beq fD];decide)
              exact⟨by omega,by omega,by omega,by omega⟩
          · exact fun e he=>by
              simp only[gP,Tree.agg.injEq,List.cons.injEq,Tree.int.injEq,Tree.str.injEq,Tree.sl.injEq,true_and,and_true] at he
              obtain⟨e1,e2,e3,e4,e5,e6⟩:=he
              exact absurd (eq_of_beq fD) (by rw[e1];decide)
         ·
          have af9:=of_decide_eq_false xU
          refine⟨⟨((cM,0,s_1,[],[],[]),false), ?_⟩,kF ah ai [oB bD,oB bM,oB gp,oB dn,oB fD,oB tT,oB tT,oB tT,oC (bf wW (x:=.str s_1) ⟨_,rfl⟩),oB tT,oB qC,oB qC,oB qC,oB qC,oB xU,oB xU,oB xU,oB xU,oB xU,oB xU] (by kernel_rfl)⟩
          refine⟨?_, ?_⟩
          · exact fun h=>absurd (show false=true from h) (by decide)
          · exact fun e he=>by
              simp only[gP,Tree.agg.injEq,List.cons.injEq,Tree.int.injEq,Tree.str.injEq,Tree.sl.injEq,true_and,and_true] at he
              obtain⟨e1,e2,e3,e4,e5,e6⟩:=he
              exact absurd (eq_of_beq fD) (by rw[e1];decide)
        ·
         refine⟨⟨((cM,0,s_1,[],[],[]),false), ?_⟩,kF ah ai [oB bD,oB bM,oB gp,oB dn,oB fD,oB tT,oB tT,oB tT,oC (bf wW (x:=.str s_1) ⟨_,rfl⟩),oB tT,oB qC,oB qC,oB qC,oB qC,oF,oF,oF,oF,oF,oF] (by kernel_rfl)⟩
         refine⟨?_, ?_⟩
         · exact fun h=>absurd (show false=true from h) (by decide)
         · exact fun e he=>by
             simp only[gP,Tree.agg.injEq,List.cons.injEq,Tree.int.injEq,Tree.str.injEq,Tree.sl.injEq,true_and,and_true] at he
             obtain⟨e1,e2,e3,e4,e5,e6⟩:=he
             exact absurd (eq_of_beq fD) (by rw[e1];decide)
       ·
        have af8:=of_decide_eq_false tT
        refine⟨⟨((cM,0,s_1,[],[],[]),false), ?_⟩,kF ah ai [oB bD,oB bM,oB gp,oB dn,oB fD,oB tT,oB tT,oB tT,oB tT,oF,oF,oF,oF,oF,oF,oF,oF,oF,oF] (by kernel_rfl)⟩
        refine⟨?_, ?_⟩
        · exact fun h=>absurd (show false=true from h) (by decide)
        · exact fun e he=>by
            simp only[gP,Tree.agg.injEq,List.cons.injEq,Tree.int.injEq,Tree.str.injEq,Tree.sl.injEq,true_and,and_true] at he
            obtain⟨e1,e2,e3,e4,e5,e6⟩:=he
            exact absurd (eq_of_beq fD) (by rw[e1];decide)
      ·
       have Ur:=ne_of_beq_false fD
       rcases aK ((cM==4)) with iq|iq
       ·
        have K0:=eq_of_beq iq
        rcases aK (((af4 (.agg [.str qJ,.str s_1]))==0)) with qK|qK
        ·
         have aga:=eq_of_beq qK
         rcases aK (decide (cM<30)) with xV|xV
         ·
          have agb:=of_decide_eq_true xV
          refine⟨⟨((cM,0,s_1,qJ,[],[]),(((cm.length:Nat):Int)==0)), ?_⟩,kF ah ai [oB bD,oB bM,oB gp,oB dn,oB fD,oB iq,oC (bf acy (x:=.agg [.str qJ,.str s_1]) (.o9 _ _)),oB qK,oB qK,oB qK,oB qK,oB xV,oB xV,oB xV,oB xV,oB xV,oB xV] (by kernel_rfl)⟩
          refine⟨?_, ?_⟩
          · exact by
              intro h
              have h:=eq_of_beq (show(((cm.length:Nat):Int)==0)=true from h)
              exact⟨by omega,by omega,by omega,by omega⟩
          · exact fun e he=>by
              simp only[gP,Tree.agg.injEq,List.cons.injEq,Tree.int.injEq,Tree.str.injEq,Tree.sl.injEq,true_and,and_true] at he
              obtain⟨e1,e2,e3,e4,e5,e6⟩:=he
              exact absurd (eq_of_beq iq) (by rw[e1];decide)
         ·
          have agb:=of_decide_eq_false xV
          refine⟨⟨((cM,0,s_1,qJ,[],[]),false), ?_⟩,kF ah ai [oB bD,oB bM,oB gp,oB dn,oB fD,oB iq,oC (bf acy (x:=.agg [.str qJ,.str s_1]) (.o9 _ _)),oB qK,oB qK,oB qK,oB qK,oB xV,oB xV,oB xV,oB xV,oB xV,oB xV] (by kernel_rfl)⟩
          refine⟨?_, ?_⟩
          · exact fun h=>absurd (show false=true from h) (by decide)
          · exact fun e he=>by
              simp only[gP,Tree.agg.injEq,List.cons.injEq,Tree.int.injEq,Tree.str.injEq,Tree.sl.injEq,true_and,and_true] at he
              obtain⟨e1,e2,e3,e4,e5,e6⟩:=he
              exact absurd (eq_of_beq iq) (by rw[e1];decide)
        ·
         have aga:=ne_of_beq_false qK
         refine⟨⟨((cM,0,s_1,qJ,[],[]),false), ?_⟩,kF ah ai [oB bD,oB bM,oB gp,oB dn,oB fD,oB iq,oC (bf acy (x:=.agg [.str qJ,.str s_1]) (.o9 _ _)),oB qK,oB qK,oB qK,oB qK,oF,oF,oF,oF,oF,oF] (by kernel_rfl)⟩
         refine⟨?_, ?_⟩
         · exact fun h=>absurd (show false=true from h) (by decide)
         · exact fun e he=>by
             simp only[gP,Tree.agg.injEq,List.cons.injEq,Tree.int.injEq,Tree.str.injEq,Tree.sl.injEq,true_and,and_true] at he
             obtain⟨e1,e2,e3,e4,e5,e6⟩:=he
             exact absurd (eq_of_beq iq) (by rw[e1];decide)
       ·
        have K0:=ne_of_beq_false iq
        rcases aK ((cM==5)) with gO|gO
        ·
         have Ei:=eq_of_beq gO
         rcases aK ((KW (.sl [.str [112,114,105,110,99,105,112,97,108],.str [97,99,116,105,111,110],.str [114,101,115,111,117,114,99,101],.str [99,111,110,116,101,120,116]]) (.str s_1))) with Bk|Bk
         ·
          rcases aK (decide (cM<30)) with xW|xW
          ·
           have agc:=of_decide_eq_true xW
           refine⟨⟨((cM,0,s_1,[],[],[]),(((cm.length:Nat):Int)==0)), ?_⟩,kF ah ai [oB bD,oB bM,oB gp,oB dn,oB fD,oB iq,oB gO,oC (dm KZ (x:=.sl [.str [112,114,105,110,99,105,112,97,108],.str [97,99,116,105,111,110],.str [114,101,115,111,117,114,99,101],.str [99,111,110,116,101,120,116]]) (y:=.str s_1) ⟨(.bl _ (by first|assumption|omega|(simp;done)|(simp;omega)) (fN (.string _) (fN (.string _) (fN (.string _) (fN (.string _) (fun _ h=>absurd h (by simp))))))),(.string _)⟩),oB Bk,oB Bk,oB Bk,oB Bk,oB xW,oB xW,oB xW,oB xW,oB xW,oB xW] (by kernel_rfl)⟩
           refine⟨?_, ?_⟩
           · exact by
               intro h
               have h:=eq_of_beq (show(((cm.length:Nat):Int)==0)=true from h)
               exact⟨by omega,by omega,by omega,by omega⟩
           · exact fun e he=>by
               simp only[gP,Tree.agg.injEq,List.cons.injEq,Tree.int.injEq,Tree.str.injEq,Tree.sl.injEq,true_and,and_true] at he
               obtain⟨e1,e2,e3,e4,e5,e6⟩:=he
               exact absurd (eq_of_beq gO) (by rw[e1];decide)
          ·
           have agc:=of_decide_eq_false xW
           refine⟨⟨((cM,0,s_1,[],[],[]),false), ?_⟩,kF ah ai [oB bD,oB bM,oB gp,oB dn,oB fD,oB iq,oB gO,oC (dm KZ (x:=.sl [.str [112,114,105,110,99,105,112,97,108],.str [97,99,116,105,111,110],.str [114,101,115,111,117,114,99,101],.str [99,111,110,116,101,120,116]]) (y:=.str s_1) ⟨(.bl _ (by first|assumption|omega|(simp;done)|(simp;omega)) (fN (.string _) (fN (.string _) (fN (.string _) (fN (.string _) (fun _ h=>absurd h (by simp))))))),(.string _)⟩),oB Bk,oB Bk,oB Bk,oB Bk,oB xW,oB xW,oB xW,oB xW,oB xW,oB xW] (by kernel_rfl)⟩
           refine⟨?_, ?_⟩
           · exact fun h=>absurd (show false=true from h) (by decide)
           · exact fun e he=>by
               simp only[gP,Tree.agg.injEq,List.cons.injEq,Tree.int.injEq,Tree.str.injEq,Tree.sl.injEq,true_and,and_true] at he
               obtain⟨e1,e2,e3,e4,e5,e6⟩:=he
               exact absurd (eq_of_beq gO) (by rw[e1];decide)
         ·
          refine⟨⟨((cM,0,s_1,[],[],[]),false), ?_⟩,kF ah ai [oB bD,oB bM,oB gp,oB dn,oB fD,oB iq,oB gO,oC (dm KZ (x:=.sl [.str [112,114,105,110,99,105,112,97,108],.str [97,99,116,105,111,110],.str [114,101,115,111,117,114,99,101],.str [99,111,110,116,101,120,116]]) (y:=.str s_1) ⟨(.bl _ (by first|assumption|omega|(simp;done)|(simp;omega)) (fN (.string _) (fN (.string _) (fN (.string _) (fN (.string _) (fun _ h=>absurd h (by simp))))))),(.string _)⟩),oB Bk,oB Bk,oB Bk,oB Bk,oF,oF,oF,oF,oF,oF] (by kernel_rfl)⟩
          refine⟨?_, ?_⟩
          · exact fun h=>absurd (show false=true from h) (by decide)
          · exact fun e he=>by
              simp only[gP,Tree.agg.injEq,List.cons.injEq,Tree.int.injEq,Tree.str.injEq,Tree.sl.injEq,true_and,and_true] at he
              obtain⟨e1,e2,e3,e4,e5,e6⟩:=he
              exact absurd (eq_of_beq gO) (by rw[e1];decide)
        ·
         have Ei:=ne_of_beq_false gO
         rcases aK ((cM==6)) with jl|jl
         ·
          have KM:=eq_of_beq jl
          rcases aK (decide (((cm.length:Nat):Int)≤16)) with jG|jG
          ·
           have Uw:=of_decide_eq_true jG
           rcases aK (decide (cM<30)) with xX|xX
           ·
            have agd:=of_decide_eq_true xX
            refine⟨⟨((cM,0,[],[],[],[]),(((cm.length:Nat):Int)==((cm.length:Nat):Int))), ?_⟩,kF ah ai [oB bD,oB bM,oB gp,oB dn,oB fD,oB iq,oB gO,oB jl,oB jG,oB jG,oB jG,oB jG,oB xX,oB xX,oB xX,oB xX,oB xX,oB xX] (by kernel_rfl)⟩
            refine⟨?_, ?_⟩
            · exact by
                intro h
                have h:=eq_of_beq (show(((cm.length:Nat):Int)==((cm.length:Nat):Int))=true from h)
                exact⟨by omega,by omega,by omega,by omega⟩
            · exact fun e he=>by
                simp only[gP,Tree.agg.injEq,List.cons.injEq,Tree.int.injEq,Tree.str.injEq,Tree.sl.injEq,true_and,and_true] at he
                obtain⟨e1,e2,e3,e4,e5,e6⟩:=he
                exact absurd (eq_of_beq jl) (by rw[e1];decide)
           ·
            have agd:=of_decide_eq_false xX
            refine⟨⟨((cM,0,[],[],[],[]),false), ?_⟩,kF ah ai [oB bD,oB bM,oB gp,oB dn,oB fD,oB iq,oB gO,oB jl,oB jG,oB jG,oB jG,oB jG,oB xX,oB xX,oB xX,oB xX,oB xX,oB xX] (by kernel_rfl)⟩
            refine⟨?_, ?_⟩
            · exact fun h=>absurd (show false=true from h) (by decide)
            · exact fun e he=>by
                simp only[gP,Tree.agg.injEq,List.cons.injEq,Tree.int.injEq,Tree.str.injEq,Tree.sl.injEq,true_and,and_true] at he
                obtain⟨e1,e2,e3,e4,e5,e6⟩:=he
                exact absurd (eq_of_beq jl) (by rw[e1];decide)
          ·
           have Uw:=of_decide_eq_false jG
           refine⟨⟨((cM,0,[],[],[],[]),false), ?_⟩,kF ah ai [oB bD,oB bM,oB gp,oB dn,oB fD,oB iq,oB gO,oB jl,oB jG,oB jG,oB jG,oB jG,oF,oF,oF,oF,oF,oF] (by kernel_rfl)⟩
           refine⟨?_, ?_⟩
           · exact fun h=>absurd (show false=true from h) (by decide)
           · exact fun e he=>by
               simp only[gP,Tree.agg.injEq,List.cons.injEq,Tree.int.injEq,Tree.str.injEq,Tree.sl.injEq,true_and,and_true] at he
               obtain⟨e1,e2,e3,e4,e5,e6⟩:=he
               exact absurd (eq_of_beq jl) (by rw[e1];decide)
         ·
          have KM:=ne_of_beq_false jl
          rcases aK ((cM==7)) with je|je
          ·
           have Kz:=eq_of_beq je
           rcases aK (decide (((cm.length:Nat):Int)≤16)) with iY|iY
           ·
            have age:=of_decide_eq_true iY
            rcases aK ((((gU.length:Nat):Int)==((cm.length:Nat):Int))) with ij|ij
            ·
             have agf:=eq_of_beq ij
             have acz:=(KY (.sl gU) (.bl _ (by first|assumption|omega|(simp;done)|(simp;omega)) bq)).2
             rcases aK ((KX (.sl gU))) with zL|zL
             ·
              rcases aK (decide (cM<30)) with wX|wX
              ·
               have agh:=of_decide_eq_true wX
               refine⟨⟨((cM,0,[],[],gU,[]),(((cm.length:Nat):Int)==((cm.length:Nat):Int))), ?_⟩,kF ah ai [oB bD,oB bM,oB gp,oB dn,oB fD,oB iq,oB gO,oB jl,oB je,oB iY,oB iY,oB iY,oB iY,oB iY,oB iY,oB iY,oB iY,oB ij,oB ij,oB ij,oC (bf Ej (x:=.sl gU) (.bl _ (by first|assumption|omega|(simp;done)|(simp;omega)) bq)),oB ij,oB zL,oB zL,oB zL,oB zL,oB wX,oB wX,oB wX,oB wX,oB wX,oB wX] (by kernel_rfl)⟩
               refine⟨?_, ?_⟩
               · exact by
                   intro h
                   have h:=eq_of_beq (show(((cm.length:Nat):Int)==((cm.length:Nat):Int))=true from h)
                   exact⟨by omega,by omega,by omega,by omega⟩
               · exact fun e he=>by
                   simp only[gP,Tree.agg.injEq,List.cons.injEq,Tree.int.injEq,Tree.str.injEq,Tree.sl.injEq,true_and,and_true] at he
                   obtain⟨e1,e2,e3,e4,e5,e6⟩:=he
                   have hlb:=acz (by rw[e5])
                   skip
                   exact⟨by subst e6;rfl,rfl,rfl,rfl,by subst e5;rfl⟩
              ·
               have agh:=of_decide_eq_false wX
               refine⟨⟨((cM,0,[],[],gU,[]),false), ?_⟩,kF ah ai [oB bD,oB bM,oB gp,oB dn,oB fD,oB iq,oB gO,oB jl,oB je,oB iY,oB iY,oB iY,oB iY,oB iY,oB iY,oB iY,oB iY,oB ij,oB ij,oB ij,oC (bf Ej (x:=.sl gU) (.bl _ (by first|assumption|omega|(simp;done)|(simp;omega)) bq)),oB ij,oB zL,oB zL,oB zL,oB zL,oB wX,oB wX,oB wX,oB wX,oB wX,oB wX] (by kernel_rfl)⟩
               refine⟨?_, ?_⟩
               · exact fun h=>absurd (show false=true from h) (by decide)
               · exact fun e he=>by
                   simp only[gP,Tree.agg.injEq,List.cons.injEq,Tree.int.injEq,Tree.str.injEq,Tree.sl.injEq,true_and,and_true] at he
                   obtain⟨e1,e2,e3,e4,e5,e6⟩:=he
                   have hlb:=acz (by rw[e5])
                   skip
                   have hq:=of_decide_eq_false wX
                   subst e6
                   subst e1
                   simp at hq
             ·
              refine⟨⟨((cM,0,[],[],gU,[]),false), ?_⟩,kF ah ai [oB bD,oB bM,oB gp,oB dn,oB fD,oB iq,oB gO,oB jl,oB je,oB iY,oB iY,oB iY,oB iY,oB iY,oB iY,oB iY,oB iY,oB ij,oB ij,oB ij,oC (bf Ej (x:=.sl gU) (.bl _ (by first|assumption|omega|(simp;done)|(simp;omega)) bq)),oB ij,oB zL,oB zL,oB zL,oB zL,oF,oF,oF,oF,oF,oF] (by kernel_rfl)⟩
              refine⟨?_, ?_⟩
              · exact fun h=>absurd (show false=true from h) (by decide)
              · exact fun e he=>by
                  simp only[gP,Tree.agg.injEq,List.cons.injEq,Tree.int.injEq,Tree.str.injEq,Tree.sl.injEq,true_and,and_true] at he
                  obtain⟨e1,e2,e3,e4,e5,e6⟩:=he
                  have hlb:=acz (by rw[e5])
                  exact absurd (zL.symm.trans hlb) (by decide)
            ·
             have agf:=ne_of_beq_false ij
             refine⟨⟨((cM,0,[],[],gU,[]),false), ?_⟩,kF ah ai [oB bD,oB bM,oB gp,oB dn,oB fD,oB iq,oB gO,oB jl,oB je,oB iY,oB iY,oB iY,oB iY,oB iY,oB iY,oB iY,oB iY,oB ij,oB ij,oB ij,oB ij,oF,oF,oF,oF,oF,oF,oF,oF,oF,oF] (by kernel_rfl)⟩
             refine⟨?_, ?_⟩
             · exact fun h=>absurd (show false=true from h) (by decide)
             · exact fun e he=>by
                 simp only[gP,Tree.agg.injEq,List.cons.injEq,Tree.int.injEq,Tree.str.injEq,Tree.sl.injEq,true_and,and_true] at he
                 obtain⟨e1,e2,e3,e4,e5,e6⟩:=he
                 have hq:=ne_of_beq_false ij
                 subst e6
                 subst e5
                 simp at hq
           ·
            have age:=of_decide_eq_false iY
            refine⟨⟨((cM,0,[],[],gU,[]),false), ?_⟩,kF ah ai [oB bD,oB bM,oB gp,oB dn,oB fD,oB iq,oB gO,oB jl,oB je,oB iY,oB iY,oB iY,oB iY,oB iY,oB iY,oB iY,oB iY,oF,oF,oF,oF,oF,oF,oF,oF,oF,oF,oF,oF,oF,oF] (by kernel_rfl)⟩
            refine⟨?_, ?_⟩
            · exact fun h=>absurd (show false=true from h) (by decide)
            · exact fun e he=>by
                simp only[gP,Tree.agg.injEq,List.cons.injEq,Tree.int.injEq,Tree.str.injEq,Tree.sl.injEq,true_and,and_true] at he
                obtain⟨e1,e2,e3,e4,e5,e6⟩:=he
                have hq:=of_decide_eq_false iY
                subst e6
                subst e1
                simp at hq
          ·
           have Kz:=ne_of_beq_false je
           rcases aK ((cM==8)) with oy|oy
           ·
            have agi:=eq_of_beq oy
            rcases aK ((Rf (.str s_1))) with Bl|Bl
            ·
             rcases aK (decide (cM<30)) with xY|xY
             ·
              have agj:=of_decide_eq_true xY
              refine⟨⟨((cM,0,s_1,[],[],[]),(((cm.length:Nat):Int)==1)), ?_⟩,kF ah ai [oB bD,oB bM,oB gp,oB dn,oB fD,oB iq,oB gO,oB jl,oB je,oB oy,oB oy,oC (bf KQ (x:=.str s_1) (.string _)),oB Bl,oB Bl,oB Bl,oB Bl,oB xY,oB xY,oB xY,oB xY,oB xY,oB xY] (by kernel_rfl)⟩
              refine⟨?_, ?_⟩
              · exact by
                  intro h
                  have h:=eq_of_beq (show(((cm.length:Nat):Int)==1)=true from h)
                  exact⟨by omega,by omega,by omega,by omega⟩
              · exact fun e he=>by
                  simp only[gP,Tree.agg.injEq,List.cons.injEq,Tree.int.injEq,Tree.str.injEq,Tree.sl.injEq,true_and,and_true] at he
                  obtain⟨e1,e2,e3,e4,e5,e6⟩:=he
                  exact absurd (eq_of_beq oy) (by rw[e1];decide)
             ·
              have agj:=of_decide_eq_false xY
              refine⟨⟨((cM,0,s_1,[],[],[]),false), ?_⟩,kF ah ai [oB bD,oB bM,oB gp,oB dn,oB fD,oB iq,oB gO,oB jl,oB je,oB oy,oB oy,oC (bf KQ (x:=.str s_1) (.string _)),oB Bl,oB Bl,oB Bl,oB Bl,oB xY,oB xY,oB xY,oB xY,oB xY,oB xY] (by kernel_rfl)⟩
              refine⟨?_, ?_⟩
              · exact fun h=>absurd (show false=true from h) (by decide)
              · exact fun e he=>by
                  simp only[gP,Tree.agg.injEq,List.cons.injEq,Tree.int.injEq,Tree.str.injEq,Tree.sl.injEq,true_and,and_true] at he
                  obtain⟨e1,e2,e3,e4,e5,e6⟩:=he
                  exact absurd (eq_of_beq oy) (by rw[e1];decide)
            ·
             refine⟨⟨((cM,0,s_1,[],[],[]),false), ?_⟩,kF ah ai [oB bD,oB bM,oB gp,oB dn,oB fD,oB iq,oB gO,oB jl,oB je,oB oy,oB oy,oC (bf KQ (x:=.str s_1) (.string _)),oB Bl,oB Bl,oB Bl,oB Bl,oF,oF,oF,oF,oF,oF] (by kernel_rfl)⟩
             refine⟨?_, ?_⟩
             · exact fun h=>absurd (show false=true from h) (by decide)
             · exact fun e he=>by
                 simp only[gP,Tree.agg.injEq,List.cons.injEq,Tree.int.injEq,Tree.str.injEq,Tree.sl.injEq,true_and,and_true] at he
                 obtain⟨e1,e2,e3,e4,e5,e6⟩:=he
                 exact absurd (eq_of_beq oy) (by rw[e1];decide)
           ·
            have agi:=ne_of_beq_false oy
            rcases aK ((cM==9)) with nL|nL
            ·
             have U9:=eq_of_beq nL
             rcases aK ((Rf (.str s_1))) with Bn|Bn
             ·
              rcases aK (decide (cM<30)) with xZ|xZ
              ·
               have agk:=of_decide_eq_true xZ
               refine⟨⟨((cM,0,s_1,[],[],[]),(((cm.length:Nat):Int)==1)), ?_⟩,kF ah ai [oB bD,oB bM,oB gp,oB dn,oB fD,oB iq,oB gO,oB jl,oB je,oB oy,oB nL,oC (bf KQ (x:=.str s_1) (.string _)),oB Bn,oB Bn,oB Bn,oB Bn,oB xZ,oB xZ,oB xZ,oB xZ,oB xZ,oB xZ] (by kernel_rfl)⟩
               refine⟨?_, ?_⟩
               · exact by
                   intro h
                   have h:=eq_of_beq (show(((cm.length:Nat):Int)==1)=true from h)
                   exact⟨by omega,by omega,by omega,by omega⟩
               · exact fun e he=>by
                   simp only[gP,Tree.agg.injEq,List.cons.injEq,Tree.int.injEq,Tree.str.injEq,Tree.sl.injEq,true_and,and_true] at he
                   obtain⟨e1,e2,e3,e4,e5,e6⟩:=he
                   exact absurd (eq_of_beq nL) (by rw[e1];decide)
              ·
               have agk:=of_decide_eq_false xZ
               refine⟨⟨((cM,0,s_1,[],[],[]),false), ?_⟩,kF ah ai [oB bD,oB bM,oB gp,oB dn,oB fD,oB iq,oB gO,oB jl,oB je,oB oy,oB nL,oC (bf KQ (x:=.str s_1) (.string _)),oB Bn,oB Bn,oB Bn,oB Bn,oB xZ,oB xZ,oB xZ,oB xZ,oB xZ,oB xZ] (by kernel_rfl)⟩
               refine⟨?_, ?_⟩
               · exact fun h=>absurd (show false=true from h) (by decide)
               · exact fun e he=>by
                   simp only[gP,Tree.agg.injEq,List.cons.injEq,Tree.int.injEq,Tree.str.injEq,Tree.sl.injEq,true_and,and_true] at he
                   obtain⟨e1,e2,e3,e4,e5,e6⟩:=he
                   exact absurd (eq_of_beq nL) (by rw[e1];decide)
             ·
              refine⟨⟨((cM,0,s_1,[],[],[]),false), ?_⟩,kF ah ai [oB bD,oB bM,oB gp,oB dn,oB fD,oB iq,oB gO,oB jl,oB je,oB oy,oB nL,oC (bf KQ (x:=.str s_1) (.string _)),oB Bn,oB Bn,oB Bn,oB Bn,oF,oF,oF,oF,oF,oF] (by kernel_rfl)⟩
              refine⟨?_, ?_⟩
              · exact fun h=>absurd (show false=true from h) (by decide)
              · exact fun e he=>by
                  simp only[gP,Tree.agg.injEq,List.cons.injEq,Tree.int.injEq,Tree.str.injEq,Tree.sl.injEq,true_and,and_true] at he
                  obtain⟨e1,e2,e3,e4,e5,e6⟩:=he
                  exact absurd (eq_of_beq nL) (by rw[e1];decide)
            ·
             have U9:=ne_of_beq_false nL
             rcases aK ((cM==10)) with vP|vP
             ·
              have agl:=eq_of_beq vP
              rcases aK ((wU (.str qJ))) with Bo|Bo
              ·
               rcases aK (decide (cM<30)) with x4|x4
               ·
                have agm:=of_decide_eq_true x4
                refine⟨⟨((cM,0,[],qJ,[],[]),(((cm.length:Nat):Int)==1)), ?_⟩,kF ah ai [oB bD,oB bM,oB gp,oB dn,oB fD,oB iq,oB gO,oB jl,oB je,oB oy,oB nL,oB vP,oC (bf Bg (x:=.str qJ) ⟨_,rfl⟩),oB Bo,oB Bo,oB Bo,oB Bo,oB x4,oB x4,oB x4,oB x4,oB x4,oB x4] (by kernel_rfl)⟩
                refine⟨?_, ?_⟩
                · exact by
                    intro h
                    have h:=eq_of_beq (show(((cm.length:Nat):Int)==1)=true from h)
                    exact⟨by omega,by omega,by omega,by omega⟩
                · exact fun e he=>by
                    simp only[gP,Tree.agg.injEq,List.cons.injEq,Tree.int.injEq,Tree.str.injEq,Tree.sl.injEq,true_and,and_true] at he
                    obtain⟨e1,e2,e3,e4,e5,e6⟩:=he
                    exact absurd (eq_of_beq vP) (by rw[e1];decide)
               ·
                have agm:=of_decide_eq_false x4
                refine⟨⟨((cM,0,[],qJ,[],[]),false), ?_⟩,kF ah ai [oB bD,oB bM,oB gp,oB dn,oB fD,oB iq,oB gO,oB jl,oB je,oB oy,oB nL,oB vP,oC (bf Bg (x:=.str qJ) ⟨_,rfl⟩),oB Bo,oB Bo,oB Bo,oB Bo,oB x4,oB x4,oB x4,oB x4,oB x4,oB x4] (by kernel_rfl)⟩
                refine⟨?_, ?_⟩
                · exact fun h=>absurd (show false=true from h) (by decide)
                · exact fun e he=>by
                    simp only[gP,Tree.agg.injEq,List.cons.injEq,Tree.int.injEq,Tree.str.injEq,Tree.sl.injEq,true_and,and_true] at he
                    obtain⟨e1,e2,e3,e4,e5,e6⟩:=he
                    exact absurd (eq_of_beq vP) (by rw[e1];decide)
              ·
               refine⟨⟨((cM,0,[],qJ,[],[]),false), ?_⟩,kF ah ai [oB bD,oB bM,oB gp,oB dn,oB fD,oB iq,oB gO,oB jl,oB je,oB oy,oB nL,oB vP,oC (bf Bg (x:=.str qJ) ⟨_,rfl⟩),oB Bo,oB Bo,oB Bo,oB Bo,oF,oF,oF,oF,oF,oF] (by kernel_rfl)⟩
               refine⟨?_, ?_⟩
               · exact fun h=>absurd (show false=true from h) (by decide)
               · exact fun e he=>by
                   simp only[gP,Tree.agg.injEq,List.cons.injEq,Tree.int.injEq,Tree.str.injEq,Tree.sl.injEq,true_and,and_true] at he
                   obtain⟨e1,e2,e3,e4,e5,e6⟩:=he
                   exact absurd (eq_of_beq vP) (by rw[e1];decide)
             ·
              have agl:=ne_of_beq_false vP
              rcases aK ((cM==12)) with pI|pI
              ·
               have Va:=eq_of_beq pI
               rcases aK (decide (cM<30)) with x5|x5
               ·
                have agn:=of_decide_eq_true x5
                refine⟨⟨((cM,0,[],[],[],[]),(((cm.length:Nat):Int)==1)), ?_⟩,kF ah ai [oB bD,oB bM,oB gp,oB dn,oB fD,oB iq,oB gO,oB jl,oB je,oB oy,oB nL,oB vP,oB pI,oB pI,oT,oT,oT,oT,oB x5,oB x5,oB x5,oB x5,oB x5,oB x5] (by kernel_rfl)⟩
                refine⟨?_, ?_⟩
                · exact by
                    intro h
                    have h:=eq_of_beq (show(((cm.length:Nat):Int)==1)=true from h)
                    exact⟨by omega,by omega,by omega,by omega⟩
                · exact fun e he=>by
                    simp only[gP,Tree.agg.injEq,List.cons.injEq,Tree.int.injEq,Tree.str.injEq,Tree.sl.injEq,true_and,and_true] at he
                    obtain⟨e1,e2,e3,e4,e5,e6⟩:=he
                    exact absurd (eq_of_beq pI) (by rw[e1];decide)
               ·
                have agn:=of_decide_eq_false x5
                refine⟨⟨((cM,0,[],[],[],[]),false), ?_⟩,kF ah ai [oB bD,oB bM,oB gp,oB dn,oB fD,oB iq,oB gO,oB jl,oB je,oB oy,oB nL,oB vP,oB pI,oB pI,oT,oT,oT,oT,oB x5,oB x5,oB x5,oB x5,oB x5,oB x5] (by kernel_rfl)⟩
                refine⟨?_, ?_⟩
                · exact fun h=>absurd (show false=true from h) (by decide)
                · exact fun e he=>by
                    simp only[gP,Tree.agg.injEq,List.cons.injEq,Tree.int.injEq,Tree.str.injEq,Tree.sl.injEq,true_and,and_true] at he
                    obtain⟨e1,e2,e3,e4,e5,e6⟩:=he
                    exact absurd (eq_of_beq pI) (by rw[e1];decide)
              ·
               have Va:=ne_of_beq_false pI
               rcases aK ((cM==13)) with k9|k9
               ·
                have Vb:=eq_of_beq k9
                rcases aK (decide (cM<30)) with x6|x6
                ·
                 have ago:=of_decide_eq_true x6
                 refine⟨⟨((cM,0,[],[],[],[]),(((cm.length:Nat):Int)==1)), ?_⟩,kF ah ai [oB bD,oB bM,oB gp,oB dn,oB fD,oB iq,oB gO,oB jl,oB je,oB oy,oB nL,oB vP,oB pI,oB k9,oT,oT,oT,oT,oB x6,oB x6,oB x6,oB x6,oB x6,oB x6] (by kernel_rfl)⟩
                 refine⟨?_, ?_⟩
                 · exact by
                     intro h
                     have h:=eq_of_beq (show(((cm.length:Nat):Int)==1)=true from h)
                     exact⟨by omega,by omega,by omega,by omega⟩
                 · exact fun e he=>by
                     simp only[gP,Tree.agg.injEq,List.cons.injEq,Tree.int.injEq,Tree.str.injEq,Tree.sl.injEq,true_and,and_true] at he
                     obtain⟨e1,e2,e3,e4,e5,e6⟩:=he
                     exact absurd (eq_of_beq k9) (by rw[e1];decide)
                ·
                 have ago:=of_decide_eq_false x6
                 refine⟨⟨((cM,0,[],[],[],[]),false), ?_⟩,kF ah ai [oB bD,oB bM,oB gp,oB dn,oB fD,oB iq,oB gO,oB jl,oB je,oB oy,oB nL,oB vP,oB pI,oB k9,oT,oT,oT,oT,oB x6,oB x6,oB x6,oB x6,oB x6,oB x6] (by kernel_rfl)⟩
                 refine⟨?_, ?_⟩
                 · exact fun h=>absurd (show false=true from h) (by decide)
                 · exact fun e he=>by
                     simp only[gP,Tree.agg.injEq,List.cons.injEq,Tree.int.injEq,Tree.str.injEq,Tree.sl.injEq,true_and,and_true] at he
                     obtain⟨e1,e2,e3,e4,e5,e6⟩:=he
                     exact absurd (eq_of_beq k9) (by rw[e1];decide)
               ·
                have Vb:=ne_of_beq_false k9
                rcases aK ((cM==14)) with oD|oD
                ·
                 have Vc:=eq_of_beq oD
                 rcases aK (decide (cM<30)) with x7|x7
                 ·
                  have agp:=of_decide_eq_true x7
                  refine⟨⟨((cM,0,[],[],[],[]),(((cm.length:Nat):Int)==3)), ?_⟩,kF ah ai [oB bD,oB bM,oB gp,oB dn,oB fD,oB iq,oB gO,oB jl,oB je,oB oy,oB nL,oB vP,oB pI,oB k9,oB oD,oT,oT,oT,oT,oB x7,oB x7,oB x7,oB x7,oB x7,oB x7] (by kernel_rfl)⟩
                  refine⟨?_, ?_⟩
                  · exact by
                      intro h
                      have h:=eq_of_beq (show(((cm.length:Nat):Int)==3)=true from h)
                      exact⟨by omega,by omega,by omega,by omega⟩
                  · exact fun e he=>by
                      simp only[gP,Tree.agg.injEq,List.cons.injEq,Tree.int.injEq,Tree.str.injEq,Tree.sl.injEq,true_and,and_true] at he
                      obtain⟨e1,e2,e3,e4,e5,e6⟩:=he
                      exact absurd (eq_of_beq oD) (by rw[e1];decide)
                 ·
                  have agp:=of_decide_eq_false x7
                  refine⟨⟨((cM,0,[],[],[],[]),false), ?_⟩,kF ah ai [oB bD,oB bM,oB gp,oB dn,oB fD,oB iq,oB gO,oB jl,oB je,oB oy,oB nL,oB vP,oB pI,oB k9,oB oD,oT,oT,oT,oT,oB x7,oB x7,oB x7,oB x7,oB x7,oB x7] (by kernel_rfl)⟩
                  refine⟨?_, ?_⟩
                  · exact fun h=>absurd (show false=true from h) (by decide)
                  · exact fun e he=>by
                      simp only[gP,Tree.agg.injEq,List.cons.injEq,Tree.int.injEq,Tree.str.injEq,Tree.sl.injEq,true_and,and_true] at he
                      obtain⟨e1,e2,e3,e4,e5,e6⟩:=he
                      exact absurd (eq_of_beq oD) (by rw[e1];decide)
                ·
                 have Vc:=ne_of_beq_false oD
                 rcases aK (decide (cM<30)) with x8|x8
                 ·
                  have agq:=of_decide_eq_true x8
                  refine⟨⟨((cM,0,[],[],[],[]),(((cm.length:Nat):Int)==2)), ?_⟩,kF ah ai [oB bD,oB bM,oB gp,oB dn,oB fD,oB iq,oB gO,oB jl,oB je,oB oy,oB nL,oB vP,oB pI,oB k9,oB oD,oT,oT,oT,oT,oB x8,oB x8,oB x8,oB x8,oB x8,oB x8] (by kernel_rfl)⟩
                  refine⟨?_, ?_⟩
                  · exact by
                      intro h
                      have h:=eq_of_beq (show(((cm.length:Nat):Int)==2)=true from h)
                      exact⟨by omega,by omega,by omega,by omega⟩
                  · exact fun e he=>by
                      simp only[gP,Tree.agg.injEq,List.cons.injEq,Tree.int.injEq,Tree.str.injEq,Tree.sl.injEq,true_and,and_true] at he
                      obtain⟨e1,e2,e3,e4,e5,e6⟩:=he
                      exact absurd e1 (ne_of_beq_false je)
                 ·
                  have agq:=of_decide_eq_false x8
                  refine⟨⟨((cM,0,[],[],[],[]),false), ?_⟩,kF ah ai [oB bD,oB bM,oB gp,oB dn,oB fD,oB iq,oB gO,oB jl,oB je,oB oy,oB nL,oB vP,oB pI,oB k9,oB oD,oT,oT,oT,oT,oB x8,oB x8,oB x8,oB x8,oB x8,oB x8] (by kernel_rfl)⟩
                  refine⟨?_, ?_⟩
                  · exact fun h=>absurd (show false=true from h) (by decide)
                  · exact fun e he=>by
                      simp only[gP,Tree.agg.injEq,List.cons.injEq,Tree.int.injEq,Tree.str.injEq,Tree.sl.injEq,true_and,and_true] at he
                      obtain⟨e1,e2,e3,e4,e5,e6⟩:=he
                      exact absurd e1 (ne_of_beq_false je)
end
end Go.Proofs.YtijfhoelihclbaaGreatDoor.w.e

namespace Go.Proofs.YtijfhoelihclbaaGreatDoor.w.e
open Go Go.Abs Go.Abs.Ty
set_option linter.unusedVariables false
set_option maxRecDepth 100000
set_option maxHeartbeats 2000000
noncomputable section
def fO (m:Int):Tree→(Int×Int×List UInt8×List UInt8×List Tree×List Tree)×Bool:=(Gu m).choose
theorem Ek (m:Int):∀x,T .bJ x→R1 (cf m) 66 x (.bX [.agg [.int .u8 ((fO m x).1.1),.int .i64 ((fO m x).1.2.1),.str ((fO m x).1.2.2.1),.str ((fO m x).1.2.2.2.1),.sl ((fO m x).1.2.2.2.2.1),.sl ((fO m x).1.2.2.2.2.2)],.bool (fO m x).2])∧(((fO m x).2=true→Gt x)∧∀e,x=gP e→(fO m x).2=true∧(fO m x).1.2.1=0∧(fO m x).1.2.2.1=[]∧(fO m x).1.2.2.2.1=[]∧(fO m x).1.2.2.2.2.1.length=1):=(Gu m).choose_spec
theorem YQ (m:Int):∀x,T .bJ x→R1 (cf m) 66 x (.bX [.agg [.int .u8 ((fO m x).1.1),.int .i64 ((fO m x).1.2.1),.str ((fO m x).1.2.2.1),.str ((fO m x).1.2.2.2.1),.sl ((fO m x).1.2.2.2.2.1),.sl ((fO m x).1.2.2.2.2.2)],.bool (fO m x).2]):=fun x h=>(Ek m x h).1
def p7 (m:Int):Tree→Bool
 |.agg [.int k op,.int k2 n,.str s,.str t,.sl ns,.sl ks]=>(fO m (.agg [.int k op,.int k2 n,.str s,.str t,.sl ns,.sl ks])).2&&((fO m (.agg [.int k op,.int k2 n,.str s,.str t,.sl ns,.sl ks])).1.2.1==n)&&((fO m (.agg [.int k op,.int k2 n,.str s,.str t,.sl ns,.sl ks])).1.2.2.1==s)&&((fO m (.agg [.int k op,.int k2 n,.str s,.str t,.sl ns,.sl ks])).1.2.2.2.1==t)&&(((((fO m (.agg [.int k op,.int k2 n,.str s,.str t,.sl ns,.sl ks])).1.2.2.2.2.1.length:Nat):Int)==((ns.length:Nat):Int)))
 |_=>false
theorem Vd {m:Int}{x:Tree}(hx:T .bJ x)(h:p7 m x=true):Gt x:=by
 have hx0:=hx
 obtain⟨op,n,s,t,ns,ks,rfl,_⟩:=T.eB hx
 simp only[p7,Bool.and_eq_true] at h
 exact(Ek m _ hx0).2.1 h.1.1.1.1
inductive Rt:Tree→Prop
 |mk (op n:Int) (s t:List UInt8) (names kids:List Tree) (h:U7 op names.length kids.length) (hk:∀k∈kids,Rt k):Rt (.agg [.int .u8 op,.int .i64 n,.str s,.str t,.sl names,.sl kids])
theorem Cx (m:Int)(op n:Int)(s t:List UInt8)(ns ks:List Tree)(ln:ns.length≤4194304)(FA:∀y∈ns,T .string y)(lk:ks.length≤4194304)(hks:∀y∈ks,T .bJ y)(fS:Tree→Int×Int×Bool)(hS:∀y∈ks,ay (cf m) 22 [.t y] [] (.ret (.t (.bX [.int .i64 (fS y).1,.int .i64 (fS y).2.1,.bool (fS y).2.2])) [] [])):ay (cf m) 22 [.t (.agg [.int .u8 op,.int .i64 n,.str s,.str t,.sl ns,.sl ks])] [] (.ret (.t (.bX [.int .i64 (wS (p7 m) fS (.agg [.int .u8 op,.int .i64 n,.str s,.str t,.sl ns,.sl ks])).1,.int .i64 (wS (p7 m) fS (.agg [.int .u8 op,.int .i64 n,.str s,.str t,.sl ns,.sl ks])).2.1,.bool (wS (p7 m) fS (.agg [.int .u8 op,.int .i64 n,.str s,.str t,.sl ns,.sl ks])).2.2])) [] []):=by
  have hx:T .bJ (.agg [.int .u8 op,.int .i64 n,.str s,.str t,.sl ns,.sl ks]):=.bJ _ _ _ _ _ _ ln FA lk hks
  obtain⟨ev,ai,El,e_self⟩:∃ev,aF (cf m) ev∧Has ev 66 (jP (fun x=>T .bJ x) (fun x=>.bX [.agg [.int .u8 (((fO m) x).1.1),.int .i64 (((fO m) x).1.2.1),.str (((fO m) x).1.2.2.1),.str (((fO m) x).1.2.2.2.1),.sl (((fO m) x).1.2.2.2.2.1),.sl (((fO m) x).1.2.2.2.2.2)],.bool ((fO m) x).2]))∧Has ev 22 (jP (fun y=>y∈ks) fun y=>.bX [.int .i64 (fS y).1,.int .i64 (fS y).2.1,.bool (fS y).2.2]):=⟨_,(ax (bp (fun x h=>YQ m x h)) (ax (bp hS) aH)),az,(aj rfl az)⟩
  refine ay.fu ?_
  have acA:=Ek m
  refine AX.start 76 1 Tryz.func22 rfl (by decide) rfl rfl (by decide) ?_
  refine AX.frames ?_
  have hp1:=(acA (.agg [.int .u8 op,.int .i64 n,.str s,.str t,.sl ns,.sl ks]) hx).2
  rcases aK ((fO m (.agg [.int .u8 op,.int .i64 n,.str s,.str t,.sl ns,.sl ks])).2) with hg2|hg2
  ·
   rcases aK (((fO m (.agg [.int .u8 op,.int .i64 n,.str s,.str t,.sl ns,.sl ks])).1.2.1==n)) with hg3|hg3
   ·
    have acs:=eq_of_beq hg3
    rcases aK (((fO m (.agg [.int .u8 op,.int .i64 n,.str s,.str t,.sl ns,.sl ks])).1.2.2.1==s)) with hg4|hg4
    ·
     have D4:=eq_of_beq hg4
     rcases aK (((fO m (.agg [.int .u8 op,.int .i64 n,.str s,.str t,.sl ns,.sl ks])).1.2.2.2.1==t)) with bu|bu
     ·
      have HU:=eq_of_beq bu
      have hE:p7 m (.agg [.int .u8 op,.int .i64 n,.str s,.str t,.sl ns,.sl ks])=(((((fO m (.agg [.int .u8 op,.int .i64 n,.str s,.str t,.sl ns,.sl ks])).1.2.2.2.2.1).length:Nat):Int)==((ns.length:Nat):Int)):=by
        show(_&&_&&_&&_&&_)=_
        simp only[hg2,hg3,hg4,bu,Bool.and_true,Bool.true_and,Bool.false_and,Bool.and_false]
      refine eo (f:=0) (n:=3000) (once:=[]) (k:=76) (T:=0) (S:=[]) (ks:=[]) (live:=[2,3,4,48,49,50]) ah ai (α:=Nat×Int×Int×Bool) (fun x=>⟨bH 76 [(2,.t (.int .i64 x.2.1)),(3,.t (.int .i64 x.2.2.1)),(4,.t (.bool x.2.2.2)),(48,.t (.sl ks)),(49,.t (.int .i64 ((ks.length:Nat):Int))),(50,.t (.int .i64 ((x.1:Nat):Int)))],[],0⟩) (fun x=>(x.1≤ks.length)∧(x.2.1=(ks.take x.1).foldl (fun a k=>max a (fS k).1) 0)∧(x.2.2.1=(ks.take x.1).foldl (fun a k=>IntKind.wrap .i64 (a+(fS k).2.1)) 0)∧(x.2.2.2=(ks.take x.1).foldl (fun o k=>o&&(fS k).2.2) (p7 m (.agg [.int .u8 op,.int .i64 n,.str s,.str t,.sl ns,.sl ks])))) (fun x=>ks.length - x.1) (⟨0,0,0,(((((fO m (.agg [.int .u8 op,.int .i64 n,.str s,.str t,.sl ns,.sl ks])).1.2.2.2.2.1).length:Nat):Int)==((ns.length:Nat):Int))⟩) (iA (Tryz.f22.body.getD .skip) 4) [oC (bf El (x:=.agg [.int .u8 op,.int .i64 n,.str s,.str t,.sl ns,.sl ks]) hx),oB hg2,oB hg2,oB hg2,oB hg2,oB hg2,oB hg2,oB hg3,oB hg3,oB hg3,oB hg3,oB hg3,oB hg3,oB hg4,oB hg4,oB hg4,oB hg4,oB hg4,oB hg4,oB bu,oB bu,oB bu,oB bu,oB bu,oB bu,oB bu,oB bu] (by kernel_rfl) ⟨Nat.zero_le _,rfl,rfl,hE.symm⟩ (fun x hok=> ?_)
      obtain⟨K1,Ri,YR,acB⟩:=x
      replace hok:(K1≤ks.length)∧(Ri=(ks.take K1).foldl (fun a k=>max a (fS k).1) 0)∧(YR=(ks.take K1).foldl (fun a k=>IntKind.wrap .i64 (a+(fS k).2.1)) 0)∧(acB=(ks.take K1).foldl (fun o k=>o&&(fS k).2.2) (p7 m (.agg [.int .u8 op,.int .i64 n,.str s,.str t,.sl ns,.sl ks]))):=hok
      obtain⟨ahN,Cy,Cz,CA⟩:=hok
      rcases aK (decide (((K1:Nat):Int)<((ks.length:Nat):Int))) with uE|uE
      ·
       have M4:=of_decide_eq_true uE
       obtain⟨e8,Ku⟩:=lC ks K1 (by first|omega|(simp;omega))
       have Ig:=(hks e8 (List.mem_of_getElem? Ku))
       obtain⟨Ih,YS,Q6,Ii,pJ,tU,rfl,Ve,Vf,Vg,Vh⟩:=T.eB Ig
       rcases aK (acB) with lD|lD
       ·
        exact⟨.inl ⟨⟨K1+1,(max Ri ((fS (.agg [.int .u8 Ih,.int .i64 YS,.str Q6,.str Ii,.sl pJ,.sl tU])).1)),(IntKind.wrap .i64 (YR+(fS (.agg [.int .u8 Ih,.int .i64 YS,.str Q6,.str Ii,.sl pJ,.sl tU])).2.1)),(fS (.agg [.int .u8 Ih,.int .i64 YS,.str Q6,.str Ii,.sl pJ,.sl tU])).2.2⟩,⟨⟨(by show(K1+1)≤ks.length;omega),((bR Ku).trans (by rw[← Cy])).symm,((bR Ku).trans (by rw[← Cz])).symm,((bR Ku).trans (by rw[← CA];simp only[lD,Bool.true_and,Bool.false_and,Bool.and_true])).symm⟩,(by show(ks.length - (K1+1))<(ks.length - K1);omega)⟩⟩,bB (f:=0) (n:=3000) (once:=[]) (k:=76) (T:=0) (S:=[]) (ks:=[]) (live:=[2,3,4,48,49,50]) ah ai [oB uE,oE Ku,oC (bf e_self (x:=.agg [.int .u8 Ih,.int .i64 YS,.str Q6,.str Ii,.sl pJ,.sl tU]) (List.mem_of_getElem? Ku)),oG .i64 Ri ((fS (.agg [.int .u8 Ih,.int .i64 YS,.str Q6,.str Ii,.sl pJ,.sl tU])).1),oZ,oB lD,oB lD,oI (K1) (by omega)] (by kernel_rfl)⟩
       ·
        exact⟨.inl ⟨⟨K1+1,(max Ri ((fS (.agg [.int .u8 Ih,.int .i64 YS,.str Q6,.str Ii,.sl pJ,.sl tU])).1)),(IntKind.wrap .i64 (YR+(fS (.agg [.int .u8 Ih,.int .i64 YS,.str Q6,.str Ii,.sl pJ,.sl tU])).2.1)),false⟩,⟨⟨(by show(K1+1)≤ks.length;omega),((bR Ku).trans (by rw[← Cy])).symm,((bR Ku).trans (by rw[← Cz])).symm,((bR Ku).trans (by rw[← CA];simp only[lD,Bool.true_and,Bool.false_and,Bool.and_true])).symm⟩,(by show(ks.length - (K1+1))<(ks.length - K1);omega)⟩⟩,bB (f:=0) (n:=3000) (once:=[]) (k:=76) (T:=0) (S:=[]) (ks:=[]) (live:=[2,3,4,48,49,50]) ah ai [oB uE,oE Ku,oC (bf e_self (x:=.agg [.int .u8 Ih,.int .i64 YS,.str Q6,.str Ii,.sl pJ,.sl tU]) (List.mem_of_getElem? Ku)),oG .i64 Ri ((fS (.agg [.int .u8 Ih,.int .i64 YS,.str Q6,.str Ii,.sl pJ,.sl tU])).1),oZ,oB lD,oB lD,oI (K1) (by omega)] (by kernel_rfl)⟩
      ·
       have M4:=of_decide_eq_false uE
       refine kO ah ai [oB uE] (by kernel_rfl) ?_
       have hres:wS (p7 m) fS (.agg [.int .u8 op,.int .i64 n,.str s,.str t,.sl ns,.sl ks])=((IntKind.wrap .i64 (Ri+1)),(IntKind.wrap .i64 (YR+1)),acB):=by
         have hi:ks.take K1=ks:=List.take_of_length_le (by omega)
         rw[hi] at Cy Cz CA
         unfold wS
         rw[show uz (.agg [.int .u8 op,.int .i64 n,.str s,.str t,.sl ns,.sl ks])=ks from rfl,← Cy,← Cz,← CA]
         try rfl
       show ∃_:Unit,KE (cf m) (cB (cf m) _ 0 (.ret (.t (.bX [.int .i64 (wS (p7 m) fS (.agg [.int .u8 op,.int .i64 n,.str s,.str t,.sl ns,.sl ks])).1,.int .i64 (wS (p7 m) fS (.agg [.int .u8 op,.int .i64 n,.str s,.str t,.sl ns,.sl ks])).2.1,.bool (wS (p7 m) fS (.agg [.int .u8 op,.int .i64 n,.str s,.str t,.sl ns,.sl ks])).2.2])) [] [])) _ _ _
       rw[hres]
       exact⟨(),kF ah ai [oZ,oZ] (by kernel_rfl)⟩
     ·
      have HU:=ne_of_beq_false bu
      have hE:p7 m (.agg [.int .u8 op,.int .i64 n,.str s,.str t,.sl ns,.sl ks])=false:=by
        show(_&&_&&_&&_&&_)=_
        simp only[hg2,hg3,hg4,bu,Bool.and_true,Bool.true_and,Bool.false_and,Bool.and_false]
      refine eo (f:=0) (n:=3000) (once:=[]) (k:=76) (T:=0) (S:=[]) (ks:=[]) (live:=[2,3,4,48,49,50]) ah ai (α:=Nat×Int×Int×Bool) (fun x=>⟨bH 76 [(2,.t (.int .i64 x.2.1)),(3,.t (.int .i64 x.2.2.1)),(4,.t (.bool x.2.2.2)),(48,.t (.sl ks)),(49,.t (.int .i64 ((ks.length:Nat):Int))),(50,.t (.int .i64 ((x.1:Nat):Int)))],[],0⟩) (fun x=>(x.1≤ks.length)∧(x.2.1=(ks.take x.1).foldl (fun a k=>max a (fS k).1) 0)∧(x.2.2.1=(ks.take x.1).foldl (fun a k=>IntKind.wrap .i64 (a+(fS k).2.1)) 0)∧(x.2.2.2=(ks.take x.1).foldl (fun o k=>o&&(fS k).2.2) (p7 m (.agg [.int .u8 op,.int .i64 n,.str s,.str t,.sl ns,.sl ks])))) (fun x=>ks.length - x.1) (⟨0,0,0,false⟩) (iA (Tryz.f22.body.getD .skip) 4) [oC (bf El (x:=.agg [.int .u8 op,.int .i64 n,.str s,.str t,.sl ns,.sl ks]) hx),oB hg2,oB hg2,oB hg2,oB hg2,oB hg2,oB hg2,oB hg3,oB hg3,oB hg3,oB hg3,oB hg3,oB hg3,oB hg4,oB hg4,oB hg4,oB hg4,oB hg4,oB hg4,oB bu,oB bu,oB bu,oB bu,oB bu,oB bu,oB bu,oB bu] (by kernel_rfl) ⟨Nat.zero_le _,rfl,rfl,hE.symm⟩ (fun x hok=> ?_)
      obtain⟨vQ,Gv,O7,Vi⟩:=x
      replace hok:(vQ≤ks.length)∧(Gv=(ks.take vQ).foldl (fun a k=>max a (fS k).1) 0)∧(O7=(ks.take vQ).foldl (fun a k=>IntKind.wrap .i64 (a+(fS k).2.1)) 0)∧(Vi=(ks.take vQ).foldl (fun o k=>o&&(fS k).2.2) (p7 m (.agg [.int .u8 op,.int .i64 n,.str s,.str t,.sl ns,.sl ks]))):=hok
      obtain⟨agr,zM,zN,zO⟩:=hok
      rcases aK (decide (((vQ:Nat):Int)<((ks.length:Nat):Int))) with iB|iB
      ·
       have qD:=of_decide_eq_true iB
       obtain⟨e13,tV⟩:=lC ks vQ (by first|omega|(simp;omega))
       have Em:=(hks e13 (List.mem_of_getElem? tV))
       obtain⟨zP,Ij,Ik,zQ,mK,pK,rfl,O8,O9,Pa,Pb⟩:=T.eB Em
       rcases aK (Vi) with Nh|Nh
       ·
        exact⟨.inl ⟨⟨vQ+1,(max Gv ((fS (.agg [.int .u8 zP,.int .i64 Ij,.str Ik,.str zQ,.sl mK,.sl pK])).1)),(IntKind.wrap .i64 (O7+(fS (.agg [.int .u8 zP,.int .i64 Ij,.str Ik,.str zQ,.sl mK,.sl pK])).2.1)),(fS (.agg [.int .u8 zP,.int .i64 Ij,.str Ik,.str zQ,.sl mK,.sl pK])).2.2⟩,⟨⟨(by show(vQ+1)≤ks.length;omega),((bR tV).trans (by rw[← zM])).symm,((bR tV).trans (by rw[← zN])).symm,((bR tV).trans (by rw[← zO];simp only[Nh,Bool.true_and,Bool.false_and,Bool.and_true])).symm⟩,(by show(ks.length - (vQ+1))<(ks.length - vQ);omega)⟩⟩,bB (f:=0) (n:=3000) (once:=[]) (k:=76) (T:=0) (S:=[]) (ks:=[]) (live:=[2,3,4,48,49,50]) ah ai [oB iB,oE tV,oC (bf e_self (x:=.agg [.int .u8 zP,.int .i64 Ij,.str Ik,.str zQ,.sl mK,.sl pK]) (List.mem_of_getElem? tV)),oG .i64 Gv ((fS (.agg [.int .u8 zP,.int .i64 Ij,.str Ik,.str zQ,.sl mK,.sl pK])).1),oZ,oB Nh,oB Nh,oI (vQ) (by omega)] (by kernel_rfl)⟩
       ·
        exact⟨.inl ⟨⟨vQ+1,(max Gv ((fS (.agg [.int .u8 zP,.int .i64 Ij,.str Ik,.str zQ,.sl mK,.sl pK])).1)),(IntKind.wrap .i64 (O7+(fS (.agg [.int .u8 zP,.int .i64 Ij,.str Ik,.str zQ,.sl mK,.sl pK])).2.1)),false⟩,⟨⟨(by show(vQ+1)≤ks.length;omega),((bR tV).trans (by rw[← zM])).symm,((bR tV).trans (by rw[← zN])).symm,((bR tV).trans (by rw[← zO];simp only[Nh,Bool.true_and,Bool.false_and,Bool.and_true])).symm⟩,(by show(ks.length - (vQ+1))<(ks.length - vQ);omega)⟩⟩,bB (f:=0) (n:=3000) (once:=[]) (k:=76) (T:=0) (S:=[]) (ks:=[]) (live:=[2,3,4,48,49,50]) ah ai [oB iB,oE tV,oC (bf e_self (x:=.agg [.int .u8 zP,.int .i64 Ij,.str Ik,.str zQ,.sl mK,.sl pK]) (List.mem_of_getElem? tV)),oG .i64 Gv ((fS (.agg [.int .u8 zP,.int .i64 Ij,.str Ik,.str zQ,.sl mK,.sl pK])).1),oZ,oB Nh,oB Nh,oI (vQ) (by omega)] (by kernel_rfl)⟩
      ·
       have qD:=of_decide_eq_false iB
       refine kO ah ai [oB iB] (by kernel_rfl) ?_
       have hres:wS (p7 m) fS (.agg [.int .u8 op,.int .i64 n,.str s,.str t,.sl ns,.sl ks])=((IntKind.wrap .i64 (Gv+1)),(IntKind.wrap .i64 (O7+1)),Vi):=by
         have hi:ks.take vQ=ks:=List.take_of_length_le (by omega)
         rw[hi] at zM zN zO
         unfold wS
         rw[show uz (.agg [.int .u8 op,.int .i64 n,.str s,.str t,.sl ns,.sl ks])=ks from rfl,← zM,← zN,← zO]
         try rfl
       show ∃_:Unit,KE (cf m) (cB (cf m) _ 0 (.ret (.t (.bX [.int .i64 (wS (p7 m) fS (.agg [.int .u8 op,.int .i64 n,.str s,.str t,.sl ns,.sl ks])).1,.int .i64 (wS (p7 m) fS (.agg [.int .u8 op,.int .i64 n,.str s,.str t,.sl ns,.sl ks])).2.1,.bool (wS (p7 m) fS (.agg [.int .u8 op,.int .i64 n,.str s,.str t,.sl ns,.sl ks])).2.2])) [] [])) _ _ _
       rw[hres]
       exact⟨(),kF ah ai [oZ,oZ] (by kernel_rfl)⟩
    ·
     have D4:=ne_of_beq_false hg4
     have hE:p7 m (.agg [.int .u8 op,.int .i64 n,.str s,.str t,.sl ns,.sl ks])=false:=by
       show(_&&_&&_&&_&&_)=_
       simp only[hg2,hg3,hg4,Bool.and_true,Bool.true_and,Bool.false_and,Bool.and_false]
     refine eo (f:=0) (n:=3000) (once:=[]) (k:=76) (T:=0) (S:=[]) (ks:=[]) (live:=[2,3,4,48,49,50]) ah ai (α:=Nat×Int×Int×Bool) (fun x=>⟨bH 76 [(2,.t (.int .i64 x.2.1)),(3,.t (.int .i64 x.2.2.1)),(4,.t (.bool x.2.2.2)),(48,.t (.sl ks)),(49,.t (.int .i64 ((ks.length:Nat):Int))),(50,.t (.int .i64 ((x.1:Nat):Int)))],[],0⟩) (fun x=>(x.1≤ks.length)∧(x.2.1=(ks.take x.1).foldl (fun a k=>max a (fS k).1) 0)∧(x.2.2.1=(ks.take x.1).foldl (fun a k=>IntKind.wrap .i64 (a+(fS k).2.1)) 0)∧(x.2.2.2=(ks.take x.1).foldl (fun o k=>o&&(fS k).2.2) (p7 m (.agg [.int .u8 op,.int .i64 n,.str s,.str t,.sl ns,.sl ks])))) (fun x=>ks.length - x.1) (⟨0,0,0,false⟩) (iA (Tryz.f22.body.getD .skip) 4) [oC (bf El (x:=.agg [.int .u8 op,.int .i64 n,.str s,.str t,.sl ns,.sl ks]) hx),oB hg2,oB hg2,oB hg2,oB hg2,oB hg2,oB hg2,oB hg3,oB hg3,oB hg3,oB hg3,oB hg3,oB hg3,oB hg4,oB hg4,oB hg4,oB hg4,oB hg4,oB hg4,oF,oF,oF,oF,oF,oF,oF,oF] (by kernel_rfl) ⟨Nat.zero_le _,rfl,rfl,hE.symm⟩ (fun x hok=> ?_)
     obtain⟨vR,Gw,Pc,Vj⟩:=x
     replace hok:(vR≤ks.length)∧(Gw=(ks.take vR).foldl (fun a k=>max a (fS k).1) 0)∧(Pc=(ks.take vR).foldl (fun a k=>IntKind.wrap .i64 (a+(fS k).2.1)) 0)∧(Vj=(ks.take vR).foldl (fun o k=>o&&(fS k).2.2) (p7 m (.agg [.int .u8 op,.int .i64 n,.str s,.str t,.sl ns,.sl ks]))):=hok
     obtain⟨ags,zR,zS,zT⟩:=hok
     rcases aK (decide (((vR:Nat):Int)<((ks.length:Nat):Int))) with zD|zD
     ·
      have Ut:=of_decide_eq_true zD
      obtain⟨e18,En⟩:=lC ks vR (by first|omega|(simp;omega))
      have agt:=(hks e18 (List.mem_of_getElem? En))
      obtain⟨zU,Il,Im,zV,mL,pL,rfl,ahO,ahP,ahQ,ahR⟩:=T.eB agt
      rcases aK (Vj) with qK|qK
      ·
       exact⟨.inl ⟨⟨vR+1,(max Gw ((fS (.agg [.int .u8 zU,.int .i64 Il,.str Im,.str zV,.sl mL,.sl pL])).1)),(IntKind.wrap .i64 (Pc+(fS (.agg [.int .u8 zU,.int .i64 Il,.str Im,.str zV,.sl mL,.sl pL])).2.1)),(fS (.agg [.int .u8 zU,.int .i64 Il,.str Im,.str zV,.sl mL,.sl pL])).2.2⟩,⟨⟨(by show(vR+1)≤ks.length;omega),((bR En).trans (by rw[← zR])).symm,((bR En).trans (by rw[← zS])).symm,((bR En).trans (by rw[← zT];simp only[qK,Bool.true_and,Bool.false_and,Bool.and_true])).symm⟩,(by show(ks.length - (vR+1))<(ks.length - vR);omega)⟩⟩,bB (f:=0) (n:=3000) (once:=[]) (k:=76) (T:=0) (S:=[]) (ks:=[]) (live:=[2,3,4,48,49,50]) ah ai [oB zD,oE En,oC (bf e_self (x:=.agg [.int .u8 zU,.int .i64 Il,.str Im,.str zV,.sl mL,.sl pL]) (List.mem_of_getElem? En)),oG .i64 Gw ((fS (.agg [.int .u8 zU,.int .i64 Il,.str Im,.str zV,.sl mL,.sl pL])).1),oZ,oB qK,oB qK,oI (vR) (by omega)] (by kernel_rfl)⟩
      ·
       exact⟨.inl ⟨⟨vR+1,(max Gw ((fS (.agg [.int .u8 zU,.int .i64 Il,.str Im,.str zV,.sl mL,.sl pL])).1)),(IntKind.wrap .i64 (Pc+(fS (.agg [.int .u8 zU,.int .i64 Il,.str Im,.str zV,.sl mL,.sl pL])).2.1)),false⟩,⟨⟨(by show(vR+1)≤ks.length;omega),((bR En).trans (by rw[← zR])).symm,((bR En).trans (by rw[← zS])).symm,((bR En).trans (by rw[← zT];simp only[qK,Bool.true_and,Bool.false_and,Bool.and_true])).symm⟩,(by show(ks.length - (vR+1))<(ks.length - vR);omega)⟩⟩,bB (f:=0) (n:=3000) (once:=[]) (k:=76) (T:=0) (S:=[]) (ks:=[]) (live:=[2,3,4,48,49,50]) ah ai [oB zD,oE En,oC (bf e_self (x:=.agg [.int .u8 zU,.int .i64 Il,.str Im,.str zV,.sl mL,.sl pL]) (List.mem_of_getElem? En)),oG .i64 Gw ((fS (.agg [.int .u8 zU,.int .i64 Il,.str Im,.str zV,.sl mL,.sl pL])).1),oZ,oB qK,oB qK,oI (vR) (by omega)] (by kernel_rfl)⟩
     ·
      have Ut:=of_decide_eq_false zD
      refine kO ah ai [oB zD] (by kernel_rfl) ?_
      have hres:wS (p7 m) fS (.agg [.int .u8 op,.int .i64 n,.str s,.str t,.sl ns,.sl ks])=((IntKind.wrap .i64 (Gw+1)),(IntKind.wrap .i64 (Pc+1)),Vj):=by
        have hi:ks.take vR=ks:=List.take_of_length_le (by omega)
        rw[hi] at zR zS zT
        unfold wS
        rw[show uz (.agg [.int .u8 op,.int .i64 n,.str s,.str t,.sl ns,.sl ks])=ks from rfl,← zR,← zS,← zT]
        try rfl
      show ∃_:Unit,KE (cf m) (cB (cf m) _ 0 (.ret (.t (.bX [.int .i64 (wS (p7 m) fS (.agg [.int .u8 op,.int .i64 n,.str s,.str t,.sl ns,.sl ks])).1,.int .i64 (wS (p7 m) fS (.agg [.int .u8 op,.int .i64 n,.str s,.str t,.sl ns,.sl ks])).2.1,.bool (wS (p7 m) fS (.agg [.int .u8 op,.int .i64 n,.str s,.str t,.sl ns,.sl ks])).2.2])) [] [])) _ _ _
      rw[hres]
      exact⟨(),kF ah ai [oZ,oZ] (by kernel_rfl)⟩
   ·
    have acs:=ne_of_beq_false hg3
    have hE:p7 m (.agg [.int .u8 op,.int .i64 n,.str s,.str t,.sl ns,.sl ks])=false:=by
      show(_&&_&&_&&_&&_)=_
      simp only[hg2,hg3,Bool.and_true,Bool.true_and,Bool.false_and,Bool.and_false]
    refine eo (f:=0) (n:=3000) (once:=[]) (k:=76) (T:=0) (S:=[]) (ks:=[]) (live:=[2,3,4,48,49,50]) ah ai (α:=Nat×Int×Int×Bool) (fun x=>⟨bH 76 [(2,.t (.int .i64 x.2.1)),(3,.t (.int .i64 x.2.2.1)),(4,.t (.bool x.2.2.2)),(48,.t (.sl ks)),(49,.t (.int .i64 ((ks.length:Nat):Int))),(50,.t (.int .i64 ((x.1:Nat):Int)))],[],0⟩) (fun x=>(x.1≤ks.length)∧(x.2.1=(ks.take x.1).foldl (fun a k=>max a (fS k).1) 0)∧(x.2.2.1=(ks.take x.1).foldl (fun a k=>IntKind.wrap .i64 (a+(fS k).2.1)) 0)∧(x.2.2.2=(ks.take x.1).foldl (fun o k=>o&&(fS k).2.2) (p7 m (.agg [.int .u8 op,.int .i64 n,.str s,.str t,.sl ns,.sl ks])))) (fun x=>ks.length - x.1) (⟨0,0,0,false⟩) (iA (Tryz.f22.body.getD .skip) 4) [oC (bf El (x:=.agg [.int .u8 op,.int .i64 n,.str s,.str t,.sl ns,.sl ks]) hx),oB hg2,oB hg2,oB hg2,oB hg2,oB hg2,oB hg2,oB hg3,oB hg3,oB hg3,oB hg3,oB hg3,oB hg3,oF,oF,oF,oF,oF,oF,oF,oF,oF,oF,oF,oF,oF,oF] (by kernel_rfl) ⟨Nat.zero_le _,rfl,rfl,hE.symm⟩ (fun x hok=> ?_)
    obtain⟨mZ,zI,BV,Vk⟩:=x
    replace hok:(mZ≤ks.length)∧(zI=(ks.take mZ).foldl (fun a k=>max a (fS k).1) 0)∧(BV=(ks.take mZ).foldl (fun a k=>IntKind.wrap .i64 (a+(fS k).2.1)) 0)∧(Vk=(ks.take mZ).foldl (fun o k=>o&&(fS k).2.2) (p7 m (.agg [.int .u8 op,.int .i64 n,.str s,.str t,.sl ns,.sl ks]))):=hok
    obtain⟨UH,qG,zW,zX⟩:=hok
    rcases aK (decide (((mZ:Nat):Int)<((ks.length:Nat):Int))) with gO|gO
    ·
     have Ei:=of_decide_eq_true gO
     obtain⟨e23,qE⟩:=lC ks mZ (by first|omega|(simp;omega))
     have agu:=(hks e23 (List.mem_of_getElem? qE))
     obtain⟨zY,Io,vO,zZ,mM,pM,rfl,ahS,ahT,ahU,ahV⟩:=T.eB agu
     rcases aK (Vk) with Ni|Ni
     ·
      exact⟨.inl ⟨⟨mZ+1,(max zI ((fS (.agg [.int .u8 zY,.int .i64 Io,.str vO,.str zZ,.sl mM,.sl pM])).1)),(IntKind.wrap .i64 (BV+(fS (.agg [.int .u8 zY,.int .i64 Io,.str vO,.str zZ,.sl mM,.sl pM])).2.1)),(fS (.agg [.int .u8 zY,.int .i64 Io,.str vO,.str zZ,.sl mM,.sl pM])).2.2⟩,⟨⟨(by show(mZ+1)≤ks.length;omega),((bR qE).trans (by rw[← qG])).symm,((bR qE).trans (by rw[← zW])).symm,((bR qE).trans (by rw[← zX];simp only[Ni,Bool.true_and,Bool.false_and,Bool.and_true])).symm⟩,(by show(ks.length - (mZ+1))<(ks.length - mZ);omega)⟩⟩,bB (f:=0) (n:=3000) (once:=[]) (k:=76) (T:=0) (S:=[]) (ks:=[]) (live:=[2,3,4,48,49,50]) ah ai [oB gO,oE qE,oC (bf e_self (x:=.agg [.int .u8 zY,.int .i64 Io,.str vO,.str zZ,.sl mM,.sl pM]) (List.mem_of_getElem? qE)),oG .i64 zI ((fS (.agg [.int .u8 zY,.int .i64 Io,.str vO,.str zZ,.sl mM,.sl pM])).1),oZ,oB Ni,oB Ni,oI (mZ) (by omega)] (by kernel_rfl)⟩
     ·
      exact⟨.inl ⟨⟨mZ+1,(max zI ((fS (.agg [.int .u8 zY,.int .i64 Io,.str vO,.str zZ,.sl mM,.sl pM])).1)),(IntKind.wrap .i64 (BV+(fS (.agg [.int .u8 zY,.int .i64 Io,.str vO,.str zZ,.sl mM,.sl pM])).2.1)),false⟩,⟨⟨(by show(mZ+1)≤ks.length;omega),((bR qE).trans (by rw[← qG])).symm,((bR qE).trans (by rw[← zW])).symm,((bR qE).trans (by rw[← zX];simp only[Ni,Bool.true_and,Bool.false_and,Bool.and_true])).symm⟩,(by show(ks.length - (mZ+1))<(ks.length - mZ);omega)⟩⟩,bB (f:=0) (n:=3000) (once:=[]) (k:=76) (T:=0) (S:=[]) (ks:=[]) (live:=[2,3,4,48,49,50]) ah ai [oB gO,oE qE,oC (bf e_self (x:=.agg [.int .u8 zY,.int .i64 Io,.str vO,.str zZ,.sl mM,.sl pM]) (List.mem_of_getElem? qE)),oG .i64 zI ((fS (.agg [.int .u8 zY,.int .i64 Io,.str vO,.str zZ,.sl mM,.sl pM])).1),oZ,oB Ni,oB Ni,oI (mZ) (by omega)] (by kernel_rfl)⟩
    ·
     have Ei:=of_decide_eq_false gO
     refine kO ah ai [oB gO] (by kernel_rfl) ?_
     have hres:wS (p7 m) fS (.agg [.int .u8 op,.int .i64 n,.str s,.str t,.sl ns,.sl ks])=((IntKind.wrap .i64 (zI+1)),(IntKind.wrap .i64 (BV+1)),Vk):=by
       have hi:ks.take mZ=ks:=List.take_of_length_le (by omega)
       rw[hi] at qG zW zX
       unfold wS
       rw[show uz (.agg [.int .u8 op,.int .i64 n,.str s,.str t,.sl ns,.sl ks])=ks from rfl,← qG,← zW,← zX]
       try rfl
     show ∃_:Unit,KE (cf m) (cB (cf m) _ 0 (.ret (.t (.bX [.int .i64 (wS (p7 m) fS (.agg [.int .u8 op,.int .i64 n,.str s,.str t,.sl ns,.sl ks])).1,.int .i64 (wS (p7 m) fS (.agg [.int .u8 op,.int .i64 n,.str s,.str t,.sl ns,.sl ks])).2.1,.bool (wS (p7 m) fS (.agg [.int .u8 op,.int .i64 n,.str s,.str t,.sl ns,.sl ks])).2.2])) [] [])) _ _ _
     rw[hres]
     exact⟨(),kF ah ai [oZ,oZ] (by kernel_rfl)⟩
  ·
   have hE:p7 m (.agg [.int .u8 op,.int .i64 n,.str s,.str t,.sl ns,.sl ks])=false:=by
     show(_&&_&&_&&_&&_)=_
     simp only[hg2,Bool.and_true,Bool.true_and,Bool.false_and,Bool.and_false]
   refine eo (f:=0) (n:=3000) (once:=[]) (k:=76) (T:=0) (S:=[]) (ks:=[]) (live:=[2,3,4,48,49,50]) ah ai (α:=Nat×Int×Int×Bool) (fun x=>⟨bH 76 [(2,.t (.int .i64 x.2.1)),(3,.t (.int .i64 x.2.2.1)),(4,.t (.bool x.2.2.2)),(48,.t (.sl ks)),(49,.t (.int .i64 ((ks.length:Nat):Int))),(50,.t (.int .i64 ((x.1:Nat):Int)))],[],0⟩) (fun x=>(x.1≤ks.length)∧(x.2.1=(ks.take x.1).foldl (fun a k=>max a (fS k).1) 0)∧(x.2.2.1=(ks.take x.1).foldl (fun a k=>IntKind.wrap .i64 (a+(fS k).2.1)) 0)∧(x.2.2.2=(ks.take x.1).foldl (fun o k=>o&&(fS k).2.2) (p7 m (.agg [.int .u8 op,.int .i64 n,.str s,.str t,.sl ns,.sl ks])))) (fun x=>ks.length - x.1) (⟨0,0,0,false⟩) (iA (Tryz.f22.body.getD .skip) 4) [oC (bf El (x:=.agg [.int .u8 op,.int .i64 n,.str s,.str t,.sl ns,.sl ks]) hx),oB hg2,oB hg2,oB hg2,oB hg2,oB hg2,oB hg2,oF,oF,oF,oF,oF,oF,oF,oF,oF,oF,oF,oF,oF,oF,oF,oF,oF,oF,oF,oF] (by kernel_rfl) ⟨Nat.zero_le _,rfl,rfl,hE.symm⟩ (fun x hok=> ?_)
   obtain⟨nc,zJ,BW,Vl⟩:=x
   replace hok:(nc≤ks.length)∧(zJ=(ks.take nc).foldl (fun a k=>max a (fS k).1) 0)∧(BW=(ks.take nc).foldl (fun a k=>IntKind.wrap .i64 (a+(fS k).2.1)) 0)∧(Vl=(ks.take nc).foldl (fun o k=>o&&(fS k).2.2) (p7 m (.agg [.int .u8 op,.int .i64 n,.str s,.str t,.sl ns,.sl ks]))):=hok
   obtain⟨UI,qH,z6,z7⟩:=hok
   rcases aK (decide (((nc:Nat):Int)<((ks.length:Nat):Int))) with uL|uL
   ·
    have Ky:=of_decide_eq_true uL
    obtain⟨e28,tR⟩:=lC ks nc (by first|omega|(simp;omega))
    have Pd:=(hks e28 (List.mem_of_getElem? tR))
    obtain⟨z8,Ip,Ce,Aa,mN,pN,rfl,YT,YU,YV,YW⟩:=T.eB Pd
    rcases aK (Vl) with ij|ij
    ·
     exact⟨.inl ⟨⟨nc+1,(max zJ ((fS (.agg [.int .u8 z8,.int .i64 Ip,.str Ce,.str Aa,.sl mN,.sl pN])).1)),(IntKind.wrap .i64 (BW+(fS (.agg [.int .u8 z8,.int .i64 Ip,.str Ce,.str Aa,.sl mN,.sl pN])).2.1)),(fS (.agg [.int .u8 z8,.int .i64 Ip,.str Ce,.str Aa,.sl mN,.sl pN])).2.2⟩,⟨⟨(by show(nc+1)≤ks.length;omega),((bR tR).trans (by rw[← qH])).symm,((bR tR).trans (by rw[← z6])).symm,((bR tR).trans (by rw[← z7];simp only[ij,Bool.true_and,Bool.false_and,Bool.and_true])).symm⟩,(by show(ks.length - (nc+1))<(ks.length - nc);omega)⟩⟩,bB (f:=0) (n:=3000) (once:=[]) (k:=76) (T:=0) (S:=[]) (ks:=[]) (live:=[2,3,4,48,49,50]) ah ai [oB uL,oE tR,oC (bf e_self (x:=.agg [.int .u8 z8,.int .i64 Ip,.str Ce,.str Aa,.sl mN,.sl pN]) (List.mem_of_getElem? tR)),oG .i64 zJ ((fS (.agg [.int .u8 z8,.int .i64 Ip,.str Ce,.str Aa,.sl mN,.sl pN])).1),oZ,oB ij,oB ij,oI (nc) (by omega)] (by kernel_rfl)⟩
    ·
     exact⟨.inl ⟨⟨nc+1,(max zJ ((fS (.agg [.int .u8 z8,.int .i64 Ip,.str Ce,.str Aa,.sl mN,.sl pN])).1)),(IntKind.wrap .i64 (BW+(fS (.agg [.int .u8 z8,.int .i64 Ip,.str Ce,.str Aa,.sl mN,.sl pN])).2.1)),false⟩,⟨⟨(by show(nc+1)≤ks.length;omega),((bR tR).trans (by rw[← qH])).symm,((bR tR).trans (by rw[← z6])).symm,((bR tR).trans (by rw[← z7];simp only[ij,Bool.true_and,Bool.false_and,Bool.and_true])).symm⟩,(by show(ks.length - (nc+1))<(ks.length - nc);omega)⟩⟩,bB (f:=0) (n:=3000) (once:=[]) (k:=76) (T:=0) (S:=[]) (ks:=[]) (live:=[2,3,4,48,49,50]) ah ai [oB uL,oE tR,oC (bf e_self (x:=.agg [.int .u8 z8,.int .i64 Ip,.str Ce,.str Aa,.sl mN,.sl pN]) (List.mem_of_getElem? tR)),oG .i64 zJ ((fS (.agg [.int .u8 z8,.int .i64 Ip,.str Ce,.str Aa,.sl mN,.sl pN])).1),oZ,oB ij,oB ij,oI (nc) (by omega)] (by kernel_rfl)⟩
   ·
    have Ky:=of_decide_eq_false uL
    refine kO ah ai [oB uL] (by kernel_rfl) ?_
    have hres:wS (p7 m) fS (.agg [.int .u8 op,.int .i64 n,.str s,.str t,.sl ns,.sl ks])=((IntKind.wrap .i64 (zJ+1)),(IntKind.wrap .i64 (BW+1)),Vl):=by
      have hi:ks.take nc=ks:=List.take_of_length_le (by omega)
      rw[hi] at qH z6 z7
      unfold wS
      rw[show uz (.agg [.int .u8 op,.int .i64 n,.str s,.str t,.sl ns,.sl ks])=ks from rfl,← qH,← z6,← z7]
      try rfl
    show ∃_:Unit,KE (cf m) (cB (cf m) _ 0 (.ret (.t (.bX [.int .i64 (wS (p7 m) fS (.agg [.int .u8 op,.int .i64 n,.str s,.str t,.sl ns,.sl ks])).1,.int .i64 (wS (p7 m) fS (.agg [.int .u8 op,.int .i64 n,.str s,.str t,.sl ns,.sl ks])).2.1,.bool (wS (p7 m) fS (.agg [.int .u8 op,.int .i64 n,.str s,.str t,.sl ns,.sl ks])).2.2])) [] [])) _ _ _
    rw[hres]
    exact⟨(),kF ah ai [oZ,oZ] (by kernel_rfl)⟩
theorem Rj (m:Int):∃F:Tree→Int×Int×Bool,∀x,T .bJ x→ay (cf m) 22 [.t x] [] (.ret (.t (.bX [.int .i64 (F x).1,.int .i64 (F x).2.1,.bool (F x).2.2])) [] [])∧((F x).2.2=true→Rt x)∧∃n,Dx n x∧F x=Xs (p7 m) n x:=by
 have key:∀(k:K) (x:Tree),T k x→k=.bJ→∃r:Int×Int×Bool,ay (cf m) 22 [.t x] [] (.ret (.t (.bX [.int .i64 r.1,.int .i64 r.2.1,.bool r.2.2])) [] [])∧(r.2.2=true→Rt x)∧∃n,Dx n x∧r=Xs (p7 m) n x:=by
  intro k x h
  induction h with
  | bJ op n s t_ names kids h0 h1 h2 h3 ih1 ih3=>
   intro _
   obtain⟨fS,hS⟩:=eF (P:=fun y=>y∈kids) (Q:=fun y (r:Int×Int×Bool)=>ay (cf m) 22 [.t y] [] (.ret (.t (.bX [.int .i64 r.1,.int .i64 r.2.1,.bool r.2.2])) [] [])∧(r.2.2=true→Rt y)∧∃n,Dx n y∧r=Xs (p7 m) n y) fun y hy=>ih3 y hy rfl
   obtain⟨d,hd⟩:=aeP (l:=kids) fun y hy=>by obtain⟨n,h,_⟩:=(hS y hy).2.2;exact⟨n,h⟩
   have e:wS (p7 m) fS (.agg [.int .u8 op,.int .i64 n,.str s,.str t_,.sl names,.sl kids])=Xs (p7 m) (d+1) (.agg [.int .u8 op,.int .i64 n,.str s,.str t_,.sl names,.sl kids]):=FQ fun y hy=>by
    obtain⟨k,h,e⟩:=(hS y hy).2.2
    rw[e];exact Dm _ _ _ h (hd y hy)
   refine⟨_,Cx m op n s t_ names kids h0 h1 h2 h3 fS (fun y hy=>(hS y hy).1),fun h=> ?_,d+1,hd,e⟩
   obtain⟨h4,h5⟩:=JL.1 h
   exact Rt.mk op n s t_ names kids (Vd (.bJ op n s t_ names kids h0 h1 h2 h3) h4) fun y hy=>(hS y hy).2.1 (h5 y hy)
  |_=>intro hk;cases hk
 exact eF fun x hx=>key _ x hx rfl
theorem x9 (m:Int):∃F:Tree→Int,∀x,(T .bJ x)→R1 (cf m) 9 x (.int .i64 (F x))∧(((F x)=0→Rt x)∧∃n,Dx n x∧(F x)=Mp (Xs (p7 m) n x)):=by
  refine wT (P:=fun x=>T .bJ x) (mk:=fun(r:Int)=>.int .i64 r) (Post:=fun x r=>(r=0→Rt x)∧∃n,Dx n x∧r=Mp (Xs (p7 m) n x)) fun x hx=> ?_
  show ∃r:{r:Int //(r=0→Rt x)∧∃n,Dx n x∧r=Mp (Xs (p7 m) n x)},ay (cf m) 9 [.t x] [] (.ret (.t (.int .i64 r.1)) [] [])
  have cv:=hx
  obtain⟨cM,n_1,s_1,qJ,gU,cm,rfl,eT,bq,jQ,dP⟩:=T.eB cv
  obtain⟨Bp,h_size⟩:=Rj m
  obtain⟨ev,ai,Iq⟩:∃ev,aF (cf m) ev∧Has ev 22 (jP (fun x=>T .bJ x) (fun x=>.bX [.int .i64 (Bp x).1,.int .i64 (Bp x).2.1,.bool (Bp x).2.2])):=⟨_,(ax (bp (fun x h=>(h_size x h).1)) aH),az⟩
  refine AX.start 21 1 Tryz.func9 rfl (by decide) rfl rfl (by decide) ?_
  refine AX.frames ?_
  have hp2:=(h_size (.agg [.int .u8 cM,.int .i64 n_1,.str s_1,.str qJ,.sl gU,.sl cm]) cv).2
  rcases aK ((!(Bp (.agg [.int .u8 cM,.int .i64 n_1,.str s_1,.str qJ,.sl gU,.sl cm])).2.2)) with bM|bM
  ·
   refine⟨⟨5, ?_⟩,kF ah ai [oC (bf Iq (x:=.agg [.int .u8 cM,.int .i64 n_1,.str s_1,.str qJ,.sl gU,.sl cm]) cv),oB bM] (by kernel_rfl)⟩
   exact⟨fun h=>absurd h (by decide),by
     obtain⟨_,n,hn,e⟩:=hp2
     refine⟨n,hn, ?_⟩
     rw[← e]
     unfold Mp
     rw[if_pos (fJ bM)]⟩
  ·
   rcases aK (decide ((Bp (.agg [.int .u8 cM,.int .i64 n_1,.str s_1,.str qJ,.sl gU,.sl cm])).1>16)) with s5|s5
   ·
    have H8:=of_decide_eq_true s5
    refine⟨⟨4, ?_⟩,kF ah ai [oC (bf Iq (x:=.agg [.int .u8 cM,.int .i64 n_1,.str s_1,.str qJ,.sl gU,.sl cm]) cv),oB bM,oB s5] (by kernel_rfl)⟩
    exact⟨fun h=>absurd h (by decide),by
      obtain⟨_,n,hn,e⟩:=hp2
      refine⟨n,hn, ?_⟩
      rw[← e]
      unfold Mp
      rw[if_neg (by rw[(dJ bM)];decide)]
      rw[if_pos (of_decide_eq_true s5)]⟩
   ·
    have H8:=of_decide_eq_false s5
    rcases aK (decide ((Bp (.agg [.int .u8 cM,.int .i64 n_1,.str s_1,.str qJ,.sl gU,.sl cm])).2.1>128)) with kC|kC
    ·
     have vJ:=of_decide_eq_true kC
     refine⟨⟨2, ?_⟩,kF ah ai [oC (bf Iq (x:=.agg [.int .u8 cM,.int .i64 n_1,.str s_1,.str qJ,.sl gU,.sl cm]) cv),oB bM,oB s5,oB kC] (by kernel_rfl)⟩
     exact⟨fun h=>absurd h (by decide),by
       obtain⟨_,n,hn,e⟩:=hp2
       refine⟨n,hn, ?_⟩
       rw[← e]
       unfold Mp
       rw[if_neg (by rw[(dJ bM)];decide)]
       rw[if_neg (of_decide_eq_false s5)]
       rw[if_pos (of_decide_eq_true kC)]⟩
    ·
     have vJ:=of_decide_eq_false kC
     refine⟨⟨0, ?_⟩,kF ah ai [oC (bf Iq (x:=.agg [.int .u8 cM,.int .i64 n_1,.str s_1,.str qJ,.sl gU,.sl cm]) cv),oB bM,oB s5,oB kC] (by kernel_rfl)⟩
     exact⟨fun _=>hp2.1 (dJ bM),by
       obtain⟨_,n,hn,e⟩:=hp2
       refine⟨n,hn, ?_⟩
       rw[← e]
       unfold Mp
       rw[if_neg (by rw[(dJ bM)];decide)]
       rw[if_neg (of_decide_eq_false s5)]
       rw[if_neg (of_decide_eq_false kC)]⟩
end
end Go.Proofs.YtijfhoelihclbaaGreatDoor.w.e
