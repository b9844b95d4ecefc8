/- Functions of types that are fixed. -/
import Derived.Test.YtijfhoelihclbaaGreatDoorAD
import Derived.Test.YtijfhoelihclbaaGreatDoorS
namespace Go.Proofs.YtijfhoelihclbaaGreatDoor.w.e
open Go Go.Abs Go.Abs.Ty
set_option linter.unusedVariables false
set_option maxRecDepth 100000
set_option maxHeartbeats 2000000
noncomputable section
theorem BW:∀(n:Nat) (x:Tree),Dp n x→T .aB x
 |0,x,h=>by subst h;exact .aB 0 [] [] [] (by simp) (by simp) (by simp) (by simp)
 |n+1,x,⟨k,s,os,bs,e,l1,l2,h1,h2⟩=>by
  subst e
  refine .aB k s os bs l1 (fun y hy=>BW n y (h1 y hy)) l2 fun y hy=> ?_
  obtain⟨nm,r,rfl,h3⟩:=h2 y hy
  obtain⟨k2,s2,o2,b2,e2,l3,h4,l4,h5⟩:=T.aT (BW n _ h3)
  obtain rfl:=Tree.agg.inj e2
  exact .bx nm k2 s2 o2 b2 l3 h4 l4 h5
theorem Vj {x y:Tree}(hx:T .aB x)(hy:T .aB y):∃n,Dp n x∧Dp n y:=by
 obtain⟨n,h1⟩:=FU hx
 obtain⟨k,h2⟩:=FU hy
 exact⟨max n k,ve (Nat.le_max_left _ _) h1,ve (Nat.le_max_right _ _) h2⟩
theorem ab7 (m:Int):∀x,T .aB x→R1 (cf m) 46 x (pZ x):=fun x hx=>by
 obtain⟨n,h⟩:=FU hx
 exact(Y2 m n x (Dp.up _ _ h)).1
theorem afM {x:Tree}(hx:T .aB x):T .aB (pZ x):=by
 obtain⟨n,h⟩:=FU hx
 exact BW _ _ (Dp.up _ _ h).of
theorem nx:T .aB ei:=.aB 0 [] [] [] (by simp) (by simp) (by simp) (by simp)
theorem ab8 (m:Int):∀x,T .aB x→R1 (cf m) 20 x x:=fun x hx=>by
 obtain⟨n,h⟩:=FU hx
 exact Mk m n x h
theorem X7 (m:Int):∀x y,T .aB x∧T .aB y→R2 (cf m) 8 x y (.bool (same x y)):=fun x y h=>by
 obtain⟨n,h1,h2⟩:=Vj h.1 h.2
 exact NX m n x y ⟨h1,h2⟩
theorem vk (m:Int):∃J:Tree→Tree→Tree×Int,∀x y,(T .aB x∧T .aB y)→R2 (cf m) 12 x y (.bN [(J x y).1,.int .i64 (J x y).2])∧T .aB (J x y).1∧∃n,Dp n x∧Dp n y∧J x y=eW n x y:=by
 obtain⟨f,hf⟩:=dQ (α:=Tree×Tree) (β:=Tree×Int) (P:=fun p=>T .aB p.1∧T .aB p.2) (Q:=fun p r=>R2 (cf m) 12 p.1 p.2 (.bN [r.1,.int .i64 r.2])∧T .aB r.1∧∃n,Dp n p.1∧Dp n p.2∧r=eW n p.1 p.2) fun p hp=>by
  obtain⟨n,h1,h2⟩:=Vj hp.1 hp.2
  exact⟨eW n p.1 p.2,Oa m n _ _ h1 h2,BW _ _ (xV n _ _ h1 h2),n,h1,h2,rfl⟩
 exact⟨fun x y=>f (x,y),fun x y h=>hf (x,y) h⟩
def pT (m:Int):Tree→Int:=(sS m).choose
theorem OC (m:Int):∀x,T .aW x→R1 (cf m) 9 x (.int .i64 (pT m x)):=fun x h=>((sS m).choose_spec x h).1
theorem X8 (m:Int){x:Tree}(h:T .aW x)(h0:pT m x=0):Rt x:=((sS m).choose_spec x h).2.1 h0
theorem X9 (m:Int){x:Tree}(h:T .aW x):∃n,Dx n x∧pT m x=wm (zK (ny m) n x):=((sS m).choose_spec x h).2.2
def EE (m:Int):Tree→Int:=(DY m).choose
theorem Vk (m:Int){x:Tree}(h:T .eE x)(h0:EE m x=0):∀t∈Oy x,iK (aC 6 [] [] (Gu t)):=((DY m).choose_spec x h).2 h0
theorem Ya (m:Int):∀x,T .eE x→R1 (cf m) 11 x (.int .i64 (EE m x)):=fun x h=>((DY m).choose_spec x h).1
def Yb (m:Int):Tree→Int:=(zh m).choose
theorem ab9 (m:Int):∀x,T .aB x→R1 (cf m) 13 x (.int .i64 (Yb m x)):=fun x h=>((zh m).choose_spec x h).1
theorem Yc (m:Int){x:Tree}(h:T .aB x)(h0:Yb m x=0):iK x:=((zh m).choose_spec x h).2 h0
def Vl (m:Int):Tree→Int:=(uH m).choose
theorem acd (m:Int):∀x,T .cR x→R1 (cf m) 16 x (.int .i64 (Vl m x)):=fun x h=>((uH m).choose_spec x h).1
theorem Kl (m:Int){x:Tree}(h:T .cR x):Vl m x=0↔∀y∈kI x,y=.int .i64 0:=⟨((uH m).choose_spec x h).2.1,((uH m).choose_spec x h).2.2⟩
def JF (m:Int):Tree→Tree→Tree×Int:=(vk m).choose
theorem ZE (m:Int):∀x y,T .aB x∧T .aB y→R2 (cf m) 12 x y (.bN [(JF m x y).1,.int .i64 (JF m x y).2]):=fun x y h=>((vk m).choose_spec x y h).1
theorem ace (m:Int){x y:Tree}(hx:T .aB x)(hy:T .aB y):T .aB (JF m x y).1:=((vk m).choose_spec x y ⟨hx,hy⟩).2.1
theorem acf (m:Int){x y:Tree}(hx:T .aB x)(hy:T .aB y):∃n,Dp n x∧Dp n y∧JF m x y=eW n x y:=((vk m).choose_spec x y ⟨hx,hy⟩).2.2
theorem Vm (m:Int):∃F:Tree→Tree→Bool,∀x y,(x=.int .u8 0∧T .aB y)→R2 (cf m) 62 x y (.bool (F x y))∧(True):=by
 refine sL (P:=fun x y=>x=.int .u8 0∧T .aB y) (mk:=fun(r:Bool)=>.bool r) (Post:=fun x y r=>True) fun x y hx=> ?_
 obtain⟨hx,hy⟩:=hx
 show ∃r:{r:Bool // True},ay (cf m) 62 [.t x,.t y] [] (.ret (.t (.bool r.1)) [] [])
 subst hx
 have bY:=hy
 obtain⟨AA,mJ,ZF,jb,rfl,dY,bh,ji,dD⟩:=T.aT bY
 obtain⟨ev,ai⟩:∃ev,aF (cf m) ev:=⟨_,aH⟩
 refine AX.start 48 2 Tryz.func62 rfl (by decide) rfl rfl (by decide) ?_
 refine AX.frames ?_
 refine⟨⟨true, ?_⟩,kF ah ai [oF,oF,oF,oF,oF,oF,oF] (by kernel_rfl)⟩
 trivial
theorem Vn (m:Int):∃F:Tree→Tree→Bool,∀x y,(x=.int .u8 6∧T .aB y)→R2 (cf m) 62 x y (.bool (F x y))∧(True):=by
  refine sL (P:=fun x y=>x=.int .u8 6∧T .aB y) (mk:=fun(r:Bool)=>.bool r) (Post:=fun x y r=>True) fun x y hx=> ?_
  obtain⟨hx,hy⟩:=hx
  show ∃r:{r:Bool // True},ay (cf m) 62 [.t x,.t y] [] (.ret (.t (.bool r.1)) [] [])
  subst hx
  have bY:=hy
  obtain⟨AA,mJ,ZF,jb,rfl,dY,bh,ji,dD⟩:=T.aT bY
  obtain⟨ev,ai⟩:∃ev,aF (cf m) ev:=⟨_,aH⟩
  refine AX.start 48 2 Tryz.func62 rfl (by decide) rfl rfl (by decide) ?_
  refine AX.frames ?_
  rcases aL ((AA==6)) with hg2|hg2
  ·
   have G8:=eq_of_beq hg2
   refine⟨⟨true, ?_⟩,kF ah ai [oF,oF,oF,oF,oF,oT,oB hg2,oB hg2,oB hg2,oB hg2] (by kernel_rfl)⟩
   trivial
  ·
   have G8:=ne_of_beq_false hg2
   refine⟨⟨(AA==4), ?_⟩,kF ah ai [oF,oF,oF,oF,oF,oT,oB hg2,oB hg2,oB hg2,oB hg2] (by kernel_rfl)⟩
   trivial
theorem Vo (m:Int):∃F:Tree→Tree→Bool,∀x y,(x=.int .u8 7∧T .aB y)→R2 (cf m) 62 x y (.bool (F x y))∧(True):=by
  refine sL (P:=fun x y=>x=.int .u8 7∧T .aB y) (mk:=fun(r:Bool)=>.bool r) (Post:=fun x y r=>True) fun x y hx=> ?_
  obtain⟨hx,hy⟩:=hx
  show ∃r:{r:Bool // True},ay (cf m) 62 [.t x,.t y] [] (.ret (.t (.bool r.1)) [] [])
  subst hx
  have bY:=hy
  obtain⟨AA,mJ,ZF,jb,rfl,dY,bh,ji,dD⟩:=T.aT bY
  obtain⟨ev,ai,EA⟩:∃ev,aF (cf m) ev∧Has ev 46 (kY (T .aB) pZ):=⟨_,(ax (bD (ab7 m)) aH),az⟩
  refine AX.start 48 2 Tryz.func62 rfl (by decide) rfl rfl (by decide) ?_
  refine AX.frames ?_
  rcases aL ((AA==5)) with bE|bE
  ·
   have gR:=eq_of_beq bE
   have vD:=afM bY
   obtain⟨jl,name_3,nM,iy,eq_3,MJ,MK,ML,MM⟩:=T.aT vD
   rw[eq_3] at vD
   have MN:=bk EA bY
   rw[eq_3] at MN
   rcases aL ((jl==4)) with bw|bw
   ·
    have He:=eq_of_beq bw
    refine⟨⟨true, ?_⟩,kF ah ai [oF,oF,oF,oF,oF,oF,oT,oB bE,oC MN,oB bw,oB bw,oB bw,oB bw] (by kernel_rfl)⟩
    trivial
   ·
    have He:=ne_of_beq_false bw
    refine⟨⟨(jl==0), ?_⟩,kF ah ai [oF,oF,oF,oF,oF,oF,oT,oB bE,oC MN,oB bw,oB bw,oB bw,oB bw] (by kernel_rfl)⟩
    trivial
  ·
   have gR:=ne_of_beq_false bE
   refine⟨⟨(AA==4), ?_⟩,kF ah ai [oF,oF,oF,oF,oF,oF,oT,oB bE] (by kernel_rfl)⟩
   trivial
theorem ajH (m:Int)(k:Int)(s:List UInt8)(os bs:List Tree):eA (live.cfg m) (live.jG m) 300 62 [.t (.int .u8 1),.t (aC k s os bs)] []=some (.ret (.t (.bool (k==1))) [] []):=by kernel_rfl
theorem ajI (m:Int)(k:Int)(s:List UInt8)(os bs:List Tree):eA (live.cfg m) (live.jG m) 300 62 [.t (.int .u8 2),.t (aC k s os bs)] []=some (.ret (.t (.bool (k==2))) [] []):=by kernel_rfl
theorem ajJ (m:Int)(k:Int)(s:List UInt8)(os bs:List Tree):eA (live.cfg m) (live.jG m) 300 62 [.t (.int .u8 3),.t (aC k s os bs)] []=some (.ret (.t (.bool (k==3))) [] []):=by kernel_rfl
theorem ajK (m:Int)(k:Int)(s:List UInt8)(os bs:List Tree):eA (live.cfg m) (live.jG m) 300 62 [.t (.int .u8 4),.t (aC k s os bs)] []=some (.ret (.t (.bool (k==4))) [] []):=by kernel_rfl
theorem ajL (m:Int)(k:Int)(s:List UInt8)(os bs:List Tree):eA (live.cfg m) (live.jG m) 300 62 [.t (.int .u8 5),.t (aC k s os bs)] []=some (.ret (.t (.bool (k==5))) [] []):=by kernel_rfl
theorem dR {m:Int}{g:FuncId}{args:List TV}{aR:List aQ}{r:bG}(h:eA (live.cfg m) (live.jG m) 300 g args aR=some r):ay (cf m) g args aR r:=by
 rw[pF] at h
 exact fun G w vs hw hg ha hh hv=>pn (live.ah m) (live.yg m) 300 g args aR _ h G w vs hw hg ha hh hv
theorem OD (m:Int):∃f:Int→Tree→Bool,∀n x,((n=0∨n=1∨n=2∨n=3∨n=4∨n=5∨n=6∨n=7)∧T .aB x)→R2 (cf m) 62 (.int .u8 n) x (.bool (f n x)):=by
  obtain⟨f0,h0⟩:=Vm m
  obtain⟨f6,h6⟩:=Vn m
  obtain⟨f7,h7⟩:=Vo m
  obtain⟨f,hf⟩:=dQ (α:=Int×Tree) (β:=Bool) (P:=fun p=>(p.1=0∨p.1=1∨p.1=2∨p.1=3∨p.1=4∨p.1=5∨p.1=6∨p.1=7)∧T .aB p.2) (Q:=fun p r=>R2 (cf m) 62 (.int .u8 p.1) p.2 (.bool r)) fun⟨n,x⟩ ⟨hn,hx⟩=>by
    simp only at hn hx ⊢
    rcases hn with rfl|rfl|rfl|rfl|rfl|rfl|rfl|rfl
    · exact⟨_,(h0 _ _ ⟨rfl,hx⟩).1⟩
    iterate 5
      · obtain⟨k,s,os,bs,rfl,_⟩:=T.aT hx
        first|exact⟨_,dR (ajH m k s os bs)⟩|exact⟨_,dR (ajI m k s os bs)⟩|exact⟨_,dR (ajJ m k s os bs)⟩|exact⟨_,dR (ajK m k s os bs)⟩|exact⟨_,dR (ajL m k s os bs)⟩
    · exact⟨_,(h6 _ _ ⟨rfl,hx⟩).1⟩
    · exact⟨_,(h7 _ _ ⟨rfl,hx⟩).1⟩
  exact⟨fun n x=>f (n,x),fun n x h=>hf (n,x) h⟩
def HK (m:Int):Int→Tree→Bool:=(OD m).choose
theorem acg (m:Int):∀n x,((n=0∨n=1∨n=2∨n=3∨n=4∨n=5∨n=6∨n=7)∧T .aB x)→R2 (cf m) 62 (.int .u8 n) x (.bool (HK m n x)):=(OD m).choose_spec
end
end Go.Proofs.YtijfhoelihclbaaGreatDoor.w.e

namespace Go.Proofs.YtijfhoelihclbaaGreatDoor.w.e
open Go Go.Abs Go.Abs.Ty
set_option linter.unusedVariables false
set_option maxRecDepth 100000
set_option maxHeartbeats 2000000
noncomputable section
theorem Km (m:Int)(s:List UInt8):R1 (cf m) 55 (.str s) (WO s):=by
 obtain⟨ev,ai⟩:∃ev,aF (cf m) ev:=⟨_,aH⟩
 refine ay.gL ?_
 refine AX.start 5 1 Tryz.func55 rfl (by decide) rfl rfl (by decide) ?_
 refine AX.frames ?_
 exact⟨(),kF ah ai [] (by kernel_rfl)⟩
theorem OE {l:List Tree}{i:Nat}{e:Tree}(h:l[i]?=some e):l.drop i=e::l.drop (i+1):=by
 obtain⟨hi,rfl⟩:=List.getElem?_eq_some_iff.1 h
 exact List.drop_eq_getElem_cons hi
theorem Yd {J:Tree→Tree→Tree×Int}{l:List Tree}{i:Nat}{e t t':Tree}{r:Tree×Int}(he:l[i]?=some e)(hw:(J t e).2=0)(ht:(J t e).1=t')(h:br J t (l.drop i)=r):br J t' (l.drop (i+1))=r:=by
 rw[OE he] at h
 unfold br at h
 rw[if_neg (fun q=>q hw),ht] at h
 exact h
theorem ach {J:Tree→Tree→Tree×Int}{l:List Tree}{i:Nat}{e t:Tree}{w:Int}{r:Tree×Int}(he:l[i]?=some e)(hw:(J t e).2=w)(hn:w≠0)(h:br J t (l.drop i)=r):r=(ei,w):=by
 rw[OE he] at h
 unfold br at h
 subst hw
 rw[if_pos hn] at h
 exact h.symm
theorem aci {J:Tree→Tree→Tree×Int}{l:List Tree}{i:Nat}{t:Tree}{r:Tree×Int}(hi:l.length≤i)(h:br J t (l.drop i)=r):r=(t,0):=by
 rw[List.drop_of_length_le hi] at h
 exact h.symm
theorem vn {J:Tree→Tree→Tree×Int}(hJ:∀x y,T .aB x→T .aB y→T .aB (J x y).1):∀{l:List Tree} {t:Tree},T .aB t→(∀y∈l,T .aB y)→T .aB (br J t l).1
 | [],t,ht,_=>ht
 |x::r,t,ht,h=>by
  unfold br
  split
  · exact nx
  · exact vn hJ (hJ _ _ ht (h x List.mem_cons_self)) fun y hy=>h y (List.mem_cons_of_mem _ hy)
theorem QC (m:Int)(l:List Tree)(hl:l.length≤4194304)(h2:∀y∈l,T .aB y):R1 (cf m) 57 (.sl l) (.bN [(br (JF m) ei l).1,.int .i64 (br (JF m) ei l).2]):=by
 obtain⟨ev,ai,uB⟩:∃ev,aF (cf m) ev∧Has ev 12 (rD (fun x y=>T .aB x∧T .aB y) fun x y=>.bN [(JF m x y).1,.int .i64 (JF m x y).2]):=⟨_,(ax (dn (ZE m)) aH),az⟩
 refine ay.gL ?_
 refine AX.start 24 1 Tryz.func57 rfl (by decide) rfl rfl (by decide) ?_
 refine AX.seq ?_
 refine AX.region ?_
 refine au.go (f:=0) ai (ic dW rfl rfl) ?_
 refine au.go (f:=0) ai (aj rfl) ?_
 refine au.nil ?_
 refine AX.seq ?_
 refine AX.seq ?_
 refine AX.region ?_
 refine au.go (f:=0) ai (ak rfl) ?_
 refine au.go (f:=0) ai (gh rfl ig rfl) ?_
 refine au.go (f:=0) ai (ak rfl) ?_
 refine au.nil ?_
 refine AX.block ?_
 refine AX.re (Re.Xd (k:=.loc [0]) (m:=1) 2 rfl rfl Ji) ?_
 refine AX.re (Re.Xd (k:=.loc [0]) (m:=1) 3 rfl rfl Ji) ?_
 refine AX.loop (α:=Nat×Int×List UInt8×List Tree×List Tree) (fun x=>⟨bX 24 [(2,.ptr (.loc [0]) 0),(6,.t (.sl l)),(7,.t (.int .i64 ((l.length:Nat):Int))),(8,.t (.int .i64 ((x.1:Nat):Int)))],[(.loc [0],.cells 38 [.t (.int .u8 x.2.1),.t (.str x.2.2.1),.t (.sl x.2.2.2.1),.t (.sl x.2.2.2.2)])],1⟩) (fun x=>(x.1≤l.length)∧(br (JF m) (.agg [.int .u8 x.2.1,.str x.2.2.1,.sl x.2.2.2.1,.sl x.2.2.2.2]) (l.drop x.1)=br (JF m) ei l)∧(T .aB (.agg [.int .u8 x.2.1,.str x.2.2.1,.sl x.2.2.2.1,.sl x.2.2.2.2]))) (fun x=>l.length - x.1) (⟨0,0,[],[],[]⟩) (Re.sq [.loc [0]] ⟨rfl,rfl,rfl,rfl,trivial⟩ ⟨⟨.loc [0],_,rfl,rfl,.inl rfl⟩,trivial⟩ (by decide) rfl rfl (by decide)) ⟨Nat.zero_le _,rfl,nx⟩ (fun x hok=> ?_)
 obtain⟨i_1,QD,QE,QF,QG⟩:=x
 replace hok:(i_1≤l.length)∧(br (JF m) (.agg [.int .u8 QD,.str QE,.sl QF,.sl QG]) (l.drop i_1)=br (JF m) ei l)∧(T .aB (.agg [.int .u8 QD,.str QE,.sl QF,.sl QG])):=hok
 obtain⟨jR,fV,vo⟩:=hok
 show AX _ _ ⟨bX 24 [(2,.ptr (.loc [0]) 0),(6,.t (.sl l)),(7,.t (.int .i64 ((l.length:Nat):Int))),(8,.t (.int .i64 ((i_1:Nat):Int)))],[(.loc [0],.cells 38 [.t (.int .u8 QD),.t (.str QE),.t (.sl QF),.t (.sl QG)])],1⟩ _
 refine AX.seq ?_
 refine AX.region ?_
 refine au.go (f:=0) ai (gi rfl rfl) ?_
 refine au.nil ?_
 refine AX.seq ?_
 refine AX.cond rfl (fun bE=> ?_) (fun bE=> ?_)
 ·
  have gR:=of_decide_eq_true bE
  refine AX.skip ?_
  refine AX.seq ?_
  refine AX.block ?_
  refine AX.seq ?_
  refine AX.region ?_
  obtain⟨e3,iD⟩:∃e,l[i_1]?=some e:=⟨l[i_1]'(by first|omega|(simp;omega)),List.getElem?_eq_getElem _⟩
  have jw:=(h2 e3 (List.mem_of_getElem? iD))
  obtain⟨HJ,gU,OA,iw,rfl,qI,nI,qJ,lN⟩:=T.aT jw
  refine au.go (f:=0) ai (fO (m:=i_1) rfl rfl ig rfl dW iD rfl) ?_
  refine au.go (f:=0) ai (bg rfl (ld dW rfl rfl)) ?_
  refine au.go (f:=0) ai (ic dW rfl rfl) ?_
  refine au.qd (f:=0) ai (bT rfl rfl (sx dW rfl rfl)) ?_
  refine au.nil ?_
  refine AX.seq ?_
  refine AX.region ?_
  refine au.go (f:=0) ai (bg rfl (ld dW rfl rfl)) ?_
  refine au.go (f:=0) ai (bg rfl (ld dW rfl rfl)) ?_
  obtain⟨w_5,acj⟩:∃w,(JF m (.agg [.int .u8 QD,.str QE,.sl QF,.sl QG]) (.agg [.int .u8 HJ,.str gU,.sl OA,.sl iw])).2=w:=⟨_,rfl⟩
  have wI:=ace m vo jw
  obtain⟨wY,sY,D1,oe,eq_6,MO,MQ,MS,MT⟩:=T.aT wI
  rw[eq_6] at wI
  have MU:=dr uB (x:=(.agg [.int .u8 QD,.str QE,.sl QF,.sl QG])) (y:=(.agg [.int .u8 HJ,.str gU,.sl OA,.sl iw])) ⟨vo,jw⟩
  rw[eq_6] at MU
  rw[acj] at MU
  refine au.go (f:=0) ai (bU (Ns rfl rfl) MU) ?_
  refine au.go (f:=0) ai (ak rfl) ?_
  refine au.go (f:=0) ai (dK rfl rfl) ?_
  refine au.go (f:=0) ai (dK rfl rfl) ?_
  refine au.qd (f:=0) ai (bT rfl rfl (sx dW rfl rfl)) ?_
  refine au.go (f:=0) ai (aj rfl) ?_
  refine au.nil ?_
  refine AX.seq ?_
  refine AX.region ?_
  refine au.go (f:=0) ai (ak rfl) ?_
  refine au.go (f:=0) ai (RZ rfl rfl) ?_
  refine au.nil ?_
  refine AX.cond rfl (fun fF=> ?_) (fun fF=> ?_)
  ·
   have wH:=aA fF
   refine AX.seq ?_
   refine AX.region ?_
   refine au.go (f:=0) ai (uV rfl Qp rfl rfl) ?_
   refine au.go (f:=0) ai (ak rfl) ?_
   refine au.qd (f:=0) ai (bT rfl rfl (sx dW rfl rfl)) ?_
   refine au.go (f:=0) ai (aj rfl) ?_
   refine au.nil ?_
   refine AX.ret ?_
   refine AX.bp ?_
   refine AX.bn ?_
   refine AX.leave (e:=.ret) (by simp) ?_
   refine AX.bp ?_
   refine AX.bn ?_
   have hres:br (JF m) ei l=(.agg [.int .u8 0,.str [],.sl [],.sl []],w_5):=ach iD acj (aA fF) fV
   show ∃_:Unit,cv (cf m) _ 0 (.ret (.t (.bN [(br (JF m) ei l).1,.int .i64 (br (JF m) ei l).2])) [] []) _ _
   rw[hres]
   exact⟨(),.inl rfl⟩
  ·
   have wH:=av fF
   refine AX.skip ?_
   refine AX.b9 ?_
   refine AX.region ?_
   refine au.go (f:=0) ai (jP rfl rfl (by omega) (by omega)) ?_
   refine au.go (f:=0) ai (ak rfl) ?_
   refine au.nil ?_
   exact⟨.inl ⟨⟨i_1+1,wY,sY,D1,oe⟩,⟨⟨(by show(i_1+1)≤l.length;first|omega|(simp only[List.length_append,List.length_cons,List.length_nil,List.length_singleton] at*;omega)|(simp;done)|(simp;omega)),(Yd iD (acj.trans (av fF)) eq_6 fV),wI⟩,(by show(l.length - (i_1+1))<(l.length - i_1);omega)⟩⟩,rfl,Re.sq [.loc [0]] ⟨rfl,rfl,rfl,rfl,trivial⟩ ⟨⟨.loc [0],_,rfl,rfl,.inl rfl⟩,trivial⟩ (by decide) rfl rfl (by decide)⟩
 ·
  have gR:=of_decide_eq_false bE
  refine AX.exit ?_
  refine AX.dU ?_
  refine AX.leave (e:=.exit 0) (by simp) ?_
  refine AX.fk ?_
  refine AX.seq ?_
  refine AX.region ?_
  refine au.go (f:=0) ai (bg rfl (ld dW rfl rfl)) ?_
  refine au.qd (f:=0) ai (bT rfl rfl (sx dW rfl rfl)) ?_
  refine au.go (f:=0) ai (aj rfl) ?_
  refine au.nil ?_
  refine AX.ret ?_
  have hres:br (JF m) ei l=(.agg [.int .u8 QD,.str QE,.sl QF,.sl QG],0):=aci (by omega) fV
  show ∃_:Unit,cv (cf m) _ 0 (.ret (.t (.bN [(br (JF m) ei l).1,.int .i64 (br (JF m) ei l).2])) [] []) _ _
  rw[hres]
  exact⟨(),.inl rfl⟩
end
end Go.Proofs.YtijfhoelihclbaaGreatDoor.w.e

namespace Go.Proofs.YtijfhoelihclbaaGreatDoor.w.e
open Go Go.Abs Go.Abs.Ty
set_option linter.unusedVariables false
set_option maxRecDepth 100000
set_option maxHeartbeats 2000000
noncomputable section
abbrev ajM:TI:={size:=2,bytes:=48,agg:=true,zero:=some (.agg [.bl,.bl]),desc:=descOf 30}
theorem ajN {m:Int}:(cf m).P.ty 30=some ajM:=by kernel_rfl
abbrev ajO:TI:={size:=3,bytes:=64,agg:=true,zero:=some (.agg [.t (.str []),.bl,.bl]),desc:=descOf 49}
theorem afN {m:Int}:(cf m).P.ty 49=some ajO:=by kernel_rfl
theorem ack {m:Int}:fN (cf m).P 49 2=some 2:=by kernel_rfl
theorem acm {m:Int}:fN (cf m).P 68 0=some 0:=by kernel_rfl
def aI:aQ:=.map [(.t (.int .u8 9),.t (.agg [.int .u8 6,.int .u8 0,.int .u8 1]),0),(.t (.int .u8 10),.t (.agg [.int .u8 4,.int .u8 0,.int .u8 1]),1),(.t (.int .u8 11),.t (.agg [.int .u8 3,.int .u8 0,.int .u8 1]),2),(.t (.int .u8 12),.t (.agg [.int .u8 1,.int .u8 0,.int .u8 1]),3),(.t (.int .u8 13),.t (.agg [.int .u8 2,.int .u8 0,.int .u8 2]),4),(.t (.int .u8 23),.t (.agg [.int .u8 4,.int .u8 7,.int .u8 1]),5),(.t (.int .u8 27),.t (.agg [.int .u8 5,.int .u8 0,.int .u8 1]),6)] 7
def aO (op:Int):Int×Int×Int:=if op=9 then(6,0,1) else if op=10 then(4,0,1) else if op=11 then(3,0,1) else if op=12 then(1,0,1) else if op=13 then(2,0,2) else if op=23 then(4,7,1) else if op=27 then(5,0,1) else if op≤16 then(1,1,1) else if op≤18 then(0,0,1) else if op≤22 then(2,2,1) else if op≤26 then(2,2,2) else(5,5,1)
def cL (E:Env):List aQ:=[.cells 68 [.t (.sl E.ts),.t (.sl E.ac),.t (.str E.p),.t (.str E.r),.t (.sl E.c),.map (.arg 1)],aI]
structure qK (E:Env):Prop where
 lt:E.ts.length≤4194304
 ht:∀y∈E.ts,T .aG y
 la:E.ac.length≤4194304
 ha:∀y∈E.ac,T .aZ y
 lc:E.c.length≤4194304
 hc:∀y∈E.c,T .bx y
theorem Kn:T .aG qB:=.aG _ _ _ (by simp) (by simp) (by simp) (by simp)
theorem afO:T .aZ Lj:=.aZ _ _ _ _ (by simp) (by simp) (by simp) (by simp) (by simp) (by simp)
theorem vp {k:K}{z:Tree}{l:List Tree}{s:List UInt8}(hz:T k z)(h:∀y∈l,T k y):T k (cu z s l).1:=by
 rcases E9 (z:=z) (s:=s) (l:=l) with e|e
 · rw[e];exact hz
 · exact h _ e
theorem ff {b:Bool}(h:b=false):¬b=true:=by rw[h];decide
theorem HM {q:Tree→Bool}{l:List Tree}(h:¬PY q l<0):∃(j:Nat) (e:Tree),PY q l=(j:Int)∧l[j]?=some e∧l.find? q=some e:=by
 unfold PY at h ⊢
 cases hf:l.findIdx? q with
 |none=>rw[hf] at h;exact absurd (by decide) h
 |some j=>
  obtain⟨hj,h1,h2⟩:=List.findIdx?_eq_some_iff_getElem.1 hf
  refine⟨j,l[j],rfl,List.getElem?_eq_getElem hj, ?_⟩
  rw[List.find?_eq_some_iff_getElem]
  exact⟨h1,j,hj,rfl,fun i hi=>by have:=h2 i hi;simpa using this⟩
theorem HN {q:Tree→Bool}{l:List Tree}(h:PY q l<0):l.find? q=none:=by
 unfold PY at h
 cases hf:l.findIdx? q with
 |none=>
  rw[List.findIdx?_eq_none_iff] at hf
  rw[List.find?_eq_none]
  intro x hx
  rw[hf x hx];decide
 |some j=>rw[hf] at h;exact absurd h (by show ¬(j:Int)<0;omega)
theorem Vp (m:Int):ay (cf m) 18 [] [] (.ret (.map (.loc [1])) [] [(.loc [1],aI)]):=dR (by kernel_rfl)
theorem afP (m:Int)(E:Env):eA (live.cfg m) (live.jG m) 300 63 [.ptr (.arg 0) 0,.t (.int .u8 9)] (cL E)=some (.ret (.t (.agg [.int .u8 (aO 9).1,.int .u8 (aO 9).2.1,.int .u8 (aO 9).2.2])) (cL E) []):=by kernel_rfl
theorem acn (m:Int)(E:Env):eA (live.cfg m) (live.jG m) 300 63 [.ptr (.arg 0) 0,.t (.int .u8 10)] (cL E)=some (.ret (.t (.agg [.int .u8 (aO 10).1,.int .u8 (aO 10).2.1,.int .u8 (aO 10).2.2])) (cL E) []):=by kernel_rfl
theorem aco (m:Int)(E:Env):eA (live.cfg m) (live.jG m) 300 63 [.ptr (.arg 0) 0,.t (.int .u8 11)] (cL E)=some (.ret (.t (.agg [.int .u8 (aO 11).1,.int .u8 (aO 11).2.1,.int .u8 (aO 11).2.2])) (cL E) []):=by kernel_rfl
theorem acp (m:Int)(E:Env):eA (live.cfg m) (live.jG m) 300 63 [.ptr (.arg 0) 0,.t (.int .u8 12)] (cL E)=some (.ret (.t (.agg [.int .u8 (aO 12).1,.int .u8 (aO 12).2.1,.int .u8 (aO 12).2.2])) (cL E) []):=by kernel_rfl
theorem acq (m:Int)(E:Env):eA (live.cfg m) (live.jG m) 300 63 [.ptr (.arg 0) 0,.t (.int .u8 13)] (cL E)=some (.ret (.t (.agg [.int .u8 (aO 13).1,.int .u8 (aO 13).2.1,.int .u8 (aO 13).2.2])) (cL E) []):=by kernel_rfl
theorem acr (m:Int)(E:Env):eA (live.cfg m) (live.jG m) 300 63 [.ptr (.arg 0) 0,.t (.int .u8 15)] (cL E)=some (.ret (.t (.agg [.int .u8 (aO 15).1,.int .u8 (aO 15).2.1,.int .u8 (aO 15).2.2])) (cL E) []):=by kernel_rfl
theorem acs (m:Int)(E:Env):eA (live.cfg m) (live.jG m) 300 63 [.ptr (.arg 0) 0,.t (.int .u8 16)] (cL E)=some (.ret (.t (.agg [.int .u8 (aO 16).1,.int .u8 (aO 16).2.1,.int .u8 (aO 16).2.2])) (cL E) []):=by kernel_rfl
theorem acu (m:Int)(E:Env):eA (live.cfg m) (live.jG m) 300 63 [.ptr (.arg 0) 0,.t (.int .u8 17)] (cL E)=some (.ret (.t (.agg [.int .u8 (aO 17).1,.int .u8 (aO 17).2.1,.int .u8 (aO 17).2.2])) (cL E) []):=by kernel_rfl
theorem acv (m:Int)(E:Env):eA (live.cfg m) (live.jG m) 300 63 [.ptr (.arg 0) 0,.t (.int .u8 18)] (cL E)=some (.ret (.t (.agg [.int .u8 (aO 18).1,.int .u8 (aO 18).2.1,.int .u8 (aO 18).2.2])) (cL E) []):=by kernel_rfl
theorem acw (m:Int)(E:Env):eA (live.cfg m) (live.jG m) 300 63 [.ptr (.arg 0) 0,.t (.int .u8 19)] (cL E)=some (.ret (.t (.agg [.int .u8 (aO 19).1,.int .u8 (aO 19).2.1,.int .u8 (aO 19).2.2])) (cL E) []):=by kernel_rfl
theorem acy (m:Int)(E:Env):eA (live.cfg m) (live.jG m) 300 63 [.ptr (.arg 0) 0,.t (.int .u8 20)] (cL E)=some (.ret (.t (.agg [.int .u8 (aO 20).1,.int .u8 (aO 20).2.1,.int .u8 (aO 20).2.2])) (cL E) []):=by kernel_rfl
theorem acz (m:Int)(E:Env):eA (live.cfg m) (live.jG m) 300 63 [.ptr (.arg 0) 0,.t (.int .u8 21)] (cL E)=some (.ret (.t (.agg [.int .u8 (aO 21).1,.int .u8 (aO 21).2.1,.int .u8 (aO 21).2.2])) (cL E) []):=by kernel_rfl
theorem acA (m:Int)(E:Env):eA (live.cfg m) (live.jG m) 300 63 [.ptr (.arg 0) 0,.t (.int .u8 22)] (cL E)=some (.ret (.t (.agg [.int .u8 (aO 22).1,.int .u8 (aO 22).2.1,.int .u8 (aO 22).2.2])) (cL E) []):=by kernel_rfl
theorem acB (m:Int)(E:Env):eA (live.cfg m) (live.jG m) 300 63 [.ptr (.arg 0) 0,.t (.int .u8 23)] (cL E)=some (.ret (.t (.agg [.int .u8 (aO 23).1,.int .u8 (aO 23).2.1,.int .u8 (aO 23).2.2])) (cL E) []):=by kernel_rfl
theorem acC (m:Int)(E:Env):eA (live.cfg m) (live.jG m) 300 63 [.ptr (.arg 0) 0,.t (.int .u8 24)] (cL E)=some (.ret (.t (.agg [.int .u8 (aO 24).1,.int .u8 (aO 24).2.1,.int .u8 (aO 24).2.2])) (cL E) []):=by kernel_rfl
theorem acD (m:Int)(E:Env):eA (live.cfg m) (live.jG m) 300 63 [.ptr (.arg 0) 0,.t (.int .u8 25)] (cL E)=some (.ret (.t (.agg [.int .u8 (aO 25).1,.int .u8 (aO 25).2.1,.int .u8 (aO 25).2.2])) (cL E) []):=by kernel_rfl
theorem acE (m:Int)(E:Env):eA (live.cfg m) (live.jG m) 300 63 [.ptr (.arg 0) 0,.t (.int .u8 26)] (cL E)=some (.ret (.t (.agg [.int .u8 (aO 26).1,.int .u8 (aO 26).2.1,.int .u8 (aO 26).2.2])) (cL E) []):=by kernel_rfl
theorem acF (m:Int)(E:Env):eA (live.cfg m) (live.jG m) 300 63 [.ptr (.arg 0) 0,.t (.int .u8 27)] (cL E)=some (.ret (.t (.agg [.int .u8 (aO 27).1,.int .u8 (aO 27).2.1,.int .u8 (aO 27).2.2])) (cL E) []):=by kernel_rfl
theorem acG (m:Int)(E:Env):eA (live.cfg m) (live.jG m) 300 63 [.ptr (.arg 0) 0,.t (.int .u8 28)] (cL E)=some (.ret (.t (.agg [.int .u8 (aO 28).1,.int .u8 (aO 28).2.1,.int .u8 (aO 28).2.2])) (cL E) []):=by kernel_rfl
theorem acH (m:Int)(E:Env):eA (live.cfg m) (live.jG m) 300 63 [.ptr (.arg 0) 0,.t (.int .u8 29)] (cL E)=some (.ret (.t (.agg [.int .u8 (aO 29).1,.int .u8 (aO 29).2.1,.int .u8 (aO 29).2.2])) (cL E) []):=by kernel_rfl
theorem sZ (m:Int)(E:Env)(op:Int)(h:9≤op∧op≤29∧op≠14):ay (cf m) 63 [.ptr (.arg 0) 0,.t (.int .u8 op)] (cL E) (.ret (.t (.agg [.int .u8 (aO op).1,.int .u8 (aO op).2.1,.int .u8 (aO op).2.2])) (cL E) []):=by
 have h2:op=9∨op=10∨op=11∨op=12∨op=13∨op=15∨op=16∨op=17∨op=18∨op=19∨op=20∨op=21∨op=22∨op=23∨op=24∨op=25∨op=26∨op=27∨op=28∨op=29:=by omega
 rcases h2 with rfl|rfl|rfl|rfl|rfl|rfl|rfl|rfl|rfl|rfl|rfl|rfl|rfl|rfl|rfl|rfl|rfl|rfl|rfl|rfl
 · exact dR (afP m E)
 · exact dR (acn m E)
 · exact dR (aco m E)
 · exact dR (acp m E)
 · exact dR (acq m E)
 · exact dR (acr m E)
 · exact dR (acs m E)
 · exact dR (acu m E)
 · exact dR (acv m E)
 · exact dR (acw m E)
 · exact dR (acy m E)
 · exact dR (acz m E)
 · exact dR (acA m E)
 · exact dR (acB m E)
 · exact dR (acC m E)
 · exact dR (acD m E)
 · exact dR (acE m E)
 · exact dR (acF m E)
 · exact dR (acG m E)
 · exact dR (acH m E)
theorem MV (m:Int)(E:Env)(hE:qK E)(t s:List UInt8):ay (cf m) 54 [.ptr (.arg 0) 0,.t (.str t),.t (.str s)] [.cells 68 [.t (.sl E.ts),.t (.sl E.ac),.t (.str E.p),.t (.str E.r),.t (.sl E.c),.map (.arg 1)],aI] (.ret (.t (.int .i64 (Bn E t s))) [.cells 68 [.t (.sl E.ts),.t (.sl E.ac),.t (.str E.p),.t (.str E.r),.t (.sl E.c),.map (.arg 1)],aI] []):=by
  obtain⟨lt,ht,la,ha,lc,hc⟩:=hE
  obtain⟨ev,ai,afQ,FX⟩:∃ev,aF (cf m) ev∧Has ev 95 (rD (fun x y=>x=.agg [.sl E.ts,.sl E.ac]∧∃s,y=.str s) fun _ y=>.bN [(cu Lj (Ty.strOf y) E.ac).1,.int .i64 (cu Lj (Ty.strOf y) E.ac).2])∧Has ev 17 (rD (fun x y=>x=.agg [.sl E.ts,.sl E.ac]∧∃s,y=.str s) fun _ y=>.bN [(cu qB (Ty.strOf y) E.ts).1,.int .i64 (cu qB (Ty.strOf y) E.ts).2]):=⟨_,(ax ((dn fun x y h=>by obtain⟨e,s,e2⟩:=h;subst e;subst e2;exact ab6 m E.ts E.ac lt ht la ha s)) (ax ((dn fun x y h=>by obtain⟨e,s,e2⟩:=h;subst e;subst e2;exact MI m E.ts E.ac lt ht la ha s)) aH)),az,(aq rfl az)⟩
  refine ay.gL ?_
  refine AX.start 33 3 Tryz.func54 rfl (by decide) rfl rfl (by decide) ?_
  refine AX.frames ?_
  rcases aL ((t==[65,99,116,105,111,110])) with hc1|hc1
  ·
   have Aj:=eq_of_beq hc1
   have ej2:=dr afQ (x:=.agg [.sl E.ts,.sl E.ac]) (y:=.str s) ⟨rfl,_,rfl⟩
   replace ej2:ev 95 [.t (.agg [.sl E.ts,.sl E.ac]),.t (.str s)] []=some (bG.ret (.t (.bN [(cu Lj s E.ac).1,.int .i64 (cu Lj s E.ac).2])) [] []):=ej2
   have vD:=vp (s:=s) afO ha
   obtain⟨ali,Ye,ZG,adl,eq_3,MJ,MK,ML,MM,ajP,ajQ⟩:=T.eM vD
   rw[eq_3] at vD
   have MN:=ej2
   rw[eq_3] at MN
   have hres:Bn E t s=(cu Lj s E.ac).2:=if_pos hc1
   show ∃_:Unit,KE (cf m) (cv (cf m) _ 2 (.ret (.t (.int .i64 (Bn E t s))) [.cells 68 [.t (.sl E.ts),.t (.sl E.ac),.t (.str E.p),.t (.str E.r),.t (.sl E.c),.map (.arg 1)],aI] [])) _ _ _
   rw[hres]
   exact⟨(),kF ah ai [oB hc1,oC MN] (by kernel_rfl)⟩
  ·
   have Aj:=ne_of_beq_false hc1
   have Ws:=dr FX (x:=.agg [.sl E.ts,.sl E.ac]) (y:=.str t) ⟨rfl,_,rfl⟩
   replace Ws:ev 17 [.t (.agg [.sl E.ts,.sl E.ac]),.t (.str t)] []=some (bG.ret (.t (.bN [(cu qB t E.ts).1,.int .i64 (cu qB t E.ts).2])) [] []):=Ws
   have wI:=vp (s:=t) Kn ht
   obtain⟨sY,QH,oe,eq_6,MO,MQ,MS,MT⟩:=T.bu wI
   rw[eq_6] at wI
   have MU:=Ws
   rw[eq_6] at MU
   have hres:Bn E t s=(cu qB t E.ts).2:=if_neg (ff hc1)
   show ∃_:Unit,KE (cf m) (cv (cf m) _ 2 (.ret (.t (.int .i64 (Bn E t s))) [.cells 68 [.t (.sl E.ts),.t (.sl E.ac),.t (.str E.p),.t (.str E.r),.t (.sl E.c),.map (.arg 1)],aI] [])) _ _ _
   rw[hres]
   exact⟨(),kF ah ai [oB hc1,oC MU] (by kernel_rfl)⟩
theorem Ko (m:Int)(E:Env)(hE:qK E)(s:List UInt8):ay (cf m) 56 [.ptr (.arg 0) 0,.t (.str s)] [.cells 68 [.t (.sl E.ts),.t (.sl E.ac),.t (.str E.p),.t (.str E.r),.t (.sl E.c),.map (.arg 1)],aI] (.ret (.t (qC E s)) [.cells 68 [.t (.sl E.ts),.t (.sl E.ac),.t (.str E.p),.t (.str E.r),.t (.sl E.c),.map (.arg 1)],aI] []):=by
  obtain⟨lt,ht,la,ha,lc,hc⟩:=hE
  obtain⟨ev,ai,QI⟩:∃ev,aF (cf m) ev∧Has ev 55 (kY (fun x=>∃s,x=.str s) fun x=>WO (Ty.strOf x)):=⟨_,(ax (bD fun x ⟨s,e⟩=>by subst e;exact Km m s) aH),az⟩
  refine ay.gL ?_
  refine AX.start 31 2 Tryz.func56 rfl (by decide) rfl rfl (by decide) ?_
  refine AX.frames ?_
  rcases aL ((s==[112,114,105,110,99,105,112,97,108])) with hc1|hc1
  ·
   have Aj:=eq_of_beq hc1
   have hres:qC E s=.agg [.int .u8 4,.str E.p,.sl [],.sl []]:=by
     unfold qC
     rw[if_pos hc1]
     rfl
   show ∃_:Unit,KE (cf m) (cv (cf m) _ 2 (.ret (.t (qC E s)) [.cells 68 [.t (.sl E.ts),.t (.sl E.ac),.t (.str E.p),.t (.str E.r),.t (.sl E.c),.map (.arg 1)],aI] [])) _ _ _
   rw[hres]
   exact⟨(),kF ah ai [oB hc1,oC (bk QI (x:=.str E.p) ⟨_,rfl⟩)] (by kernel_rfl)⟩
  ·
   have Aj:=ne_of_beq_false hc1
   rcases aL ((s==[97,99,116,105,111,110])) with bE|bE
   ·
    have gR:=eq_of_beq bE
    have hres:qC E s=.agg [.int .u8 4,.str [65,99,116,105,111,110],.sl [],.sl []]:=by
      unfold qC
      rw[if_neg (ff hc1)]
      rw[if_pos bE]
      rfl
    show ∃_:Unit,KE (cf m) (cv (cf m) _ 2 (.ret (.t (qC E s)) [.cells 68 [.t (.sl E.ts),.t (.sl E.ac),.t (.str E.p),.t (.str E.r),.t (.sl E.c),.map (.arg 1)],aI] [])) _ _ _
    rw[hres]
    exact⟨(),kF ah ai [oB hc1,oB bE,oC (bk QI (x:=.str [65,99,116,105,111,110]) ⟨_,rfl⟩)] (by kernel_rfl)⟩
   ·
    have gR:=ne_of_beq_false bE
    rcases aL ((s==[114,101,115,111,117,114,99,101])) with bF|bF
    ·
     have kH:=eq_of_beq bF
     have hres:qC E s=.agg [.int .u8 4,.str E.r,.sl [],.sl []]:=by
       unfold qC
       rw[if_neg (ff hc1)]
       rw[if_neg (ff bE)]
       rw[if_pos bF]
       rfl
     show ∃_:Unit,KE (cf m) (cv (cf m) _ 2 (.ret (.t (qC E s)) [.cells 68 [.t (.sl E.ts),.t (.sl E.ac),.t (.str E.p),.t (.str E.r),.t (.sl E.c),.map (.arg 1)],aI] [])) _ _ _
     rw[hres]
     exact⟨(),kF ah ai [oB hc1,oB bE,oB bF,oC (bk QI (x:=.str E.r) ⟨_,rfl⟩)] (by kernel_rfl)⟩
    ·
     have kH:=ne_of_beq_false bF
     have hres:qC E s=.agg [.int .u8 6,.str [],.sl [],.sl E.c]:=by
       unfold qC
       rw[if_neg (ff hc1)]
       rw[if_neg (ff bE)]
       rw[if_neg (ff bF)]
       rfl
     show ∃_:Unit,KE (cf m) (cv (cf m) _ 2 (.ret (.t (qC E s)) [.cells 68 [.t (.sl E.ts),.t (.sl E.ac),.t (.str E.p),.t (.str E.r),.t (.sl E.c),.map (.arg 1)],aI] [])) _ _ _
     rw[hres]
     exact⟨(),kF ah ai [oB hc1,oB bE,oB bF] (by kernel_rfl)⟩
theorem Vq (m:Int)(nm:List UInt8)(e:Tree)(he:T .bx e):RK (cf m) 100 [.ptr (.arg 0) 0] [.cells 9 [.t (.str nm)]] e (.bool (tj e==nm)):=by
 obtain⟨ev,ai⟩:∃ev,aF (cf m) ev:=⟨_,aH⟩
 refine ay.gL ?_
 have bY:=he
 obtain⟨mJ,ZH,ZI,adn,Yf,rfl,dY,bh,ji,dD⟩:=T.eY bY
 refine AX.start 8 2 Tryz.func100 rfl (by decide) rfl rfl (by decide) ?_
 refine AX.frames ?_
 exact⟨(),kF ah ai [] (by kernel_rfl)⟩
theorem Mc (m:Int)(nm:List UInt8)(l:List Tree)(hl:l.length≤4194304)(hl2:∀y∈l,T .bx y):RK (cf m) 99 [.fn (.func 100) [] [.ptr (.arg 0) 0]] [.cells 9 [.t (.str nm)]] (.sl l) (.int .i64 (PY (fun e=>tj e==nm) l)):=by
  obtain⟨ev,ai,e_q⟩:∃ev,aF (cf m) ev∧Has ev 100 (pk [.ptr (.arg 0) 0] [.cells 9 [.t (.str nm)]] (T .bx) fun x=>.bool (tj x==nm)):=⟨_,(ax ((Ft fun e he=>Vq m nm e he)) aH),az⟩
  refine ay.gL ?_
  refine AX.start 19 2 Tryz.func99 rfl (by decide) rfl rfl (by decide) ?_
  refine AX.frames ?_
  refine eF (f:=0) (n:=3000) (once:=[]) (k:=19) (T:=0) (S:=[]) (ks:=[.arg 0]) (live:=[0,1,7,8]) ah ai (α:=Nat) (fun x=>⟨bX 19 [(0,.t (.sl l)),(1,.fn (.func 100) [] [.ptr (.arg 0) 0]),(7,.t (.int .i64 ((l.length:Nat):Int))),(8,.t (.int .i64 ((x:Nat):Int)))],[(.arg 0,.cells 9 [.t (.str nm)])],0⟩) (fun x=>(x≤l.length)∧(∀j,j<x→∀x,l[j]?=some x→(fun e=>tj e==nm) x=false)) (fun x=>l.length - x) 0 (iF (Tryz.f99.body.getD .skip) 2) [] (by kernel_rfl) ⟨Nat.zero_le _,fun j hj=>absurd hj (Nat.not_lt_zero j)⟩ (fun x hok=> ?_)
  obtain⟨i_1,k3⟩:∃y,y=x:=⟨x,rfl⟩
  subst k3
  replace hok:(i_1≤l.length)∧(∀j,j<i_1→∀x,l[j]?=some x→(fun e=>tj e==nm) x=false):=hok
  obtain⟨jR,fV⟩:=hok
  rcases aL (decide (((i_1:Nat):Int)<((l.length:Nat):Int))) with bE|bE
  ·
   have gR:=of_decide_eq_true bE
   obtain⟨e3,iD⟩:=ou l i_1 (by first|omega|(simp;omega))
   have jw:=(hl2 e3 (List.mem_of_getElem? iD))
   obtain⟨gU,nu,nv,rN,lR,rfl,qI,nI,qJ,lN⟩:=T.eY jw
   rcases aL ((tj (.agg [.str gU,.int .u8 nu,.str nv,.sl rN,.sl lR])==nm)) with jX|jX
   ·
    have wG:=eq_of_beq jX
    refine kO ah ai [oB bE,oE iD,oC (Af e_q (x:=.agg [.str gU,.int .u8 nu,.str nv,.sl rN,.sl lR]) jw),oB jX] (by kernel_rfl) ?_
    exact⟨(),(by rw[show PY (fun e=>tj e==nm) l=((i_1:Nat):Int) from aaF (q:=(fun e=>tj e==nm)) fV iD jX];exact kF ah ai [] (by kernel_rfl))⟩
   ·
    have wG:=ne_of_beq_false jX
    exact⟨.inl ⟨i_1+1,⟨⟨(by show(i_1+1)≤l.length;omega),(SJ (q:=(fun e=>tj e==nm)) fV iD jX)⟩,(by show(l.length - (i_1+1))<(l.length - i_1);omega)⟩⟩,bS (f:=0) (n:=3000) (once:=[]) (k:=19) (T:=0) (S:=[]) (ks:=[.arg 0]) (live:=[0,1,7,8]) ah ai [oB bE,oE iD,oC (Af e_q (x:=.agg [.str gU,.int .u8 nu,.str nv,.sl rN,.sl lR]) jw),oB jX,oI (i_1) (by omega)] (by kernel_rfl)⟩
  ·
   have gR:=of_decide_eq_false bE
   refine kO ah ai [oB bE] (by kernel_rfl) ?_
   exact⟨(),(by rw[show PY (fun e=>tj e==nm) l=-1 from SI (fun j hj=>fV j (by omega))];exact kF ah ai [] (by kernel_rfl))⟩
theorem Yg (m:Int)(E:Env)(hE:qK E)(k:Int)(s:List UInt8)(os bs:List Tree)(nm:List UInt8)(lo:os.length≤4194304)(ho:∀y∈os,T .aB y)(lb:bs.length≤4194304)(hb:∀y∈bs,T .bx y):ay (cf m) 61 [.ptr (.arg 0) 0,.t (.agg [.int .u8 k,.str s,.sl os,.sl bs]),.t (.str nm)] [.cells 68 [.t (.sl E.ts),.t (.sl E.ac),.t (.str E.p),.t (.str E.r),.t (.sl E.c),.map (.arg 1)],aI] (.ret (.t (.bN [(dS E (aC k s os bs) nm).1,.int .i64 (dS E (aC k s os bs) nm).2])) [.cells 68 [.t (.sl E.ts),.t (.sl E.ac),.t (.str E.p),.t (.str E.r),.t (.sl E.c),.map (.arg 1)],aI] []):=by
 obtain⟨lt,ht,la,ha,lc,hc⟩:=hE
 obtain⟨ev,ai,FX,acI⟩:∃ev,aF (cf m) ev∧Has ev 17 (rD (fun x y=>x=.agg [.sl E.ts,.sl E.ac]∧∃s,y=.str s) fun _ y=>.bN [(cu qB (Ty.strOf y) E.ts).1,.int .i64 (cu qB (Ty.strOf y) E.ts).2])∧Has ev 99 (pk [.fn (.func 100) [] [.ptr (.arg 0) 0]] [.cells 9 [.t (.str nm)]] (fun x=>∃l,x=.sl l∧l.length≤4194304∧∀y∈l,T .bx y) fun x=>.int .i64 (PY (fun e=>tj e==nm) (kI x))):=⟨_,(ax ((dn fun x y h=>by obtain⟨e,s,e2⟩:=h;subst e;subst e2;exact MI m E.ts E.ac lt ht la ha s)) (ax ((Ft fun x h=>by obtain⟨l,e,h1,h2⟩:=h;subst e;exact Mc m nm l h1 h2)) aH)),az,(aq rfl az)⟩
 refine ay.gL ?_
 refine AX.start 51 3 Tryz.func61 rfl (by decide) rfl rfl (by decide) ?_
 refine AX.seq ?_
 refine AX.region ?_
 refine au.go (f:=0) ai (Fi rfl rfl) ?_
 refine au.go (f:=0) ai (Fi rfl rfl) ?_
 refine au.go (f:=0) ai (ic dW rfl rfl) ?_
 refine au.go (f:=0) ai (aj rfl) ?_
 refine au.nil ?_
 refine AX.seq ?_
 refine AX.block ?_
 refine AX.seq ?_
 refine AX.region ?_
 refine au.go (f:=0) ai (aD rfl qH rfl) ?_
 refine au.go (f:=0) ai (cD rfl (ld EB rfl rfl)) ?_
 refine au.go (f:=0) ai (fT rfl rfl) ?_
 refine au.go (f:=0) ai (ak rfl) ?_
 refine au.split 15 rfl (fun hg1=> ?_) (fun hg1=> ?_)
 ·
  have aa6:=eq_of_beq hg1
  refine au.yes (f:=0) ai rfl rfl rfl (cE hg1) (aD rfl Hl rfl) ?_
  refine au.yes (f:=0) ai rfl rfl rfl (cE hg1) (cD rfl (ld j9 rfl rfl)) ?_
  refine au.yes (f:=0) ai rfl rfl rfl (cE hg1) (YN rfl rfl) ?_
  refine au.go (f:=0) ai (bq rfl hg1 rfl rfl) ?_
  refine au.go (f:=0) ai (aj rfl) ?_
  refine au.nil ?_
  refine AX.cond rfl (fun bE=> ?_) (fun bE=> ?_)
  ·
   have gR:=ne_of_beq_false (eT bE)
   refine AX.seq ?_
   refine AX.draw (f:=0) ah ai ?_
   refine aJ.go rfl (ak rfl) ?_
   refine aJ.go rfl (Y0 rfl rfl) ?_
   refine aJ.go rfl (aD rfl acm rfl) ?_
   refine aJ.go rfl (bg rfl (ld ajN rfl rfl)) ?_
   refine aJ.go rfl (aD rfl Hl rfl) ?_
   refine aJ.go rfl (cD rfl (ld j9 rfl rfl)) ?_
   have ej3:=dr FX (x:=.agg [.sl E.ts,.sl E.ac]) (y:=.str s) ⟨rfl,_,rfl⟩
   replace ej3:ev 17 [.t (.agg [.sl E.ts,.sl E.ac]),.t (.str s)] []=some (bG.ret (.t (.bN [(cu qB s E.ts).1,.int .i64 (cu qB s E.ts).2])) [] []):=ej3
   have jw:=vp (s:=s) Kn ht
   obtain⟨gU,gW,iw,eq_4,qI,nI,qJ,lN⟩:=T.bu jw
   rw[eq_4] at jw
   have Ws:=ej3
   rw[eq_4] at Ws
   refine aJ.go rfl (bU (Ns rfl rfl) Ws) ?_
   refine aJ.go rfl (ak rfl) ?_
   refine aJ.go rfl (dK rfl rfl) ?_
   refine aJ.go rfl (dK rfl rfl) ?_
   refine aJ.go rfl (ic afN rfl rfl) ?_
   refine aJ.qd rfl (bT rfl rfl (sx afN rfl rfl)) ?_
   refine aJ.go rfl (aj rfl) ?_
   refine aJ.nil (dP rfl rfl ?_)
   refine AX.region ?_
   refine au.go (f:=0) ai (aD rfl ack rfl) ?_
   refine au.go (f:=0) ai (bg rfl (ld gK rfl rfl)) ?_
   refine au.go (f:=0) ai (aD rfl gQ rfl) ?_
   refine au.qd (f:=0) ai (bT rfl rfl (sx gK rfl rfl)) ?_
   refine au.nil ?_
   refine AX.b9 ?_
   refine AX.seq ?_
   refine AX.region ?_
   refine au.go (f:=0) ai (aD rfl gQ rfl) ?_
   refine au.go (f:=0) ai (bg rfl (ld gK rfl rfl)) ?_
   refine au.go (f:=0) ai (wC rfl rfl rfl) ?_
   refine au.go (f:=0) ai (sK (eD rfl) rfl rfl (by decide) rfl rfl (Af acI ⟨_,rfl,(by assumption),lN⟩) rfl rfl rfl) ?_
   refine au.go (f:=0) ai (aj rfl) ?_
   refine au.nil ?_
   refine AX.seq ?_
   refine AX.seq ?_
   refine AX.region ?_
   refine au.go (f:=0) ai (ak rfl) ?_
   refine au.go (f:=0) ai (gi rfl rfl) ?_
   refine au.nil ?_
   refine AX.cond rfl (fun qu=> ?_) (fun qu=> ?_)
   ·
    have G9:=of_decide_eq_true qu
    refine AX.seq ?_
    refine AX.region ?_
    refine au.go (f:=0) ai (uV rfl Qp rfl rfl) ?_
    refine au.qd (f:=0) ai (bT rfl rfl (sx dW rfl rfl)) ?_
    refine au.go (f:=0) ai (aj rfl) ?_
    refine au.nil ?_
    refine AX.ret ?_
    refine AX.bn ?_
    have hres:dS E (aC k s os bs) nm=(.agg [.int .u8 0,.str [],.sl [],.sl []],8):=by
     unfold dS
     rw[if_pos ⟨eq_of_beq hg1,ne_of_beq_false (eT bE)⟩]
     rw[show(cu qB (tyS (aC k s os bs)) E.ts).1=_ from eq_4]
     exact pE (HN G9)
    show ∃_:Unit,cv (cf m) _ 2 (.ret (.t (.bN [(dS E (aC k s os bs) nm).1,.int .i64 (dS E (aC k s os bs) nm).2])) [.cells 68 [.t (.sl E.ts),.t (.sl E.ac),.t (.str E.p),.t (.str E.r),.t (.sl E.c),.map (.arg 1)],aI] []) _ _
    rw[hres]
    exact⟨(),.inl rfl⟩
   ·
    have G9:=of_decide_eq_false qu
    refine AX.skip ?_
    refine AX.seq ?_
    refine AX.region ?_
    refine au.go (f:=0) ai (aD rfl gQ rfl) ?_
    refine au.go (f:=0) ai (bg rfl (ld gK rfl rfl)) ?_
    refine au.go (f:=0) ai (ak rfl) ?_
    obtain⟨j,e,hj,he,WT⟩:=HM G9
    have UX:=(lN e (List.mem_of_getElem? he))
    obtain⟨ajR,Kq,Kr,QJ,HO,rfl,ajS,ajT,ajU,ajV⟩:=T.eY UX
    refine au.go (f:=0) ai (fO (m:=j) rfl (by rw[← hj];rfl) gK rfl sJ he rfl) ?_
    refine au.go (f:=0) ai (aD rfl GH rfl) ?_
    refine au.go (f:=0) ai (bg rfl (ld dW rfl rfl)) ?_
    refine au.qd (f:=0) ai (bT rfl rfl (sx dW rfl rfl)) ?_
    refine au.go (f:=0) ai (aj rfl) ?_
    refine au.nil ?_
    refine AX.ret ?_
    have hres:dS E (aC k s os bs) nm=(.agg [.int .u8 Kq,.str Kr,.sl QJ,.sl HO],0):=by
     unfold dS
     rw[if_pos ⟨eq_of_beq hg1,ne_of_beq_false (eT bE)⟩]
     rw[show(cu qB (tyS (aC k s os bs)) E.ts).1=_ from eq_4]
     exact ug WT
    show ∃_:Unit,cv (cf m) _ 2 (.ret (.t (.bN [(dS E (aC k s os bs) nm).1,.int .i64 (dS E (aC k s os bs) nm).2])) [.cells 68 [.t (.sl E.ts),.t (.sl E.ac),.t (.str E.p),.t (.str E.r),.t (.sl E.c),.map (.arg 1)],aI] []) _ _
    rw[hres]
    exact⟨(),.inl rfl⟩
  ·
   have gR:=eq_of_beq (dm bE)
   refine AX.seq ?_
   refine AX.region ?_
   refine au.go (f:=0) ai (aD rfl qH rfl) ?_
   refine au.go (f:=0) ai (cD rfl (ld EB rfl rfl)) ?_
   refine au.go (f:=0) ai (RZ rfl rfl) ?_
   refine au.go (f:=0) ai (aj rfl) ?_
   refine au.nil ?_
   refine AX.cond rfl (fun fF=> ?_) (fun fF=> ?_)
   ·
    have wH:=aA fF
    refine AX.seq ?_
    refine AX.region ?_
    refine au.go (f:=0) ai (uV rfl Qp rfl rfl) ?_
    refine au.qd (f:=0) ai (bT rfl rfl (sx dW rfl rfl)) ?_
    refine au.go (f:=0) ai (aj rfl) ?_
    refine au.nil ?_
    refine AX.ret ?_
    refine AX.bp ?_
    refine AX.bn ?_
    have hres:dS E (aC k s os bs) nm=(.agg [.int .u8 0,.str [],.sl [],.sl []],7):=by
     unfold dS
     rw[if_neg (fun q=>q.2 (eq_of_beq (dm bE)))]
     refine(if_neg (aA fF)).trans ?_
     rfl
    show ∃_:Unit,cv (cf m) _ 2 (.ret (.t (.bN [(dS E (aC k s os bs) nm).1,.int .i64 (dS E (aC k s os bs) nm).2])) [.cells 68 [.t (.sl E.ts),.t (.sl E.ac),.t (.str E.p),.t (.str E.r),.t (.sl E.c),.map (.arg 1)],aI] []) _ _
    rw[hres]
    exact⟨(),.inl rfl⟩
   ·
    have wH:=av fF
    refine AX.skip ?_
    refine AX.b9 ?_
    refine AX.seq ?_
    refine AX.region ?_
    refine au.go (f:=0) ai (aD rfl gQ rfl) ?_
    refine au.go (f:=0) ai (bg rfl (ld gK rfl rfl)) ?_
    refine au.go (f:=0) ai (wC rfl rfl rfl) ?_
    refine au.go (f:=0) ai (sK (eD rfl) rfl rfl (by decide) rfl rfl (Af acI ⟨_,rfl,(by assumption),hb⟩) rfl rfl rfl) ?_
    refine au.go (f:=0) ai (aj rfl) ?_
    refine au.nil ?_
    refine AX.seq ?_
    refine AX.seq ?_
    refine AX.region ?_
    refine au.go (f:=0) ai (ak rfl) ?_
    refine au.go (f:=0) ai (gi rfl rfl) ?_
    refine au.nil ?_
    refine AX.cond rfl (fun vM=> ?_) (fun vM=> ?_)
    ·
     have Mm:=of_decide_eq_true vM
     refine AX.seq ?_
     refine AX.region ?_
     refine au.go (f:=0) ai (uV rfl Qp rfl rfl) ?_
     refine au.qd (f:=0) ai (bT rfl rfl (sx dW rfl rfl)) ?_
     refine au.go (f:=0) ai (aj rfl) ?_
     refine au.nil ?_
     refine AX.ret ?_
     refine AX.bn ?_
     have hres:dS E (aC k s os bs) nm=(.agg [.int .u8 0,.str [],.sl [],.sl []],8):=by
      unfold dS
      rw[if_neg (fun q=>q.2 (eq_of_beq (dm bE)))]
      refine(if_pos (av fF)).trans ?_
      exact pE (HN Mm)
     show ∃_:Unit,cv (cf m) _ 2 (.ret (.t (.bN [(dS E (aC k s os bs) nm).1,.int .i64 (dS E (aC k s os bs) nm).2])) [.cells 68 [.t (.sl E.ts),.t (.sl E.ac),.t (.str E.p),.t (.str E.r),.t (.sl E.c),.map (.arg 1)],aI] []) _ _
     rw[hres]
     exact⟨(),.inl rfl⟩
    ·
     have Mm:=of_decide_eq_false vM
     refine AX.skip ?_
     refine AX.seq ?_
     refine AX.region ?_
     refine au.go (f:=0) ai (aD rfl gQ rfl) ?_
     refine au.go (f:=0) ai (bg rfl (ld gK rfl rfl)) ?_
     refine au.go (f:=0) ai (ak rfl) ?_
     obtain⟨j,e,hj,he,WT⟩:=HM Mm
     have DO:=(hb e (List.mem_of_getElem? he))
     obtain⟨qx,HP,HQ,MW,EF,rfl,Oo,Oq,Ot,Ou⟩:=T.eY DO
     refine au.go (f:=0) ai (fO (m:=j) rfl (by rw[← hj];rfl) gK rfl sJ he rfl) ?_
     refine au.go (f:=0) ai (aD rfl GH rfl) ?_
     refine au.go (f:=0) ai (bg rfl (ld dW rfl rfl)) ?_
     refine au.qd (f:=0) ai (bT rfl rfl (sx dW rfl rfl)) ?_
     refine au.go (f:=0) ai (aj rfl) ?_
     refine au.nil ?_
     refine AX.ret ?_
     have hres:dS E (aC k s os bs) nm=(.agg [.int .u8 HP,.str HQ,.sl MW,.sl EF],0):=by
      unfold dS
      rw[if_neg (fun q=>q.2 (eq_of_beq (dm bE)))]
      refine(if_pos (av fF)).trans ?_
      exact ug WT
     show ∃_:Unit,cv (cf m) _ 2 (.ret (.t (.bN [(dS E (aC k s os bs) nm).1,.int .i64 (dS E (aC k s os bs) nm).2])) [.cells 68 [.t (.sl E.ts),.t (.sl E.ac),.t (.str E.p),.t (.str E.r),.t (.sl E.c),.map (.arg 1)],aI] []) _ _
     rw[hres]
     exact⟨(),.inl rfl⟩
 ·
  have aa6:=ne_of_beq_false hg1
  refine au.no rfl rfl rfl (cM hg1) ?_
  refine au.no rfl rfl rfl (cM hg1) ?_
  refine au.no rfl rfl rfl (cM hg1) ?_
  refine au.go (f:=0) ai (dI rfl hg1 rfl rfl) ?_
  refine au.go (f:=0) ai (aj rfl) ?_
  refine au.nil ?_
  refine AX.l8 rfl rfl ?_
  refine AX.seq ?_
  refine AX.region ?_
  refine au.go (f:=0) ai (aD rfl qH rfl) ?_
  refine au.go (f:=0) ai (cD rfl (ld EB rfl rfl)) ?_
  refine au.go (f:=0) ai (RZ rfl rfl) ?_
  refine au.go (f:=0) ai (aj rfl) ?_
  refine au.nil ?_
  refine AX.cond rfl (fun cN=> ?_) (fun cN=> ?_)
  ·
   have yH:=aA cN
   refine AX.seq ?_
   refine AX.region ?_
   refine au.go (f:=0) ai (uV rfl Qp rfl rfl) ?_
   refine au.qd (f:=0) ai (bT rfl rfl (sx dW rfl rfl)) ?_
   refine au.go (f:=0) ai (aj rfl) ?_
   refine au.nil ?_
   refine AX.ret ?_
   refine AX.bp ?_
   refine AX.bn ?_
   have hres:dS E (aC k s os bs) nm=(.agg [.int .u8 0,.str [],.sl [],.sl []],7):=by
    unfold dS
    rw[if_neg (fun q=>ne_of_beq_false hg1 q.1)]
    refine(if_neg (aA cN)).trans ?_
    rfl
   show ∃_:Unit,cv (cf m) _ 2 (.ret (.t (.bN [(dS E (aC k s os bs) nm).1,.int .i64 (dS E (aC k s os bs) nm).2])) [.cells 68 [.t (.sl E.ts),.t (.sl E.ac),.t (.str E.p),.t (.str E.r),.t (.sl E.c),.map (.arg 1)],aI] []) _ _
   rw[hres]
   exact⟨(),.inl rfl⟩
  ·
   have yH:=av cN
   refine AX.skip ?_
   refine AX.b9 ?_
   refine AX.seq ?_
   refine AX.region ?_
   refine au.go (f:=0) ai (aD rfl gQ rfl) ?_
   refine au.go (f:=0) ai (bg rfl (ld gK rfl rfl)) ?_
   refine au.go (f:=0) ai (wC rfl rfl rfl) ?_
   refine au.go (f:=0) ai (sK (eD rfl) rfl rfl (by decide) rfl rfl (Af acI ⟨_,rfl,(by assumption),hb⟩) rfl rfl rfl) ?_
   refine au.go (f:=0) ai (aj rfl) ?_
   refine au.nil ?_
   refine AX.seq ?_
   refine AX.seq ?_
   refine AX.region ?_
   refine au.go (f:=0) ai (ak rfl) ?_
   refine au.go (f:=0) ai (gi rfl rfl) ?_
   refine au.nil ?_
   refine AX.cond rfl (fun jv=> ?_) (fun jv=> ?_)
   ·
    have uC:=of_decide_eq_true jv
    refine AX.seq ?_
    refine AX.region ?_
    refine au.go (f:=0) ai (uV rfl Qp rfl rfl) ?_
    refine au.qd (f:=0) ai (bT rfl rfl (sx dW rfl rfl)) ?_
    refine au.go (f:=0) ai (aj rfl) ?_
    refine au.nil ?_
    refine AX.ret ?_
    refine AX.bn ?_
    have hres:dS E (aC k s os bs) nm=(.agg [.int .u8 0,.str [],.sl [],.sl []],8):=by
     unfold dS
     rw[if_neg (fun q=>ne_of_beq_false hg1 q.1)]
     refine(if_pos (av cN)).trans ?_
     exact pE (HN uC)
    show ∃_:Unit,cv (cf m) _ 2 (.ret (.t (.bN [(dS E (aC k s os bs) nm).1,.int .i64 (dS E (aC k s os bs) nm).2])) [.cells 68 [.t (.sl E.ts),.t (.sl E.ac),.t (.str E.p),.t (.str E.r),.t (.sl E.c),.map (.arg 1)],aI] []) _ _
    rw[hres]
    exact⟨(),.inl rfl⟩
   ·
    have uC:=of_decide_eq_false jv
    refine AX.skip ?_
    refine AX.seq ?_
    refine AX.region ?_
    refine au.go (f:=0) ai (aD rfl gQ rfl) ?_
    refine au.go (f:=0) ai (bg rfl (ld gK rfl rfl)) ?_
    refine au.go (f:=0) ai (ak rfl) ?_
    obtain⟨j,e,hj,he,WT⟩:=HM uC
    have afR:=(hb e (List.mem_of_getElem? he))
    obtain⟨ahc,HT,HU,MX,EG,rfl,ahd,ahe,ahf,ahg⟩:=T.eY afR
    refine au.go (f:=0) ai (fO (m:=j) rfl (by rw[← hj];rfl) gK rfl sJ he rfl) ?_
    refine au.go (f:=0) ai (aD rfl GH rfl) ?_
    refine au.go (f:=0) ai (bg rfl (ld dW rfl rfl)) ?_
    refine au.qd (f:=0) ai (bT rfl rfl (sx dW rfl rfl)) ?_
    refine au.go (f:=0) ai (aj rfl) ?_
    refine au.nil ?_
    refine AX.ret ?_
    have hres:dS E (aC k s os bs) nm=(.agg [.int .u8 HT,.str HU,.sl MX,.sl EG],0):=by
     unfold dS
     rw[if_neg (fun q=>ne_of_beq_false hg1 q.1)]
     refine(if_pos (av cN)).trans ?_
     exact ug WT
    show ∃_:Unit,cv (cf m) _ 2 (.ret (.t (.bN [(dS E (aC k s os bs) nm).1,.int .i64 (dS E (aC k s os bs) nm).2])) [.cells 68 [.t (.sl E.ts),.t (.sl E.ac),.t (.str E.p),.t (.str E.r),.t (.sl E.c),.map (.arg 1)],aI] []) _ _
    rw[hres]
    exact⟨(),.inl rfl⟩
end
end Go.Proofs.YtijfhoelihclbaaGreatDoor.w.e
