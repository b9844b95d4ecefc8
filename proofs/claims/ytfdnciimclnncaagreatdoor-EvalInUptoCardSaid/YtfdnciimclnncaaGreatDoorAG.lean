/- EvalIn: the walk. -/
import Derived.Test.YtfdnciimclnncaaGreatDoorAF
import Derived.Test.YtfdnciimclnncaaGreatDoorZ
set_option linter.unusedVariables false
set_option linter.unusedSimpArgs false
namespace Go.Proofs.YtfdnciimclnncaaGreatDoor.w.e
open Go Go.Abs
set_option maxRecDepth 100000
set_option maxHeartbeats 2000000
noncomputable section
open Go.Abs.Ty
def tyE:Tree->List UInt8
 |.agg (.str t::_)=>t
 |_=>[]
def idE:Tree->List UInt8
 |.agg (_:: .str s::_)=>s
 |_=>[]
def Pk (m:Int)(Y Z x y:Tree):Bool×Int:=Yu (ID m (Ws (idE x) (tyE x) (idE y) (tyE y)) Y Z)
def Fb (p1 p2 a1 a2 r1 r2:List UInt8)(k:Int)(bb:Bool)(n:Int)(s t:List UInt8)(ns l row:List Tree):Tree:=(lD p1 p2 a1 a2 r1 r2 k bb n s t ns l)
def Pm (p1 p2 a1 a2 r1 r2:List UInt8)(k:Int)(bb:Bool)(n:Int)(s t:List UInt8)(ns l row:List Tree):List aP:=[.cells 34 (mD p1 p2 a1 a2 r1 r2 k bb n s t ns l),.cells 35 [.t (.sl row)]]
def rI (B:List aP)(r:Bool×Int):br:=.ret (.t (.cG [.bool r.1,.int .i64 r.2])) B []
def Yj (B:List aP)(x:Tree×Tree):List TV×List aP:=(.t x.1:: .t x.2::[.ptr (.arg 0) 0,.ptr (.arg 1) 0],B)
def K4 (x:Tree×Tree):Prop:=T .aB x.1/\T .aB x.2
theorem adM {B:List aP}:∀x y,K4 x->K4 y->Yj B x=Yj B y->x=y:=λx y _ _ h=>by
 have h1:=congrArg Prod.fst h;simp only[Yj,List.cons.injEq,TV.t.injEq] at h1;exact Prod.ext h1.1 h1.2.1
def Sn (B:List aP)(x:Tree×Tree):List TV×List aP:=(.fn (.func 15) [] [.ptr (.arg 0) 0,.ptr (.arg 1) 0]:: .t x.1:: .t x.2::[],B)
theorem Wu {B:List aP}:∀x y,K4 x->K4 y->Sn B x=Sn B y->x=y:=λx y _ _ h=>by
 have h1:=congrArg Prod.fst h;simp only[Sn,List.cons.injEq,TV.t.injEq] at h1;exact Prod.ext h1.2.1 h1.2.2.1
theorem ala (m:Int)(p1 p2 a1 a2 r1 r2:List UInt8)(k:Int)(bb:Bool)(n:Int)(s t:List UInt8)(ns l row:List Tree)(hy:T .bP (lD p1 p2 a1 a2 r1 r2 k bb n s t ns l))(hz:T .aN (.sl row))(x1 x2 y1 y2:List UInt8)(hx1:x1.length<=4194304)(hx2:x2.length<=4194304)(hy1:y1.length<=4194304)(hy2:y2.length<=4194304):∃r:{r:Bool×Int // r=Yu (ID m (Ws x2 x1 y2 y1) (lD p1 p2 a1 a2 r1 r2 k bb n s t ns l) (.sl row))},ai (cf m) 15 (.t (.agg [.str x1,.str x2]):: .t (.agg [.str y1,.str y2])::[.ptr (.arg 0) 0,.ptr (.arg 1) 0]) [.cells 34 (mD p1 p2 a1 a2 r1 r2 k bb n s t ns l),.cells 35 [.t (.sl row)]] (.ret (.t (.cG [.bool r.1.1,.int .i64 r.1.2])) [.cells 34 (mD p1 p2 a1 a2 r1 r2 k bb n s t ns l),.cells 35 [.t (.sl row)]] []):=by
 obtain⟨ev,aI,arU⟩:∃ev,aC (cf m) ev/\Has ev 10 (pc3 (λx y z=>T .aM x/\T .bP y/\T .aN z) (λx y z=>.cG [.bool (Yu (ID m x y z)).1,.int .i64 (Yu (ID m x y z)).2])):=⟨_,(aq ((NP (λx y z h=>by obtain⟨⟨r,hr⟩,h2⟩:=adI m x y z h.1 h.2.1 h.2.2;subst hr;exact h2))) aF),au⟩;refine AX.start 25 4 Tryz.func15 rfl (by decide) rfl rfl (by decide) ?_;refine AX.frames ?_;obtain⟨p0,w0,Y6⟩:∃p w,Yu (ID m (Ws x2 x1 y2 y1) (lD p1 p2 a1 a2 r1 r2 k bb n s t ns l) (.sl row))=(p,w):=⟨_,_,rfl⟩;have c0:ev 10 [.t (Ws x2 x1 y2 y1),.t (lD p1 p2 a1 a2 r1 r2 k bb n s t ns l),.t (.sl row)] []=some (br.ret (.t (.cG [.bool p0,.int .i64 w0])) [] []):=(aen arU (x:=(Ws x2 x1 y2 y1)) (y:=(lD p1 p2 a1 a2 r1 r2 k bb n s t ns l)) (z:=.sl row) ⟨ah9 hx2 hx1 hy2 hy1,hy,hz⟩).trans (congrArg rB Y6);exact⟨⟨(p0,w0),Y6.symm⟩,kf ah [oC c0]⟩
theorem adN (m:Int)(p1 p2 a1 a2 r1 r2:List UInt8)(k:Int)(bb:Bool)(n:Int)(s t:List UInt8)(ns l row:List Tree)(hy:T .bP (lD p1 p2 a1 a2 r1 r2 k bb n s t ns l))(hz:T .aN (.sl row)):ko (cf m) 15 (gU (Yj (Pm p1 p2 a1 a2 r1 r2 k bb n s t ns l row)) K4 (λx=>rI (Pm p1 p2 a1 a2 r1 r2 k bb n s t ns l row) (Pk m (Fb p1 p2 a1 a2 r1 r2 k bb n s t ns l row) (.sl row) x.1 x.2))):=cW λx hx=>by
 obtain⟨x,y⟩:=x;obtain⟨g1,g2⟩:T .aB x/\T .aB y:=hx;obtain⟨a,b,rfl,ha,hb⟩:=T.bH g1;obtain⟨c,d,rfl,hc,hd⟩:=T.bH g2;obtain⟨⟨r,rfl⟩,h⟩:=ala m p1 p2 a1 a2 r1 r2 k bb n s t ns l row hy hz a b c d ha hb hc hd;exact h
theorem agT (m:Int)(p1 p2 a1 a2 r1 r2:List UInt8)(k:Int)(bb:Bool)(n:Int)(s t:List UInt8)(ns l row:List Tree)(hy:T .bP (lD p1 p2 a1 a2 r1 r2 k bb n s t ns l))(hz:T .aN (.sl row))(x1 x2 y1 y2:List UInt8)(hx1:x1.length<=4194304)(hx2:x2.length<=4194304)(hy1:y1.length<=4194304)(hy2:y2.length<=4194304):∃r:{r:Bool // r=((Pk m (Fb p1 p2 a1 a2 r1 r2 k bb n s t ns l row) (.sl row) (.agg [.str x1,.str x2]) (.agg [.str y1,.str y2])).1&&((Pk m (Fb p1 p2 a1 a2 r1 r2 k bb n s t ns l row) (.sl row) (.agg [.str x1,.str x2]) (.agg [.str y1,.str y2])).2==0))},ai (cf m) 16 (.fn (.func 15) [] [.ptr (.arg 0) 0,.ptr (.arg 1) 0]:: .t (.agg [.str x1,.str x2]):: .t (.agg [.str y1,.str y2])::[]) [.cells 34 (mD p1 p2 a1 a2 r1 r2 k bb n s t ns l),.cells 35 [.t (.sl row)]] (.ret (.t (.bool r.1)) [.cells 34 (mD p1 p2 a1 a2 r1 r2 k bb n s t ns l),.cells 35 [.t (.sl row)]] []):=by
 obtain⟨ev,aI,adO⟩:∃ev,aC (cf m) ev/\Has ev 15 (gU (Yj (Pm p1 p2 a1 a2 r1 r2 k bb n s t ns l row)) K4 (λx=>rI (Pm p1 p2 a1 a2 r1 r2 k bb n s t ns l row) (Pk m (Fb p1 p2 a1 a2 r1 r2 k bb n s t ns l row) (.sl row) x.1 x.2))):=⟨_,(aq (adN m p1 p2 a1 a2 r1 r2 k bb n s t ns l row hy hz) aF),au⟩;refine AX.start 21 3 Tryz.func16 rfl (by decide) rfl rfl (by decide) ?_;refine AX.frames ?_;have cl:∀x y p w,T .aB x->T .aB y->Pk m (Fb p1 p2 a1 a2 r1 r2 k bb n s t ns l row) (.sl row) x y=(p,w)->ev 15 (.t x:: .t y::[.ptr (.arg 0) 0,.ptr (.arg 1) 0]) [.cells 34 (mD p1 p2 a1 a2 r1 r2 k bb n s t ns l),.cells 35 [.t (.sl row)]]=some (br.ret (.t (.cG [.bool p,.int .i64 w])) [.cells 34 (mD p1 p2 a1 a2 r1 r2 k bb n s t ns l),.cells 35 [.t (.sl row)]] []):=λx y p w hx hy h=>(fu adO adM (x,y) ⟨hx,hy⟩ rfl rfl).trans (congrArg (λz=>some (rI (Pm p1 p2 a1 a2 r1 r2 k bb n s t ns l row) z)) h)
 have hX:T .aB (.agg [.str x1,.str x2]):=.aB _ _ (by assumption) (by assumption);have hY:T .aB (.agg [.str y1,.str y2]):=.aB _ _ (by assumption) (by assumption);obtain⟨p0,w0,Y6⟩:∃p w,Pk m (Fb p1 p2 a1 a2 r1 r2 k bb n s t ns l row) (.sl row) (.agg [.str x1,.str x2]) (.agg [.str y1,.str y2])=(p,w):=⟨_,_,rfl⟩;rcases aK (p0) with hg1|hg1
 ·exact⟨⟨(w0==0),by rw[Y6];simp[hg1]⟩,kf ah [oC (cl _ _ _ _ hX hY Y6),oB hg1,oB hg1,oB hg1]⟩
 ·exact⟨⟨false,by rw[Y6];simp[hg1]⟩,kf ah [oC (cl _ _ _ _ hX hY Y6),oB hg1,oB hg1,oB hg1]⟩
def rS (B:List aP)(r:Bool×Int):br:=.ret (.t (.bool (r.1&&(r.2==0)))) B []
theorem alb (m:Int)(p1 p2 a1 a2 r1 r2:List UInt8)(k:Int)(bb:Bool)(n:Int)(s t:List UInt8)(ns l row:List Tree)(hy:T .bP (lD p1 p2 a1 a2 r1 r2 k bb n s t ns l))(hz:T .aN (.sl row)):ko (cf m) 16 (gU (Sn (Pm p1 p2 a1 a2 r1 r2 k bb n s t ns l row)) K4 (λx=>rS (Pm p1 p2 a1 a2 r1 r2 k bb n s t ns l row) (Pk m (Fb p1 p2 a1 a2 r1 r2 k bb n s t ns l row) (.sl row) x.1 x.2))):=cW λx hx=>by
 obtain⟨x,y⟩:=x;obtain⟨g1,g2⟩:T .aB x/\T .aB y:=hx;obtain⟨a,b,rfl,ha,hb⟩:=T.bH g1;obtain⟨c,d,rfl,hc,hd⟩:=T.bH g2;obtain⟨⟨r,rfl⟩,h⟩:=agT m p1 p2 a1 a2 r1 r2 k bb n s t ns l row hy hz a b c d ha hb hc hd;exact h
theorem Sq (m:Int){Y:Tree}{row:List Tree}(hy:T .bP Y)(hz:T .aN (.sl row)){x1 x2 y1 y2:List UInt8}(hx1:x1.length<=4194304)(hx2:x2.length<=4194304)(hy1:y1.length<=4194304)(hy2:y2.length<=4194304)(hc:Yi m (.sl row)=0)
 (h:vp (p8 (nh m) row) [.agg [.str x1,.str x2]] (.agg [.str y1,.str y2]))(hne:Tree.agg [.str x1,.str x2]≠ .agg [.str y1,.str y2]):((Pk m Y (.sl row) (.agg [.str y1,.str y2]) (.agg [.str x1,.str x2])).1&&((Pk m Y (.sl row) (.agg [.str y1,.str y2]) (.agg [.str x1,.str x2])).2==0))=false:=by
 rcases kG m hy2 hy1 hx2 hx1 hy hz with ⟨w,hw,h1⟩|⟨b,h1,_,hb⟩
 ·rw[show Pk m Y (.sl row) (.agg [.str y1,.str y2]) (.agg [.str x1,.str x2])=(false,w) from h1];rfl
 ·rw[show Pk m Y (.sl row) (.agg [.str y1,.str y2]) (.agg [.str x1,.str x2])=(b,0) from h1];cases b with
  |false=>rfl
  |true=>exact absurd (agS m (.aB _ _ hx1 hx2) hz hc h (hb.1 rfl)).symm hne
theorem ape (m:Int)(hlv:R0 (cf m) 7 (.bool true))(p1 p2 a1 a2 r1 r2:List UInt8)(k:Int)(bb:Bool)(n:Int)(s t:List UInt8)(ns l row:List Tree)(hy:T .bP (lD p1 p2 a1 a2 r1 r2 k bb n s t ns l))(hz:T .aN (.sl row))(x1 x2 y1 y2 z1 z2:List UInt8)(hx1:x1.length<=4194304)(hx2:x2.length<=4194304)(hy1:y1.length<=4194304)(hy2:y2.length<=4194304)(hz1:z1.length<=4194304)(K8:z2.length<=4194304):ai (cf m) 5 [.t (.agg [.str x1,.str x2]),.t (.agg [.str y1,.str y2]),.t (.agg [.str z1,.str z2]),.t (lD p1 p2 a1 a2 r1 r2 k bb n s t ns l),.t (.sl row)] [] (.ret (.t (.bool true)) [] []):=by
 obtain⟨ev,aI,mU,adO,aia⟩:∃ev,aC (cf m) ev/\Has ev 7 (pc0 (.bool true))/\Has ev 15 (gU (Yj (Pm p1 p2 a1 a2 r1 r2 k bb n s t ns l row)) K4 (λx=>rI (Pm p1 p2 a1 a2 r1 r2 k bb n s t ns l row) (Pk m (Fb p1 p2 a1 a2 r1 r2 k bb n s t ns l row) (.sl row) x.1 x.2)))/\Has ev 16 (gU (Sn (Pm p1 p2 a1 a2 r1 r2 k bb n s t ns l row)) K4 (λx=>rS (Pm p1 p2 a1 a2 r1 r2 k bb n s t ns l row) (Pk m (Fb p1 p2 a1 a2 r1 r2 k bb n s t ns l row) (.sl row) x.1 x.2))):=⟨_,(aq ((aiA hlv)) (aq (adN m p1 p2 a1 a2 r1 r2 k bb n s t ns l row hy hz) (aq (alb m p1 p2 a1 a2 r1 r2 k bb n s t ns l row hy hz) aF))),au,(az rfl au),(az rfl (az rfl au))⟩;refine ai.iE ?_;refine AX.start 107 5 Tryz.func5 rfl (by decide) rfl rfl (by decide) ?_;refine AX.frames ?_;have cl:∀x y p w,T .aB x->T .aB y->Pk m (Fb p1 p2 a1 a2 r1 r2 k bb n s t ns l row) (.sl row) x y=(p,w)->ev 15 (.t x:: .t y::[.ptr (.arg 0) 0,.ptr (.arg 1) 0]) [.cells 34 (mD p1 p2 a1 a2 r1 r2 k bb n s t ns l),.cells 35 [.t (.sl row)]]=some (br.ret (.t (.cG [.bool p,.int .i64 w])) [.cells 34 (mD p1 p2 a1 a2 r1 r2 k bb n s t ns l),.cells 35 [.t (.sl row)]] []):=λx y p w hx hy h=>(fu adO adM (x,y) ⟨hx,hy⟩ rfl rfl).trans (congrArg (λz=>some (rI (Pm p1 p2 a1 a2 r1 r2 k bb n s t ns l row) z)) h)
 have hX:T .aB (.agg [.str x1,.str x2]):=.aB _ _ (by assumption) (by assumption);have hY:T .aB (.agg [.str y1,.str y2]):=.aB _ _ (by assumption) (by assumption);have hZ:T .aB (.agg [.str z1,.str z2]):=.aB _ _ (by assumption) (by assumption);rcases kG m (hx2) (hx1) (hy2) (hy1) hy hz with ⟨w0,hw0,hh0⟩|⟨b0,hh0,hc0,hb0⟩
 ·have HZ:=cl _ _ _ _ hX hY hh0;rcases kG m (hy2) (hy1) (K8) (hz1) hy hz with ⟨w1,hw1,Y3⟩|⟨b1,Y3,hc1,hb1⟩
  ·have agU:=cl _ _ _ _ hY hZ Y3;rcases kG m (hx2) (hx1) (K8) (hz1) hy hz with ⟨w2,LJ,Jg⟩|⟨b2,Jg,cm,hb2⟩
   ·rcases kG m (hx2) (hx1) (hx2) (hx1) hy hz with ⟨w3,hw3,yF⟩|⟨b3,yF,bN,UZ⟩
    ·exact⟨(),kf ah ([oC (mP mU),oF,oC HZ,oC agU,oC (cl _ _ _ _ hX hZ Jg),oC (cl _ _ _ _ hX hX yF),oB (bne_iff_ne.mpr hw0),oB (bne_iff_ne.mpr hw0),oB (bne_iff_ne.mpr hw0)]++rq 16 oT ([]))⟩
    ·obtain rfl:b3=true:=UZ.2 (.base (by simp));exact⟨(),kf ah ([oC (mP mU),oF,oC HZ,oC agU,oC (cl _ _ _ _ hX hZ Jg),oC (cl _ _ _ _ hX hX yF),oB (bne_iff_ne.mpr hw0),oB (bne_iff_ne.mpr hw0),oB (bne_iff_ne.mpr hw0)]++rq 16 oT ([]))⟩
   ·rcases kG m (hx2) (hx1) (hx2) (hx1) hy hz with ⟨w3,hw3,yF⟩|⟨b3,yF,bN,UZ⟩
    ·exact⟨(),kf ah ([oC (mP mU),oF,oC HZ,oC agU,oC (cl _ _ _ _ hX hZ Jg),oC (cl _ _ _ _ hX hX yF),oB (bne_iff_ne.mpr hw0),oB (bne_iff_ne.mpr hw0),oB (bne_iff_ne.mpr hw0)]++rq 16 oT ([]))⟩
    ·obtain rfl:b3=true:=UZ.2 (.base (by simp));exact⟨(),kf ah ([oC (mP mU),oF,oC HZ,oC agU,oC (cl _ _ _ _ hX hZ Jg),oC (cl _ _ _ _ hX hX yF),oB (bne_iff_ne.mpr hw0),oB (bne_iff_ne.mpr hw0),oB (bne_iff_ne.mpr hw0)]++rq 16 oT ([]))⟩
  ·have Sr:=cl _ _ _ _ hY hZ Y3;rcases kG m (hx2) (hx1) (K8) (hz1) hy hz with ⟨w2,LJ,Jg⟩|⟨b2,Jg,cm,hb2⟩
   ·have agV:=cl _ _ _ _ hX hZ Jg;rcases kG m (hx2) (hx1) (hx2) (hx1) hy hz with ⟨w3,hw3,yF⟩|⟨b3,yF,bN,UZ⟩
    ·rcases aK ((!b1)) with hg1|hg1
     ·exact⟨(),kf ah ([oC (mP mU),oF,oC HZ,oC Sr,oC agV,oC (cl _ _ _ _ hX hX yF),oB (bne_iff_ne.mpr hw0),oB (bne_iff_ne.mpr hw0),oB (bne_iff_ne.mpr hw0)]++rq 10 oT ([oB hg1,oB hg1,oB hg1,oT,oT,oT]))⟩
     ·exact⟨(),kf ah ([oC (mP mU),oF,oC HZ,oC Sr,oC agV,oC (cl _ _ _ _ hX hX yF),oB (bne_iff_ne.mpr hw0),oB (bne_iff_ne.mpr hw0),oB (bne_iff_ne.mpr hw0)]++rq 10 oT ([oB hg1,oB hg1,oB hg1,oB (beq_false_of_ne hw0),oB (beq_false_of_ne hw0),oB (beq_false_of_ne hw0)]))⟩
    ·obtain rfl:b3=true:=UZ.2 (.base (by simp));rcases aK ((!b1)) with hg2|hg2
     ·exact⟨(),kf ah ([oC (mP mU),oF,oC HZ,oC Sr,oC agV,oC (cl _ _ _ _ hX hX yF),oB (bne_iff_ne.mpr hw0),oB (bne_iff_ne.mpr hw0),oB (bne_iff_ne.mpr hw0)]++rq 10 oT ([oB hg2,oB hg2,oB hg2,oT,oT,oT]))⟩
     ·exact⟨(),kf ah ([oC (mP mU),oF,oC HZ,oC Sr,oC agV,oC (cl _ _ _ _ hX hX yF),oB (bne_iff_ne.mpr hw0),oB (bne_iff_ne.mpr hw0),oB (bne_iff_ne.mpr hw0)]++rq 10 oT ([oB hg2,oB hg2,oB hg2,oB (beq_false_of_ne hw0),oB (beq_false_of_ne hw0),oB (beq_false_of_ne hw0)]))⟩
   ·have agW:=cl _ _ _ _ hX hZ Jg;rcases kG m (hx2) (hx1) (hx2) (hx1) hy hz with ⟨w3,hw3,yF⟩|⟨b3,yF,bN,UZ⟩
    ·rcases aK ((!b1)) with hg3|hg3
     ·exact⟨(),kf ah ([oC (mP mU),oF,oC HZ,oC Sr,oC agW,oC (cl _ _ _ _ hX hX yF),oB (bne_iff_ne.mpr hw0),oB (bne_iff_ne.mpr hw0),oB (bne_iff_ne.mpr hw0)]++rq 10 oT ([oB hg3,oB hg3,oB hg3,oT,oT,oT]))⟩
     ·exact⟨(),kf ah ([oC (mP mU),oF,oC HZ,oC Sr,oC agW,oC (cl _ _ _ _ hX hX yF),oB (bne_iff_ne.mpr hw0),oB (bne_iff_ne.mpr hw0),oB (bne_iff_ne.mpr hw0)]++rq 10 oT ([oB hg3,oB hg3,oB hg3,oB (beq_false_of_ne hw0),oB (beq_false_of_ne hw0),oB (beq_false_of_ne hw0)]))⟩
    ·obtain rfl:b3=true:=UZ.2 (.base (by simp));rcases aK ((!b1)) with hg4|hg4
     ·exact⟨(),kf ah ([oC (mP mU),oF,oC HZ,oC Sr,oC agW,oC (cl _ _ _ _ hX hX yF),oB (bne_iff_ne.mpr hw0),oB (bne_iff_ne.mpr hw0),oB (bne_iff_ne.mpr hw0)]++rq 10 oT ([oB hg4,oB hg4,oB hg4,oT,oT,oT]))⟩
     ·exact⟨(),kf ah ([oC (mP mU),oF,oC HZ,oC Sr,oC agW,oC (cl _ _ _ _ hX hX yF),oB (bne_iff_ne.mpr hw0),oB (bne_iff_ne.mpr hw0),oB (bne_iff_ne.mpr hw0)]++rq 10 oT ([oB hg4,oB hg4,oB hg4,oB (beq_false_of_ne hw0),oB (beq_false_of_ne hw0),oB (beq_false_of_ne hw0)]))⟩
 ·have uL:=cl _ _ _ _ hX hY hh0;rcases kG m (hy2) (hy1) (K8) (hz1) hy hz with ⟨w1,hw1,Y3⟩|⟨b1,Y3,hc1,hb1⟩
  ·have Ss:=cl _ _ _ _ hY hZ Y3;rcases kG m (hx2) (hx1) (K8) (hz1) hy hz with ⟨w2,LJ,Jg⟩|⟨b2,Jg,cm,hb2⟩
   ·have agX:=cl _ _ _ _ hX hZ Jg;rcases kG m (hx2) (hx1) (hx2) (hx1) hy hz with ⟨w3,hw3,yF⟩|⟨b3,yF,bN,UZ⟩
    ·rcases aK ((!b0)) with mI|mI
     ·exact⟨(),kf ah ([oC (mP mU),oF,oC uL,oC Ss,oC agX,oC (cl _ _ _ _ hX hX yF),oF,oF,oF,oB (bne_iff_ne.mpr hw1),oB (bne_iff_ne.mpr hw1),oB (bne_iff_ne.mpr hw1)]++rq 4 oT ([oB mI,oB mI,oB mI]++rq 6 oT ([])))⟩
     ·exact⟨(),kf ah ([oC (mP mU),oF,oC uL,oC Ss,oC agX,oC (cl _ _ _ _ hX hX yF),oF,oF,oF,oB (bne_iff_ne.mpr hw1),oB (bne_iff_ne.mpr hw1),oB (bne_iff_ne.mpr hw1)]++rq 4 oT ([oB mI,oB mI,oB mI,oF,oF,oF,oT,oT,oT]))⟩
    ·obtain rfl:b3=true:=UZ.2 (.base (by simp));rcases aK ((!b0)) with nT|nT
     ·exact⟨(),kf ah ([oC (mP mU),oF,oC uL,oC Ss,oC agX,oC (cl _ _ _ _ hX hX yF),oF,oF,oF,oB (bne_iff_ne.mpr hw1),oB (bne_iff_ne.mpr hw1),oB (bne_iff_ne.mpr hw1)]++rq 4 oT ([oB nT,oB nT,oB nT]++rq 6 oT ([])))⟩
     ·exact⟨(),kf ah ([oC (mP mU),oF,oC uL,oC Ss,oC agX,oC (cl _ _ _ _ hX hX yF),oF,oF,oF,oB (bne_iff_ne.mpr hw1),oB (bne_iff_ne.mpr hw1),oB (bne_iff_ne.mpr hw1)]++rq 4 oT ([oB nT,oB nT,oB nT,oF,oF,oF,oT,oT,oT]))⟩
   ·have agY:=cl _ _ _ _ hX hZ Jg;rcases kG m (hx2) (hx1) (hx2) (hx1) hy hz with ⟨w3,hw3,yF⟩|⟨b3,yF,bN,UZ⟩
    ·rcases aK ((!b0)) with Io|Io
     ·exact⟨(),kf ah ([oC (mP mU),oF,oC uL,oC Ss,oC agY,oC (cl _ _ _ _ hX hX yF),oF,oF,oF,oB (bne_iff_ne.mpr hw1),oB (bne_iff_ne.mpr hw1),oB (bne_iff_ne.mpr hw1)]++rq 4 oT ([oB Io,oB Io,oB Io]++rq 6 oT ([])))⟩
     ·exact⟨(),kf ah ([oC (mP mU),oF,oC uL,oC Ss,oC agY,oC (cl _ _ _ _ hX hX yF),oF,oF,oF,oB (bne_iff_ne.mpr hw1),oB (bne_iff_ne.mpr hw1),oB (bne_iff_ne.mpr hw1)]++rq 4 oT ([oB Io,oB Io,oB Io,oF,oF,oF,oT,oT,oT]))⟩
    ·obtain rfl:b3=true:=UZ.2 (.base (by simp));rcases aK ((!b0)) with kA|kA
     ·exact⟨(),kf ah ([oC (mP mU),oF,oC uL,oC Ss,oC agY,oC (cl _ _ _ _ hX hX yF),oF,oF,oF,oB (bne_iff_ne.mpr hw1),oB (bne_iff_ne.mpr hw1),oB (bne_iff_ne.mpr hw1)]++rq 4 oT ([oB kA,oB kA,oB kA]++rq 6 oT ([])))⟩
     ·exact⟨(),kf ah ([oC (mP mU),oF,oC uL,oC Ss,oC agY,oC (cl _ _ _ _ hX hX yF),oF,oF,oF,oB (bne_iff_ne.mpr hw1),oB (bne_iff_ne.mpr hw1),oB (bne_iff_ne.mpr hw1)]++rq 4 oT ([oB kA,oB kA,oB kA,oF,oF,oF,oT,oT,oT]))⟩
  ·have Fc:=cl _ _ _ _ hY hZ Y3;rcases kG m (hx2) (hx1) (K8) (hz1) hy hz with ⟨w2,LJ,Jg⟩|⟨b2,Jg,cm,hb2⟩
   ·have Yk:=cl _ _ _ _ hX hZ Jg;rcases kG m (hx2) (hx1) (hx2) (hx1) hy hz with ⟨w3,hw3,yF⟩|⟨b3,yF,bN,UZ⟩
    ·have alc:=cl _ _ _ _ hX hX yF;rcases aK ((!b0)) with Gk|Gk
     ·rcases aK ((!b1)) with gF|gF
      ·exact⟨(),kf ah ([oC (mP mU),oF,oC uL,oC Fc,oC Yk,oC alc]++rq 6 oF ([oB (bne_iff_ne.mpr LJ),oB (bne_iff_ne.mpr LJ),oB (bne_iff_ne.mpr LJ),oT,oB Gk,oB Gk,oB Gk,oB gF,oB gF,oB gF,oT,oT,oT]))⟩
      ·exact⟨(),kf ah ([oC (mP mU),oF,oC uL,oC Fc,oC Yk,oC alc]++rq 6 oF ([oB (bne_iff_ne.mpr LJ),oB (bne_iff_ne.mpr LJ),oB (bne_iff_ne.mpr LJ),oT,oB Gk,oB Gk,oB Gk,oB gF,oB gF,oB gF,oT,oT,oT]))⟩
     ·exact⟨(),kf ah ([oC (mP mU),oF,oC uL,oC Fc,oC Yk,oC alc]++rq 6 oF ([oB (bne_iff_ne.mpr LJ),oB (bne_iff_ne.mpr LJ),oB (bne_iff_ne.mpr LJ),oT,oB Gk,oB Gk,oB Gk,oF,oF,oF,oT,oT,oT]))⟩
    ·obtain rfl:b3=true:=UZ.2 (.base (by simp));have ald:=cl _ _ _ _ hX hX yF;rcases aK ((!b0)) with gC|gC
     ·rcases aK ((!b1)) with eE|eE
      ·exact⟨(),kf ah ([oC (mP mU),oF,oC uL,oC Fc,oC Yk,oC ald]++rq 6 oF ([oB (bne_iff_ne.mpr LJ),oB (bne_iff_ne.mpr LJ),oB (bne_iff_ne.mpr LJ),oT,oB gC,oB gC,oB gC,oB eE,oB eE,oB eE,oT,oT,oT]))⟩
      ·exact⟨(),kf ah ([oC (mP mU),oF,oC uL,oC Fc,oC Yk,oC ald]++rq 6 oF ([oB (bne_iff_ne.mpr LJ),oB (bne_iff_ne.mpr LJ),oB (bne_iff_ne.mpr LJ),oT,oB gC,oB gC,oB gC,oB eE,oB eE,oB eE,oT,oT,oT]))⟩
     ·exact⟨(),kf ah ([oC (mP mU),oF,oC uL,oC Fc,oC Yk,oC ald]++rq 6 oF ([oB (bne_iff_ne.mpr LJ),oB (bne_iff_ne.mpr LJ),oB (bne_iff_ne.mpr LJ),oT,oB gC,oB gC,oB gC,oF,oF,oF,oT,oT,oT]))⟩
   ·have Sv:=cl _ _ _ _ hX hZ Jg;rcases kG m (hx2) (hx1) (hx2) (hx1) hy hz with ⟨w3,hw3,yF⟩|⟨b3,yF,bN,UZ⟩
    ·have ale:=cl _ _ _ _ hX hX yF;rcases aK ((!b0)) with gq|gq
     ·rcases aK ((!b1)) with jD|jD
      ·exact⟨(),kf ah ([oC (mP mU),oF,oC uL,oC Fc,oC Sv,oC ale]++rq 9 oF ([oB (bne_iff_ne.mpr hw3),oB gq,oB gq,oB gq,oB jD,oB jD,oB jD,oT,oT,oT]))⟩
      ·exact⟨(),kf ah ([oC (mP mU),oF,oC uL,oC Fc,oC Sv,oC ale]++rq 9 oF ([oB (bne_iff_ne.mpr hw3),oB gq,oB gq,oB gq,oB jD,oB jD,oB jD,oT,oT,oT]))⟩
     ·exact⟨(),kf ah ([oC (mP mU),oF,oC uL,oC Fc,oC Sv,oC ale]++rq 9 oF ([oB (bne_iff_ne.mpr hw3),oB gq,oB gq,oB gq,oF,oF,oF,oT,oT,oT]))⟩
    ·obtain rfl:b3=true:=UZ.2 (.base (by simp));have adP:=cl _ _ _ _ hX hX yF;rcases aK ((!b0)) with eM|eM
     ·exact⟨(),kf ah ([oC (mP mU),oF,oC uL,oC Fc,oC Sv,oC adP]++rq 10 oF ([oT,oT,oT,oB eM,oB eM,oT,oB eM]++rq 8 oT ([oB eM,oB eM,oB eM,oT,oB eM]++rq 9 oT ([]))))⟩
     ·have agZ:=aa2 (m:=m) (.tmp 95) (.tmp 96) x1 x2 y1 y2;rcases aK ((!b1)) with iF|iF
      ·rcases aK (((x1==y1)&&(x2==y2))) with lg|lg
       ·exact⟨(),kf ah ([oC (mP mU),oF,oC uL,oC Fc,oC Sv,oC adP]++rq 10 oF ([oT,oT,oT,oB eM,oB eM,oT,oB eM,oT,oB iF,oT,oB iF]++rq 4 oT ([oB eM,oB eM,oB eM,oO agZ.1,oT,oB eM,oT]++rq 5 (oB lg) ([oT,oB lg,oT]))))⟩
       ·have arV:K4 ((.agg [.str y1,.str y2]),(.agg [.str x1,.str x2])):=⟨(.aB _ _ bJ bJ),(.aB _ _ bJ bJ)⟩;have arW:((Pk m (Fb p1 p2 a1 a2 r1 r2 k bb n s t ns l row) (.sl row) (.agg [.str y1,.str y2]) (.agg [.str x1,.str x2])).1&&((Pk m (Fb p1 p2 a1 a2 r1 r2 k bb n s t ns l row) (.sl row) (.agg [.str y1,.str y2]) (.agg [.str x1,.str x2])).2==0))=false:=Sq m hy hz hx1 hx2 hy1 hy2 hc0 (hb0.1 (kJ eM)) (TQ lg);have c18:ev 16 (.fn (.func 15) [] [.ptr (.arg 0) 0,.ptr (.arg 1) 0]:: .t (.agg [.str y1,.str y2]):: .t (.agg [.str x1,.str x2])::[]) (Pm p1 p2 a1 a2 r1 r2 k bb n s t ns l row)=some (br.ret (.t (.bool false)) (Pm p1 p2 a1 a2 r1 r2 k bb n s t ns l row) []):=(fu aia Wu ((.agg [.str y1,.str y2]),(.agg [.str x1,.str x2])) arV rfl rfl).trans (congrArg (λz=>some (br.ret (.t (.bool z)) (Pm p1 p2 a1 a2 r1 r2 k bb n s t ns l row) [])) arW);exact⟨(),kf ah ([oC (mP mU),oF,oC uL,oC Fc,oC Sv,oC adP]++rq 10 oF ([oT,oT,oT,oB eM,oB eM,oT,oB eM,oT,oB iF,oT,oB iF]++rq 4 oT ([oB eM,oB eM,oB eM,oO agZ.1,oT,oB eM,oT]++rq 4 (oB lg) ([oC (show ev 16 (.fn (.func 15) [] [.ptr (.arg 0) 0,.ptr (.arg 1) 0]:: .t (.agg [.str y1,.str y2]):: .t (.agg [.str x1,.str x2])::[]) [.cells 34 (mD p1 p2 a1 a2 r1 r2 k bb n s t ns l),.cells 35 [.t (.sl row)]]=some (br.ret (.t (.bool false)) [.cells 34 (mD p1 p2 a1 a2 r1 r2 k bb n s t ns l),.cells 35 [.t (.sl row)]] []) from c18),oB lg,oT,oB lg,oT]))))⟩
      ·rcases aK (b2) with mH|mH
       ·rcases aK (((x1==y1)&&(x2==y2))) with Cy|Cy
        ·exact⟨(),kf ah ([oC (mP mU),oF,oC uL,oC Fc,oC Sv,oC adP]++rq 10 oF ([oT,oT,oT,oB eM,oB eM,oT,oB eM,oT,oB iF,oT,oB iF,oT,oB mH,oB mH,oB mH,oB eM,oB eM,oB eM,oO agZ.1,oB mH,oB eM,oB mH]++rq 5 (oB Cy) ([oB mH,oB Cy,oB mH])))⟩
        ·have arX:K4 ((.agg [.str y1,.str y2]),(.agg [.str x1,.str x2])):=⟨(.aB _ _ bJ bJ),(.aB _ _ bJ bJ)⟩;have arY:((Pk m (Fb p1 p2 a1 a2 r1 r2 k bb n s t ns l row) (.sl row) (.agg [.str y1,.str y2]) (.agg [.str x1,.str x2])).1&&((Pk m (Fb p1 p2 a1 a2 r1 r2 k bb n s t ns l row) (.sl row) (.agg [.str y1,.str y2]) (.agg [.str x1,.str x2])).2==0))=false:=Sq m hy hz hx1 hx2 hy1 hy2 hc0 (hb0.1 (kJ eM)) (TQ Cy);have c21:ev 16 (.fn (.func 15) [] [.ptr (.arg 0) 0,.ptr (.arg 1) 0]:: .t (.agg [.str y1,.str y2]):: .t (.agg [.str x1,.str x2])::[]) (Pm p1 p2 a1 a2 r1 r2 k bb n s t ns l row)=some (br.ret (.t (.bool false)) (Pm p1 p2 a1 a2 r1 r2 k bb n s t ns l row) []):=(fu aia Wu ((.agg [.str y1,.str y2]),(.agg [.str x1,.str x2])) arX rfl rfl).trans (congrArg (λz=>some (br.ret (.t (.bool z)) (Pm p1 p2 a1 a2 r1 r2 k bb n s t ns l row) [])) arY);exact⟨(),kf ah ([oC (mP mU),oF,oC uL,oC Fc,oC Sv,oC adP]++rq 10 oF ([oT,oT,oT,oB eM,oB eM,oT,oB eM,oT,oB iF,oT,oB iF,oT,oB mH,oB mH,oB mH,oB eM,oB eM,oB eM,oO agZ.1,oB mH,oB eM,oB mH]++rq 4 (oB Cy) ([oC (show ev 16 (.fn (.func 15) [] [.ptr (.arg 0) 0,.ptr (.arg 1) 0]:: .t (.agg [.str y1,.str y2]):: .t (.agg [.str x1,.str x2])::[]) [.cells 34 (mD p1 p2 a1 a2 r1 r2 k bb n s t ns l),.cells 35 [.t (.sl row)]]=some (br.ret (.t (.bool false)) [.cells 34 (mD p1 p2 a1 a2 r1 r2 k bb n s t ns l),.cells 35 [.t (.sl row)]] []) from c21),oB Cy,oB mH,oB Cy,oB mH])))⟩
       ·exact absurd (hb2.2 (vp.trans (λu hu=>by rw[List.mem_singleton.1 hu];exact hb0.1 (kJ eM)) (hb1.1 (kJ iF)))) (by rw[mH];decide)
end
end Go.Proofs.YtfdnciimclnncaaGreatDoor.w.e
