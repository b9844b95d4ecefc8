/- Policies of their own memory. -/
import Derived.Test.YtacmmaaabfhhoaaGreatDoorZ
import Derived.Test.YtacmmaaabfhhoaaGreatDoorK
import Derived.Test.YtacmmaaabfhhoaaGreatDoorC
import Derived.Test.YtacmmaaabfhhoaaGreatDoorF
import Derived.WalkKit
import Derived.OwnWalkIn
import Derived.TacticsInMore
import Derived.Shelf.Spec.SlicesInsert
import Derived.Lib.AppendZerosOnto
import Derived.Laws.NewBlocks
import Derived.Lib.Overlaps
import Derived.Test.YtacmmaaabfhhoaaGreatDoorN
import Derived.Test.YtacmmaaabfhhoaaGreatDoorW
import Derived.Test.YtacmmaaabfhhoaaGreatDoorJ
import Derived.Below
import Derived.Shelf.RegionOpenPlain
import Derived.Deep.RegionLaw
import Derived.Lib.SliceRun
import Derived.Test.YtacmmaaabfhhoaaGreatDoorA
set_option linter.unusedVariables false
set_option linter.unusedSimpArgs false
namespace Go.Proofs.YtacmmaaabfhhoaaGreatDoor.w.e
open Go Go.Abs
set_option maxRecDepth 100000
set_option maxHeartbeats 2000000
noncomputable section
abbrev agL:TI:={size:=1,bytes:=24,agg:=false,zero:=some (.bJ),desc:=.slice 48}
theorem LO {m:Int}:(cf m).P.ty 22=some agL:=by kernel_rfl
abbrev adD:TI:={size:=2,bytes:=32,agg:=true,zero:=some (.t (.agg [.str [],.str []])),desc:=descOf 24}
theorem aar {m:Int}:(cf m).P.ty 24=some adD:=by kernel_rfl
abbrev agM:TI:={size:=1,bytes:=24,agg:=false,zero:=some (.bJ),desc:=.slice 29}
theorem aas {m:Int}:(cf m).P.ty 27=some agM:=by kernel_rfl
abbrev adE:TI:={size:=7,bytes:=96,agg:=true,zero:=some (.agg [.t (.int .u8 0),.t (.bool false),.t (.int .i64 0),.t (.str []),.t (.str []),.bJ,.bJ]),desc:=descOf 29}
theorem adF {m:Int}:(cf m).P.ty 29=some adE:=by kernel_rfl
abbrev agN:TI:={size:=1,bytes:=24,agg:=false,zero:=some (.bJ),desc:=.slice 24}
theorem G5 {m:Int}:(cf m).P.ty 41=some agN:=by kernel_rfl
abbrev agO:TI:={size:=1,bytes:=24,agg:=false,zero:=some (.bJ),desc:=.slice 87}
theorem Di {m:Int}:(cf m).P.ty 44=some agO:=by kernel_rfl
abbrev adG:TI:={size:=12,bytes:=192,agg:=true,zero:=some (.agg [.t (.str []),.t (.bool false),.t (.int .u8 0),.bJ,.t (.str []),.t (.int .u8 0),.bJ,.t (.str []),.t (.int .u8 0),.bJ,.t (.str []),.bJ]),desc:=descOf 48}
theorem Xh {m:Int}:(cf m).P.ty 48=some adG:=by kernel_rfl
abbrev adH:TI:={size:=7,bytes:=104,agg:=true,zero:=some (.agg [.t (.bool false),.t (.int .u8 0),.t (.int .i64 0),.t (.str []),.t (.str []),.bJ,.bJ]),desc:=descOf 87}
theorem aat {m:Int}:(cf m).P.ty 87=some adH:=by kernel_rfl
theorem TS {m:Int}:wI (cf m).P 22 48 adG:=⟨⟨_,LO,rfl⟩,Xh,_,rfl,by decide,rfl,by decide⟩
theorem adI {m:Int}:wI (cf m).P 27 29 adE:=⟨⟨_,aas,rfl⟩,adF,_,rfl,by decide,rfl,by decide⟩
theorem Yn {m:Int}:wI (cf m).P 41 24 adD:=⟨⟨_,G5,rfl⟩,aar,_,rfl,by decide,rfl,by decide⟩
theorem Yo {m:Int}:wI (cf m).P 44 87 adH:=⟨⟨_,Di,rfl⟩,aat,_,rfl,by decide,rfl,by decide⟩
theorem G6 {m:Int}:eH (cf m).P 46 4=some 10:=by kernel_rfl
theorem LP {l:List Tree}(h:∀y∈l,T .bB y):gP true 2 l:=λy hy=>by
 obtain⟨type,IX,rfl,_,_⟩:=T.jz (h y hy);exact⟨rfl,rfl,rfl⟩
theorem kJ {l:List Tree}(h:∀y∈l,T .iw y):gP true 7 l:=λy hy=>by
 obtain⟨vN,qH,zM,uU,uV,iU,jO,rfl,_,_,_,_,_,_,_⟩:=T.oa (h y hy);exact⟨rfl,rfl,rfl⟩
theorem Ju {m:Int}{ev:aX}(az:aF (cf m) ev):ai (cf m) 72 [.t (.sl [])] [] (.ret (.t (.sl [])) [] []):=by
 refine gY 8 1 Tryz.func72 rfl (by decide) rfl rfl (by decide) ?_;refine AW.seq ?_;refine AW.region ?_;refine cD.go (f:=0) az (by first|exact bL rfl|exact aB rfl) ?_;refine cD.nil ?_;refine AW.seq ?_;refine AW.seq ?_;refine AW.region ?_;refine cD.go (f:=0) az (by first|exact fh rfl|exact au rfl) ?_;refine cD.A1 rfl rfl Di rfl (λb hb=> ?_);refine cD.nil ?_;refine AW.cond rfl (λh4=> ?_) (λh4=> ?_)
 ·refine AW.seq ?_;refine AW.region ?_;refine cD.go (f:=0) az (by first|exact bL rfl|exact aB rfl) ?_;refine cD.nil ?_;refine AW.ret ?_;exact .inl rfl
 ·refine AW.skip ?_;refine AW.seq ?_;refine AW.region ?_;refine cD.go (f:=0) az (oJ rfl Di rfl aat rfl rfl) ?_;refine cD.go (f:=0) az (by first|exact fh rfl|exact au rfl) ?_;refine cD.go (f:=0) az (xd Yo rfl rfl (.inl (.inl rfl)) (.inr (.inr ⟨_,rfl⟩))) ?_;refine cD.go (f:=0) az (by first|exact bL rfl|exact aB rfl) ?_;refine cD.nil ?_;refine AW.ret ?_;exact .inl rfl
theorem TT {m:Int}{ev:aX}(az:aF (cf m) ev)(es:List Tree)(hne:es≠ [])(hu:gP true 7 es)(hl:es.length<=4194304):
 ai (cf m) 72 [.t (.sl es)] [] (.ret (.ref (.loc [5]) 0 es.length) [] [(.loc [5],.arr (87,true) 7 false ((flat es).map .t))]):=by
 refine gY 8 1 Tryz.func72 rfl (by decide) rfl rfl (by decide) ?_
 refine AW.seq ?_
 refine AW.region ?_
 refine cD.go (f:=0) az (by first|exact bL rfl|exact aB rfl) ?_
 refine cD.nil ?_
 refine AW.seq ?_
 refine AW.seq ?_
 refine AW.region ?_
 refine cD.go (f:=0) az (by first|exact fh rfl|exact au rfl) ?_
 refine cD.A1 rfl rfl Di rfl (λb hb=> ?_)
 have hb:=hb hne
 subst hb
 refine cD.nil ?_
 refine AW.cond rfl (λh=>absurd h (by decide)) (λh=> ?_)
 refine AW.skip ?_
 refine AW.seq ?_
 refine AW.region ?_
 refine cD.go (f:=0) az (oJ rfl Di rfl aat rfl rfl) ?_
 refine cD.go (f:=0) az (by first|exact fh rfl|exact au rfl) ?_
 refine cD.go (f:=0) az (Co Yo rfl rfl (.inl rfl) hu hne (by show es.length*104<=70368744177664;omega)) ?_
 refine cD.go (f:=0) az (by first|exact bL rfl|exact aB rfl) ?_
 refine cD.nil ?_
 refine AW.ret ?_
 exact .inr (yp rfl rfl rfl)
def r6:List TV->List aO->Option bz:=λas' os=>match as',os with
 | [.t (.sl [])],[]=>some (.ret (.t (.sl [])) [] [])
 | [.t (.sl (e::es))],[]=> @ite _ (gP true 7 (e::es)/\(e::es).length<=4194304) (Classical.propDecidable _) (some (.ret (.ref (.loc [5]) 0 (e::es).length) [] [(.loc [5],.arr (87,true) 7 false ((flat (e::es)).map .t))])) none
 |_,_=>none
theorem AK (m:Int):mX (cf m) 72 r6:=λargs aP r h=>by
 unfold r6 at h;split at h
 ·cases h;exact Ju aI
 ·split at h
  ·rename_i hc;cases h;exact TT aI _ (by simp) hc.1 hc.2
  ·cases h
 ·cases h
theorem Jv {ev:aX}(h:Has ev 72 r6){es:List Tree}(hne:es≠ [])(hu:gP true 7 es)(hl:es.length<=4194304):ev 72 [.t (.sl es)] []=some (.ret (.ref (.loc [5]) 0 es.length) [] [(.loc [5],.arr (87,true) 7 false ((flat es).map .t))]):=by
 cases es with
 |nil=>exact absurd rfl hne
 |cons e es=>exact h _ _ _ (by unfold r6;exact if_pos ⟨hu,hl⟩)
theorem Jw {m:Int}{ev:aX}(az:aF (cf m) ev):ai (cf m) 74 [.t (.sl [])] [] (.ret (.t (.sl [])) [] []):=by
 refine gY 8 1 Tryz.func74 rfl (by decide) rfl rfl (by decide) ?_;refine AW.seq ?_;refine AW.region ?_;refine cD.go (f:=0) az (by first|exact bL rfl|exact aB rfl) ?_;refine cD.nil ?_;refine AW.seq ?_;refine AW.seq ?_;refine AW.region ?_;refine cD.go (f:=0) az (by first|exact fh rfl|exact au rfl) ?_;refine cD.A1 rfl rfl LO rfl (λb hb=> ?_);refine cD.nil ?_;refine AW.cond rfl (λh4=> ?_) (λh4=> ?_)
 ·refine AW.seq ?_;refine AW.region ?_;refine cD.go (f:=0) az (by first|exact bL rfl|exact aB rfl) ?_;refine cD.nil ?_;refine AW.ret ?_;exact .inl rfl
 ·refine AW.skip ?_;refine AW.seq ?_;refine AW.region ?_;refine cD.go (f:=0) az (oJ rfl LO rfl Xh rfl rfl) ?_;refine cD.go (f:=0) az (by first|exact fh rfl|exact au rfl) ?_;refine cD.go (f:=0) az (xd TS rfl rfl (.inl (.inl rfl)) (.inr (.inr ⟨_,rfl⟩))) ?_;refine cD.go (f:=0) az (by first|exact bL rfl|exact aB rfl) ?_;refine cD.nil ?_;refine AW.ret ?_;exact .inl rfl
theorem TU {m:Int}{ev:aX}(az:aF (cf m) ev)(es:List Tree)(hne:es≠ [])(hu:gP true 12 es)(hl:es.length<=4194304):
 ai (cf m) 74 [.t (.sl es)] [] (.ret (.ref (.loc [5]) 0 es.length) [] [(.loc [5],.arr (48,true) 12 false ((flat es).map .t))]):=by
 refine gY 8 1 Tryz.func74 rfl (by decide) rfl rfl (by decide) ?_
 refine AW.seq ?_
 refine AW.region ?_
 refine cD.go (f:=0) az (by first|exact bL rfl|exact aB rfl) ?_
 refine cD.nil ?_
 refine AW.seq ?_
 refine AW.seq ?_
 refine AW.region ?_
 refine cD.go (f:=0) az (by first|exact fh rfl|exact au rfl) ?_
 refine cD.A1 rfl rfl LO rfl (λb hb=> ?_)
 have hb:=hb hne
 subst hb
 refine cD.nil ?_
 refine AW.cond rfl (λh=>absurd h (by decide)) (λh=> ?_)
 refine AW.skip ?_
 refine AW.seq ?_
 refine AW.region ?_
 refine cD.go (f:=0) az (oJ rfl LO rfl Xh rfl rfl) ?_
 refine cD.go (f:=0) az (by first|exact fh rfl|exact au rfl) ?_
 refine cD.go (f:=0) az (Co TS rfl rfl (.inl rfl) hu hne (by show es.length*192<=70368744177664;omega)) ?_
 refine cD.go (f:=0) az (by first|exact bL rfl|exact aB rfl) ?_
 refine cD.nil ?_
 refine AW.ret ?_
 exact .inr (yp rfl rfl rfl)
def vt:List TV->List aO->Option bz:=λas' os=>match as',os with
 | [.t (.sl [])],[]=>some (.ret (.t (.sl [])) [] [])
 | [.t (.sl (e::es))],[]=> @ite _ (gP true 12 (e::es)/\(e::es).length<=4194304) (Classical.propDecidable _) (some (.ret (.ref (.loc [5]) 0 (e::es).length) [] [(.loc [5],.arr (48,true) 12 false ((flat (e::es)).map .t))])) none
 |_,_=>none
theorem Jx (m:Int):mX (cf m) 74 vt:=λargs aP r h=>by
 unfold vt at h;split at h
 ·cases h;exact Jw aI
 ·split at h
  ·rename_i hc;cases h;exact TU aI _ (by simp) hc.1 hc.2
  ·cases h
 ·cases h
theorem Jy {ev:aX}(h:Has ev 74 vt){es:List Tree}(hne:es≠ [])(hu:gP true 12 es)(hl:es.length<=4194304):ev 74 [.t (.sl es)] []=some (.ret (.ref (.loc [5]) 0 es.length) [] [(.loc [5],.arr (48,true) 12 false ((flat es).map .t))]):=by
 cases es with
 |nil=>exact absurd rfl hne
 |cons e es=>exact h _ _ _ (by unfold vt;exact if_pos ⟨hu,hl⟩)
theorem TW {m:Int}{ev:aX}(az:aF (cf m) ev):ai (cf m) 103 [.t (.sl [])] [] (.ret (.t (.sl [])) [] []):=by
 refine gY 8 1 Tryz.func103 rfl (by decide) rfl rfl (by decide) ?_;refine AW.seq ?_;refine AW.region ?_;refine cD.go (f:=0) az (by first|exact bL rfl|exact aB rfl) ?_;refine cD.nil ?_;refine AW.seq ?_;refine AW.seq ?_;refine AW.region ?_;refine cD.go (f:=0) az (by first|exact fh rfl|exact au rfl) ?_;refine cD.A1 rfl rfl aas rfl (λb hb=> ?_);refine cD.nil ?_;refine AW.cond rfl (λh4=> ?_) (λh4=> ?_)
 ·refine AW.seq ?_;refine AW.region ?_;refine cD.go (f:=0) az (by first|exact bL rfl|exact aB rfl) ?_;refine cD.nil ?_;refine AW.ret ?_;exact .inl rfl
 ·refine AW.skip ?_;refine AW.seq ?_;refine AW.region ?_;refine cD.go (f:=0) az (oJ rfl aas rfl adF rfl rfl) ?_;refine cD.go (f:=0) az (by first|exact fh rfl|exact au rfl) ?_;refine cD.go (f:=0) az (xd adI rfl rfl (.inl (.inl rfl)) (.inr (.inr ⟨_,rfl⟩))) ?_;refine cD.go (f:=0) az (by first|exact bL rfl|exact aB rfl) ?_;refine cD.nil ?_;refine AW.ret ?_;exact .inl rfl
theorem M1 {m:Int}{ev:aX}(az:aF (cf m) ev):ai (cf m) 71 [.t (.sl [])] [] (.ret (.t (.sl [])) [] []):=by
 refine gY 8 1 Tryz.func71 rfl (by decide) rfl rfl (by decide) ?_;refine AW.seq ?_;refine AW.region ?_;refine cD.go (f:=0) az (by first|exact bL rfl|exact aB rfl) ?_;refine cD.nil ?_;refine AW.seq ?_;refine AW.seq ?_;refine AW.region ?_;refine cD.go (f:=0) az (by first|exact fh rfl|exact au rfl) ?_;refine cD.A1 rfl rfl G5 rfl (λb hb=> ?_);refine cD.nil ?_;refine AW.cond rfl (λh4=> ?_) (λh4=> ?_)
 ·refine AW.seq ?_;refine AW.region ?_;refine cD.go (f:=0) az (by first|exact bL rfl|exact aB rfl) ?_;refine cD.nil ?_;refine AW.ret ?_;exact .inl rfl
 ·refine AW.skip ?_;refine AW.seq ?_;refine AW.region ?_;refine cD.go (f:=0) az (oJ rfl G5 rfl aar rfl rfl) ?_;refine cD.go (f:=0) az (by first|exact fh rfl|exact au rfl) ?_;refine cD.go (f:=0) az (xd Yn rfl rfl (.inl (.inl rfl)) (.inr (.inr ⟨_,rfl⟩))) ?_;refine cD.go (f:=0) az (by first|exact bL rfl|exact aB rfl) ?_;refine cD.nil ?_;refine AW.ret ?_;exact .inl rfl
theorem Xi {m:Int}{ev:aX}(az:aF (cf m) ev)(es:List Tree)(hne:es≠ [])(hu:gP true 2 es)(hl:es.length<=4194304):
 ai (cf m) 71 [.t (.sl es)] [] (.ret (.t (.sl es)) [] []):=by
 refine gY 8 1 Tryz.func71 rfl (by decide) rfl rfl (by decide) ?_
 refine AW.seq ?_
 refine AW.region ?_
 refine cD.go (f:=0) az (by first|exact bL rfl|exact aB rfl) ?_
 refine cD.nil ?_
 refine AW.seq ?_
 refine AW.seq ?_
 refine AW.region ?_
 refine cD.go (f:=0) az (by first|exact fh rfl|exact au rfl) ?_
 refine cD.A1 rfl rfl G5 rfl (λb hb=> ?_)
 have hb:=hb hne
 subst hb
 refine cD.nil ?_
 refine AW.cond rfl (λh=>absurd h (by decide)) (λh=> ?_)
 refine AW.skip ?_
 refine AW.seq ?_
 refine AW.region ?_
 refine cD.go (f:=0) az (oJ rfl G5 rfl aar rfl rfl) ?_
 refine cD.go (f:=0) az (by first|exact fh rfl|exact au rfl) ?_
 refine cD.go (f:=0) az (Co Yn rfl rfl (.inl rfl) hu hne (by show es.length*32<=70368744177664;omega)) ?_
 refine cD.go (f:=0) az (by first|exact bL rfl|exact aB rfl) ?_
 refine cD.nil ?_
 refine AW.ret ?_
 exact .inl (QI rfl (Im rfl hu (by decide) rfl rfl))
theorem TX (m:Int):∀x,T .bN x->R1 (cf m) 71 x x:=λx hx=>by
 obtain⟨l,rfl,hl,h2⟩:=T.uW hx;by_cases h:l=[]
 ·subst h;exact M1 aI
 ·exact Xi aI l h (LP h2) hl
theorem adJ (m:Int)(pm:Bool)(k1:Int)(dO:List Tree)(t1:List UInt8)(k2:Int)(dG:List Tree)(t2:List UInt8)(k3:Int)(dP:List Tree)(t3:List UInt8)(OO:dO.length<=4194304)(Dw:∀y∈dO,T .bB y)(ht1:t1.length<=4194304)(OP:dG.length<=4194304)(Du:∀y∈dG,T .bB y)(ht2:t2.length<=4194304)(OQ:dP.length<=4194304)(EX:∀y∈dP,T .bB y)(ht3:t3.length<=4194304):R1 (cf m) 29 (.agg [.bool pm,.int .u8 k1,.sl dO,.str t1,.int .u8 k2,.sl dG,.str t2,.int .u8 k3,.sl dP,.str t3,.sl []]) (.agg [.bool pm,.int .u8 k1,.sl dO,.str t1,.int .u8 k2,.sl dG,.str t2,.int .u8 k3,.sl dP,.str t3,.sl []]):=by
 obtain⟨ev,az,Dj,Aa⟩:∃ev,aF (cf m) ev/\Has ev 71 (pz (T .bN) (λx=>x))/\Has ev 72 r6:=⟨_,(av (cc (TX m)) (av (AK m) aI)),aD,(aq rfl aD)⟩;refine ai.k7 ?_;refine AX.start 48 1 Tryz.func29 rfl (by decide) rfl rfl (by decide) ?_;refine AX.frames ?_;have aau:=show([.ptr (.loc [0]) 1,.ptr (.loc [0]) 4,.ptr (.loc [0]) 7]:List TV).length=([.ptr (.loc [0]) 1,.ptr (.loc [0]) 4,.ptr (.loc [0]) 7]:List TV).length from rfl;have aav:=show(0+3) *1=([.ptr (.loc [0]) 1,.ptr (.loc [0]) 4,.ptr (.loc [0]) 7]:List TV).length from rfl;exact⟨(),DH ah 0 [2,8] [oT,oP aav,oR (0+1) 3 (by decide),oP aau,oO (show partT false 1 [.ptr (.loc [0]) 1,.ptr (.loc [0]) 4,.ptr (.loc [0]) 7] ((0+0) *1)=some (.ptr (.loc [0]) 1) from rfl),oC (cg Dj (x:=.sl dO) (.bN _ aQ Dw)),Yc 0 1 (by omega),oT,oP aav,oR (1+1) 3 (by decide),oP aau,oO (show partT false 1 [.ptr (.loc [0]) 1,.ptr (.loc [0]) 4,.ptr (.loc [0]) 7] ((0+1) *1)=some (.ptr (.loc [0]) 4) from rfl),oC (cg Dj (x:=.sl dG) (.bN _ aQ Du)),Yc 1 1 (by omega),oT,oP aav,oR (2+1) 3 (by decide),oP aau,oO (show partT false 1 [.ptr (.loc [0]) 1,.ptr (.loc [0]) 4,.ptr (.loc [0]) 7] ((0+2) *1)=some (.ptr (.loc [0]) 7) from rfl),oC (cg Dj (x:=.sl dP) (.bN _ aQ EX)),Yc 2 1 (by omega),oF,xP 72 [.t (.sl [])] (.sl []) (Aa _ _ _ rfl),oF]⟩
theorem adK (m:Int)(pm:Bool)(k1:Int)(dO:List Tree)(t1:List UInt8)(k2:Int)(dG:List Tree)(t2:List UInt8)(k3:Int)(dP:List Tree)(t3:List UInt8)(OO:dO.length<=4194304)(Dw:∀y∈dO,T .bB y)(ht1:t1.length<=4194304)(OP:dG.length<=4194304)(Du:∀y∈dG,T .bB y)(ht2:t2.length<=4194304)(OQ:dP.length<=4194304)(EX:∀y∈dP,T .bB y)(ht3:t3.length<=4194304)(cs:List Tree)(wo:cs≠ [])(hcl:cs.length<=4194304)(hcs:∀y∈cs,T .iw y):R1 (cf m) 29 (.agg [.bool pm,.int .u8 k1,.sl dO,.str t1,.int .u8 k2,.sl dG,.str t2,.int .u8 k3,.sl dP,.str t3,.sl cs]) (.agg [.bool pm,.int .u8 k1,.sl dO,.str t1,.int .u8 k2,.sl dG,.str t2,.int .u8 k3,.sl dP,.str t3,.sl cs]):=by
 obtain⟨ev,az,Dj,Aa,aaw⟩:∃ev,aF (cf m) ev/\Has ev 71 (pz (T .bN) (λx=>x))/\Has ev 72 r6/\Has ev 73 (pz (λx=>T .aK x) (λx=>x)):=⟨_,(av (cc (TX m)) (av (AK m) (av (cc (WH m)) aI))),aD,(aq rfl aD),(aq rfl (aq rfl aD))⟩;refine ai.k7 ?_;refine AX.start 48 1 Tryz.func29 rfl (by decide) rfl rfl (by decide) ?_;refine AX.frames ?_;have aax:=show([.ptr (.loc [0]) 1,.ptr (.loc [0]) 4,.ptr (.loc [0]) 7]:List TV).length=([.ptr (.loc [0]) 1,.ptr (.loc [0]) 4,.ptr (.loc [0]) 7]:List TV).length from rfl;have aay:=show(0+3) *1=([.ptr (.loc [0]) 1,.ptr (.loc [0]) 4,.ptr (.loc [0]) 7]:List TV).length from rfl;refine Pu (f:=0) (n:=3000) (once:=[2]) (k:=48) (T:=2) (S:=[.loc [0],.loc [1]]) (ks:=[.loc [0],.loc [1]]) (live:=[1,2,12]) ah az (Tryz.f29.body.getD .skip) 6 rfl (⟨dU 48 [(1,.ptr (.loc [0]) 0),(2,.ptr (.loc [1]) 0),(12,.t (.bool false))],[(.loc [0],.cells 46 [.t (.bool pm),.t (.int .u8 k1),.t (.sl dO),.t (.str t1),.t (.int .u8 k2),.t (.sl dG),.t (.str t2),.t (.int .u8 k3),.t (.sl dP),.t (.str t3),.t (.sl cs)]),(.loc [1],.cells 46 [.t (.bool false),.t (.int .u8 0),.bJ,.t (.str []),.t (.int .u8 0),.bJ,.t (.str []),.t (.int .u8 0),.bJ,.t (.str []),.bJ])],2⟩) [oT,oP aay,oR (0+1) 3 (by decide),oP aax,oO (show partT false 1 [.ptr (.loc [0]) 1,.ptr (.loc [0]) 4,.ptr (.loc [0]) 7] ((0+0) *1)=some (.ptr (.loc [0]) 1) from rfl),oC (cg Dj (x:=.sl dO) (.bN _ aQ Dw)),Yc 0 1 (by omega),oT,oP aay,oR (1+1) 3 (by decide),oP aax,oO (show partT false 1 [.ptr (.loc [0]) 1,.ptr (.loc [0]) 4,.ptr (.loc [0]) 7] ((0+1) *1)=some (.ptr (.loc [0]) 4) from rfl),oC (cg Dj (x:=.sl dG) (.bN _ aQ Du)),Yc 1 1 (by omega),oT,oP aay,oR (2+1) 3 (by decide),oP aax,oO (show partT false 1 [.ptr (.loc [0]) 1,.ptr (.loc [0]) 4,.ptr (.loc [0]) 7] ((0+2) *1)=some (.ptr (.loc [0]) 7) from rfl),oC (cg Dj (x:=.sl dP) (.bN _ aQ EX)),Yc 2 1 (by omega),oF] (by kernel_rfl) ?_;refine AX.region ?_;refine aC.go (f:=0) az (aG rfl G6 rfl) ?_;refine aC.go (f:=0) az (dQ rfl (ld Di rfl rfl)) ?_;refine aC.go (f:=0) az (nK (zn rfl) (Jv Aa wo (kJ hcs) (by assumption)) rfl k5) ?_;refine aC.go (f:=0) az (aG rfl G6 rfl) ?_;refine aC.Ch (f:=0) az (iu rfl rfl (Hs Di rfl rfl)) ?_;refine aC.nil ?_;refine kl (α:=Nat) ah 0 [2] 48 3 [.loc [0],.loc [1],.loc [4,5]] [.loc [0],.loc [1],.loc [4,5]] [1,2,30,31] (λx=>⟨dU 48 [(1,.ptr (.loc [0]) 0),(2,.ptr (.loc [1]) 0),(30,.t (.int .i64 ((cs.length:Nat):Int))),(31,.t (.int .i64 ((x:Nat):Int)))],[(.loc [0],.cells 46 [.t (.bool pm),.t (.int .u8 k1),.t (.sl dO),.t (.str t1),.t (.int .u8 k2),.t (.sl dG),.t (.str t2),.t (.int .u8 k3),.t (.sl dP),.t (.str t3),.ref (.loc [2]) 0 cs.length]),(.loc [1],.cells 46 [.t (.bool false),.t (.int .u8 0),.bJ,.t (.str []),.t (.int .u8 0),.bJ,.t (.str []),.t (.int .u8 0),.bJ,.t (.str []),.bJ]),(.loc [2],.arr (87,true) 7 false ((flat cs).map .t))],3⟩) (λx=>(x<=cs.length)) (λx=>cs.length - x) 0 (mN (Tryz.f29.body.getD .skip) 8) [oL 87 7 cs] (by show(0<=cs.length);first|trivial|omega|(refine⟨?_, ?_⟩<;>first|omega|exact SM.nil)|simp) (λx hok=> ?_);obtain⟨i_1,tX⟩:∃y,y=x:=⟨x,rfl⟩;subst tX;replace hok:(i_1<=cs.length):=hok;have tF:=hok;rcases br (decide (((i_1:Nat):Int)<((cs.length:Nat):Int))) with dF|dF
 ·have o7:=of_decide_eq_true dF;obtain⟨e3,nM⟩:=jX cs i_1;have tZ:=(hcs e3 (pE nM));obtain⟨abf,O2,TY,T3,T4,G7,Jz,rfl,xG,xH,vk,xI,vn,vp,vq⟩:=T.oa tZ;exact⟨.inl ⟨i_1+1,⟨(by show(i_1+1)<=cs.length;omega),(by show(cs.length - (i_1+1))<(cs.length - i_1);omega)⟩⟩,kri ah 0 [2] 48 3 [.loc [0],.loc [1],.loc [2]] [.loc [0],.loc [1],.loc [2]] [1,2,30,31] [oB dF,oW true 7 cs (kJ hcs),oH nM,oQ cs,oQ cs,oO (rI (m:=6) (i:=i_1) (j:=1) (gP.lens (kJ hcs)) nM (by decide)),oC (cg aaw (x:=(aM O2 TY T3 T4 G7 Jz)) (.aK _ _ _ _ _ _ (by first|assumption|omega|decide) aQ aQ aQ vn aQ vq)),oW true 7 cs (kJ hcs),oH nM,oQ cs,oQ cs,oR _ _ (Ay (j:=1) (m:=6) (gP.lens (kJ hcs)) nM (by decide)),oK (vH (j:=1) (m:=6) (gP.lens (kJ hcs)) nM (by decide)),oI (i_1) (by omega),oL 87 7 cs]⟩
 ·have o7:=of_decide_eq_false dF;refine kxi ah 0 [2] [oB dF] ?_;exact⟨(),DH ah 0 [2] [oW true 7 cs (kJ hcs)]⟩
theorem G8 (m:Int):∀x,T .bt x->R1 (cf m) 29 x x:=λx h=>by
 obtain⟨pm,k1,dO,t1,k2,dG,t2,k3,dP,t3,cs,rfl,g0,g1,g2,g3,g4,g5,g6,g7,g8,g9,g10⟩:=T.lf h;by_cases hne:cs=[]
 ·subst hne;exact adJ m pm k1 dO t1 k2 dG t2 k3 dP t3 (by assumption) (by assumption) (by assumption) (by assumption) (by assumption) (by assumption) (by assumption) (by assumption) (by assumption)
 ·exact adK m pm k1 dO t1 k2 dG t2 k3 dP t3 (by assumption) (by assumption) (by assumption) (by assumption) (by assumption) (by assumption) (by assumption) (by assumption) (by assumption) cs hne (by assumption) (by assumption)
theorem aT {l:List Tree}(h:∀y∈l,T .aN y):gP true 12 l:=λy hy=>by
 obtain⟨IX,jP,eG,bS,cK,fZ,cG,dY,eV,bW,cZ,gu,rfl,_,_,_,_,_,_,_,_,_,_,_,_⟩:=T.bC (h y hy);exact⟨rfl,rfl,rfl⟩
def aaz (l:List Tree):bz:=.ret (.ref (.loc [0]) 0 l.length) [] [(.loc [0],.arr (48,true) 12 false ((flat l).map .t))]
theorem Xj (m:Int)(ls:List Tree)(wo:ls≠ [])(ll:ls.length<=4194304)(hl:∀y∈ls,T .aN y):ai (cf m) 30 [.t (.sl ls)] [] (aaz ls):=by
 obtain⟨ev,az,O3,vu⟩:∃ev,aF (cf m) ev/\Has ev 74 vt/\Has ev 29 (pz (λx=>T .bt x) (λx=>x)):=⟨_,(av (Jx m) (av (cc (G8 m)) aI)),aD,(aq rfl aD)⟩;refine ai.k7 ?_;refine AX.start 23 1 Tryz.func30 rfl (by decide) rfl rfl (by decide) ?_;refine AX.frames ?_;refine Pu (f:=64) (n:=3000) (once:=[]) (k:=23) (T:=0) (S:=[]) (ks:=[]) (live:=[0,2]) ah az (Tryz.f30.body.getD .skip) 1 rfl (⟨dU 23 [(0,.t (.sl ls)),(2,.bJ)],[],0⟩) [] (by kernel_rfl) ?_;refine AX.region ?_;refine aC.go (f:=0) az (au rfl) ?_;refine aC.go (f:=0) az (nK (zn rfl) (Jy O3 wo (aT hl) (by assumption)) rfl k5) ?_;refine aC.go (f:=0) az (aB rfl) ?_;refine aC.nil ?_;refine kl (α:=Nat) ah 64 [] 23 1 [.loc [1,5]] [.loc [1,5]] [0,7,8] (λx=>⟨dU 23 [(0,.ref (.loc [0]) 0 ls.length),(7,.t (.int .i64 ((ls.length:Nat):Int))),(8,.t (.int .i64 ((x:Nat):Int)))],[(.loc [0],.arr (48,true) 12 false ((flat ls).map .t))],1⟩) (λx=>(x<=ls.length)) (λx=>ls.length - x) 0 (mN (Tryz.f30.body.getD .skip) 3) [oL 48 12 ls] (by show(0<=ls.length);first|trivial|omega|(refine⟨?_, ?_⟩<;>first|omega|exact SM.nil)|simp) (λx hok=> ?_);obtain⟨i_1,tX⟩:∃y,y=x:=⟨x,rfl⟩;subst tX;replace hok:(i_1<=ls.length):=hok;have tF:=hok;rcases br (decide (((i_1:Nat):Int)<((ls.length:Nat):Int))) with dF|dF
 ·have o7:=of_decide_eq_true dF;obtain⟨e3,nM⟩:=jX ls i_1;have tZ:=(hl e3 (pE nM));obtain⟨MV,jK,eX,eY,eZ,gF,gG,gH,fL,fM,fN,kI,rfl,xG,xH,vk,xI,vn,vp,vq,aam,TF,aan,W7,MW⟩:=T.bC tZ;exact⟨.inl ⟨i_1+1,⟨(by show(i_1+1)<=ls.length;omega),(by show(ls.length - (i_1+1))<(ls.length - i_1);omega)⟩⟩,kri ah 64 [] 23 1 [.loc [0]] [.loc [0]] [0,7,8] [oB dF,oW true 12 ls (aT hl),oH nM,oQ ls,oQ ls,oO (rI (m:=11) (i:=i_1) (j:=1) (gP.lens (aT hl)) nM (by decide)),oC (cg vu (x:=.agg [.bool jK,.int .u8 eX,.sl eY,.str eZ,.int .u8 gF,.sl gG,.str gH,.int .u8 fL,.sl fM,.str fN,.sl kI]) (.bt _ _ _ _ _ _ _ _ _ _ _ aQ vk aQ aQ vp aQ aQ TF aQ aQ MW)),oW true 12 ls (aT hl),oH nM,oQ ls,oQ ls,oR _ _ (Ay (j:=1) (m:=11) (gP.lens (aT hl)) nM (by decide)),oK (vH (j:=1) (m:=11) (gP.lens (aT hl)) nM (by decide)),oI (i_1) (by omega),oL 48 12 ls]⟩
 ·have o7:=of_decide_eq_false dF;refine kxi ah 64 [] [oB dF] ?_;refine Zy (f:=64) (n:=3000) (once:=[]) (k:=23) (T:=1) (S:=[.loc [0]]) (ks:=[.loc [0]]) (live:=[2]) ah az .ret (⟨dU 23 [(2,.ref (.loc [0]) 0 ls.length)],[(.loc [0],.arr (48,true) 12 false ((flat ls).map .t))],1⟩) [oL 48 12 ls] (by kernel_rfl) (by kernel_rfl) ?_;exact⟨(),.inr (yp rfl rfl rfl)⟩
end
end Go.Proofs.YtacmmaaabfhhoaaGreatDoor.w.e
noncomputable section
namespace Go.Abs
open Go
def T6:List TV->Option (List Tree)
 | []=>some []
 |.t x::r=>match T6 r with|some l=>some (x::l)|none=>none
 |_=>none
theorem G9:∀{a:List TV} {l:List Tree},T6 a=some l->a=l.map .t
 | [],l,h=>by cases h;rfl
 | .t x::r,l,h=>by
   simp only[T6] at h
   split at h
   · rename_i l' e
     cases h
     rw[G9 e];rfl
   · cases h
 |.bJ::_,_,h=>by cases h
 |.j4 _::_,_,h=>by cases h
 |.ref _ _ _::_,_,h=>by cases h
 |.ptr _ _::_,_,h=>by cases h
 |.map _::_,_,h=>by cases h
 |.jB _ _ _::_,_,h=>by cases h
 |.jC _ _::_,_,h=>by cases h
 |.any::_,_,h=>by cases h
 |.fn _ _ _::_,_,h=>by cases h
 |.iface _ _::_,_,h=>by cases h
 |.agg _::_,_,h=>by cases h
 |.dr _::_,_,h=>by cases h
def Dk (a b:List Tree):Bool:=Aw (Ew 30) a b
theorem E3 {a b:List Tree}(h:Dk a b=true):a=b:=uN (yy 30) h
def M3 (k:List Tree):List (List Tree×Tree)->Option Tree
 | []=>none
 |(a,v)::r=>cond (Dk k a) (some v) (M3 k r)
theorem Dl {k:List Tree}{v:Tree}:∀{tab:List (List Tree×Tree)},M3 k tab=some v->(k,v)∈tab
 | [],h=>by cases h
 | (a,u)::r,h=>by
  simp only[M3] at h
  cases hb:Dk k a with
  |false=>rw[hb] at h;exact List.mem_cons_of_mem _ (Dl h)
  |true=>
   rw[hb] at h
   obtain rfl:=E3 hb
   obtain rfl:u=v:=by simpa using h
   exact List.mem_cons_self
def r7 (tab:List (List Tree×Tree)):jy:=λ_ args aP=>match aP with
 | []=>match T6 args with
  |some ts=>match M3 ts tab with
   |some v=>some (.ret (.t v) [] [])
   |none=>none
  |none=>none
 |_=>none
theorem zj {C:cE}{g:FuncId}{tab:List (List Tree×Tree)}(h0:∀p∈tab,ai C g (p.1.map .t) [] (.ret (.t p.2) [] [])):jF C g (r7 tab):=by
 intro ev az args aP r h G w vs hw hg had hH hv;unfold r7 at h;split at h
 ·split at h
  ·rename_i ts e;split at h
   ·rename_i v hf;cases h;obtain rfl:=G9 e;exact h0 _ (Dl hf) G w vs hw hg had hH hv
   ·cases h
  ·cases h
 ·cases h
def wO (C:cE)(fuel:Nat)(f:FuncId)(s:jy):jy:=λev args aP=>match s ev args aP with
 |some r=>some r
 |none=>N2 C ev fuel f args aP
theorem Dm {C:cE}{fuel:Nat}{g:FuncId}{s:jy}(hm:C.P.prog.follows .mixedOrders=true)(h0:jF C g s):jF C g (wO C fuel g s):=by
 intro ev az args aP r h G w vs hw hg had hH hv;unfold wO at h;split at h
 ·rename_i r' e;cases h;exact h0 ev az args aP r e G w vs hw hg had hH hv
 ·exact F5 hm az h hw hg had hH hv
end Go.Abs
end
namespace Go.Proofs.YtacmmaaabfhhoaaGreatDoor.w
open Go Go.Abs Go.RowKit Go.Shelf Go.Lib
set_option maxRecDepth 100000
theorem Ab (b o j:Nat):(⟨b,o,none⟩:Addr).add j=⟨b,o+j,none⟩:=by unfold Addr.add;split<;>simp_all
theorem vZ {P:Program}{T K:Nat}{w:World}{dT sT rty:TypeId}{b o so sb dLen dCap sLen sCap:Nat}{us X:List Value}{ty:TypeId}{fr:Nat×Nat}(hu:P.underlying dT=some (.slice T))(hs:(P.info? T).map (·.size)=some K)(hn:us.length=Nat.min sLen dLen*K)
 (hsrc:∀j v,us[j]?=some v->w.cell? ⟨sb,so+j,none⟩=some v)(hb:w.heap[b]?=some (.cells X.toArray ty fr))(mV:mo X.toArray fr)(hfit:o+us.length<=X.length)(h1:∀v∈us,Go.Abs.one v=true):
 (Builtin.copy_ #[dT,sT] rty #[.slice (some ⟨b,o,none⟩) dLen dCap,.slice (some ⟨sb,so,none⟩) sLen sCap]).run P w=.ok (goInt (Nat.min sLen dLen)) (World.bk w b (over X o us).toArray ty fr):=by
 have hl:=run_loadCells_list (P:=P) (w:=w) ⟨sb,so,none⟩ us (λj v h=>by rw[Ab];exact hsrc j v h)
 rw[hn] at hl
 have hst:=ia (P:=P) (b:=b) (o:=o) us w 0 X h1 hb mV (by simpa using hfit)
 rw[Nat.add_zero] at hst
 cases hq:P.info? T with
 |none=>simp[hq] at hs
 |some i=>
  have hi:i.size=K:=by simpa [hq] using hs
  simp[Builtin.copy_,run_underlying hu,Builtin.lenOf,Builtin.firstCells,sizeOf,typeInfo,hq,hi,hl,hst]
theorem adL {w:World}{b o:Nat}{X:Array Value}{ty:TypeId}(h:w.heap[b]?=some (.cells X ty (0,0))):w.frozen? ⟨b,o,none⟩=false:=by
 simp[World.frozen?,h]
theorem JA {P:Program}{w:World}{tS tR e:TypeId}(ht:P.underlying tS=some (.slice e)){size:Nat}(hz:∀w,(Go.sizeOf e).run P w=.ok size w)
 {vb vo b o la ca lb cb:Nat}(hne:vb≠b){tA tB:TypeId}{kA kB:Nat}(hsa:w.shape? vb=some (tA,kA))(hsb:w.shape? b=some (tB,kB))(hkA:kA≠0)(hkB:kB≠0)(hfb:∀q,w.frozen? ⟨b,q,none⟩=false):
 (Extern.SlicesOverlaps.overlaps #[tS,tS] #[tR] #[.slice (some ⟨vb,vo,none⟩) la ca,.slice (some ⟨b,o,none⟩) lb cb]).run P w=.ok (.bool false) w:=by
 have hnb:(vb != b)=true:=by simpa using hne
 have Vk:(vb==b)=false:=by simpa using hne
 change Sem.run P (α:=Value) (do
  let some t:=(#[tS,tS]:Array TypeId)[0]? |stuck "slices.overlaps: no parameter types"
  let .slice elem ← underlying t|stuck "slices.overlaps: slice type expected"
  let size ← Go.sizeOf elem
  match(some (⟨vb,vo,none⟩:Addr):Option Addr),(some (⟨b,o,none⟩:Addr):Option Addr) with
  | some a,some b=>
    if la=0\/lb=0\/size=0 then pure (Value.bool false)
    else if a.block != b.block&&(← frozen a)&&(← frozen b) then unsupported .addressObserved
    else do
      if a.block != b.block then do
        noView a;noView b
        if ← mayBeOne a b then return Value.bool ((← choose (.extern "sameAddr.stringBytes" 2))==1)
      pure (Value.bool (a.block==b.block&&a.off<b.off+lb*size&&b.off<a.off+la*size))
  |_,_=>pure (Value.bool false)) w=_
 by_cases h0:la=0\/lb=0\/size=0
 ·simp[run_underlying ht,hz,h0]
 ·cases kB with
  |zero=>exact absurd rfl hkB
  | succ kB=>
    cases kA with
    |zero=>exact absurd rfl hkA
    | succ kA=>
      cases AV:w.frozen? ⟨vb,vo,none⟩<;>cases AY:w.frozen? ⟨vb,kA+1,none⟩<;>
        simp[run_underlying ht,hz,h0,hnb,Vk,frozen,noView,viewAt,mayBeOne,stringish,shape,Sem.run,hsa,hsb,hfb,AV,AY]
theorem tI {w:World}{b:Nat}{us:Array Value}{ty:TypeId}{fr:Nat×Nat}(h:w.heap[b]?=some (.cells us ty fr))(o:Nat):w.cell? ⟨b,o,none⟩=us[o]?:=by
 simp[World.cell?,h]
theorem LQ {w:World}{b c:Nat}(h:b≠c)(vs:Array Value)(ty:TypeId)(fr:Nat×Nat)(o:Nat):(World.bk w b vs ty fr).cell? ⟨c,o,none⟩=w.cell? ⟨c,o,none⟩:=by
 simp only[World.cell?,iG h]
theorem Dn (a b:List Tree):flat (a++b)=flat a++flat b:=by simp[flat]
theorem LR {G:Gh}{w:World}(hw:WF G w){vs:List Tree}{K:Nat}{ag:Bool}(Qy:vs≠ [])(hu:gP ag K vs){z:Value}(hz:VR G (.t (.sl vs)) z):
 ∃b o c V,z=.slice (some ⟨b,o,none⟩) vs.length c/\(∀k,(∀q,G.F k q=none)->b≠k\/vs.length*K=0)/\(∀(j:Nat) v,V[j]?=some v->w.cell? ⟨b,o+j,none⟩=some v)/\cr G ((flat vs).map TV.t) V/\(vs.length*K≠0->∃Y ty fr,w.heap[b]?=some (.cells Y ty fr)):=by
 cases hz with
 | t _ _ hz=>
   generalize hl:vs=l at hz
   cases hz with
   |zm a c=>exact absurd hl Qy
   | sl bE es b o cap vals hne hc YQ hF L9=>
     subst hl
     have hlen:(flat vs).length=vs.length*K:=by have:=hu.length;simpa using this
     refine⟨b,o,cap,(List.range (vs.length*K)).map vals,rfl,λk hk=> ?_,λj v hj=> ?_,⟨by simp[hlen],λj c v hc hv=> ?_⟩,λhp=> ?_⟩
     · by_cases h0:vs.length*K=0
       · exact .inr h0
       · refine .inl λe=> ?_
         have:=hF 0 _ (List.getElem?_eq_getElem (by omega))
         rw[e,hk] at this
         cases this
     · rw[List.getElem?_map] at hj
       obtain⟨q,hq,rfl⟩:=Option.map_eq_some_iff.1 hj
       obtain⟨h1,h2⟩:=List.getElem?_eq_some_iff.1 hq
       simp at h1 h2
       subst h2
       obtain⟨Y,ty,fr,h3,h4⟩:=hw.F _ _ _ (hF j _ (List.getElem?_eq_getElem (by omega)))
       rw[tI h3];exact h4
     · rw[List.getElem?_map] at hc hv
       obtain⟨x,hx,rfl⟩:=Option.map_eq_some_iff.1 hc
       obtain⟨q,hq,rfl⟩:=Option.map_eq_some_iff.1 hv
       obtain⟨h1,h2⟩:=List.getElem?_eq_some_iff.1 hq
       simp at h1 h2
       subst h2
       exact .t _ _ (L9 j x hx)
     · obtain⟨Y,ty,fr,h3,_⟩:=hw.F _ _ _ (hF 0 _ (List.getElem?_eq_getElem (by omega)))
       exact⟨Y,ty,fr,h3⟩
theorem O4 {L vs:List Tree}{ag:Bool}{K n i:Nat}(O5:gP ag K L)(hn:n=L.length)(hi:i<n):
 (flat (L.take i++vs++L.drop i)).map TV.t=((flat L).map TV.t).take (i*K)++(flat vs).map TV.t++((flat L).map TV.t).drop (i*K):=by
 rw[Dn,Dn,zB O5.lens,zA O5.lens]
 simp[List.map_take,List.map_drop]
theorem O6 {X V us:List Value}{a b c:Nat}(hV:V.length=b)(hu:us.length=c)(hX:a+b+c<=X.length):(over (over X (a+b) us) a V).take (a+b+c)=X.take a++V++us:=by
 have h1:(X.take (a+b)).length=a+b:=by rw[List.length_take];omega
 have e1:over X (a+b) us=X.take (a+b)++(us++X.drop (a+b+us.length)):=by unfold over;rw[List.append_assoc]
 have e2:(over X (a+b) us).take a=X.take a:=by
  rw[e1,List.take_append_of_le_length (by omega),List.take_take,Nat.min_eq_left (by omega)]
 have e3:(over X (a+b) us).drop (a+b)=us++X.drop (a+b+us.length):=by rw[e1];exact List.drop_left' h1
 have e4:over (over X (a+b) us) a V=(X.take a++V++us)++X.drop (a+b+us.length):=by
  rw[show over (over X (a+b) us) a V=(over X (a+b) us).take a++V++(over X (a+b) us).drop (a+V.length) from rfl,e2,hV,e3,List.append_assoc,List.append_assoc,List.append_assoc]
 rw[e4];exact List.take_left' (by simp only[List.length_append,List.length_take];omega)
theorem O7 {P V us:List Value}{a b c:Nat}(hV:V.length=b)(hu:us.length=c)(hP:a+b+c<=P.length):(over (over P a V) (a+b) us).take (a+b+c)=P.take a++V++us:=by
 have h1:(P.take a++V).length=a+b:=by simp only[List.length_append,List.length_take];omega
 have e1:over P a V=(P.take a++V)++P.drop (a+V.length):=rfl;have e2:(over P a V).take (a+b)=P.take a++V:=by rw[e1];exact List.take_left' h1
 rw[show over (over P a V) (a+b) us=(over P a V).take (a+b)++us++(over P a V).drop (a+b+us.length) from rfl,e2];exact List.take_left' (by simp only[List.length_append,List.length_take];omega)
theorem LS:∃i0 z,Tryz.prog.info? 48=some i0/\i0.zero=some z/\i0.size=12/\i0.bytes=192/\z.cells.size=12:=⟨_,_,rfl,rfl,rfl,rfl,rfl⟩
theorem aaA (w:World):(Go.sizeOf 48).run Tryz.prog w=.ok 12 w:=by
 obtain⟨i0,z,h1,h2,h3,_⟩:=LS;simp[Go.sizeOf,Go.typeInfo,h1,h3]
theorem agP {w:World}{vb vo b o la ca lb cb:Nat}{Y X:Array Value}{tyv ty:TypeId}{frv:Nat×Nat}(hne:vb≠b)(hY:w.heap[vb]?=some (.cells Y tyv frv))(hX:w.heap[b]?=some (.cells X ty (0,0)))(h0:X.size≠0)(hY0:Y.size≠0):
 (callFunc 75 #[.slice (some ⟨vb,vo,none⟩) la ca,.slice (some ⟨b,o,none⟩) lb cb]).run Tryz.prog w=.ok (.value (.bool false)) w:=by
 rw[run_callFunc_extern Tryz.func75 (by kernel_rfl) (by kernel_rfl) (by kernel_rfl) (e:=Extern.SlicesOverlaps.overlaps #[22,22] #[4]) (by kernel_rfl),
  JA (P:=Tryz.prog) Tryz.underlying22 (size:=12) aaA hne (tA:=tyv) (kA:=Y.size) (tB:=ty) (kB:=X.size) (by simp[World.shape?,hY]) (by simp[World.shape?,hX]) hY0 h0 (λq=>adL hX)]
 rfl
set_option maxHeartbeats 4000000 in
theorem aaB {w:World}{b vb vo n c i m vc:Nat}{X V:List Value}{Y:Array Value}{ty tyv:TypeId}{frv:Nat×Nat}(hi:i<n)(hm:0<m)(hroom:n+m<=c)(hbig:n+m<=16777216)(hvb:vb≠b)
 (hX:w.heap[b]?=some (.cells X.toArray ty (0,0)))(wu:X.length=c*12)(hY:w.heap[vb]?=some (.cells Y tyv frv))
 (hV:∀j v,V[j]?=some v->w.cell? ⟨vb,vo+j,none⟩=some v)(M4:V.length=m*12)(U8:∀v∈X.take (n*12),Go.Abs.one v=true)(h1V:∀v∈V,Go.Abs.one v=true):
 Calls Tryz.prog 31 #[.slice (some ⟨b,0,none⟩) n c,.int .i64 (i:Int),.slice (some ⟨vb,vo,none⟩) m vc] w λe w'=>
  e=.returned (.slice (some ⟨b,0,none⟩) (n+m) c)/\w'=World.bk w.drew b (over (over X ((i+m) *12) ((X.drop (i*12)).take ((n - i) *12))) (i*12) V).toArray ty (0,0):=by
 have hX0:X.toArray.size≠0:=by simp;intro e;rw[e] at wu;simp at wu;omega
 have hY0:Y.size≠0:=λe=>by
  have h:=hV 0 _ (List.getElem?_eq_getElem (by omega));rw[tI hY] at h;have:=(Array.getElem?_eq_some_iff.1 h).1;omega
 have Qa:∀o la ca lb cb,(callFunc 75 #[.slice (some ⟨vb,vo,none⟩) la ca,.slice (some ⟨b,o,none⟩) lb cb]).run Tryz.prog w=.ok (.value (.bool false)) w:=λo la ca lb cb=>agP hvb hY hX hX0 hY0
 have hz1:¬((m:Int)=0):=by omega
 have HF:¬((i:Int)=(n:Int)):=by omega
 have hw1:IntKind.i64.wrap ((i:Int)+(m:Int))=(i:Int)+(m:Int):=by rw[IntKind.wrap_i64];omega
 have hw2:IntKind.i64.wrap ((n:Int)+(m:Int))=(n:Int)+(m:Int):=by rw[IntKind.wrap_i64];omega
 have hb1:(0:Int)<=(i:Int)+(m:Int):=by omega
 have hb5:(0:Int)<=(n:Int)+(m:Int):=by omega
 have hin:i<=n:=by omega
 have htn:((i:Int)+(m:Int)).toNat=i+m:=by omega
 have ajH:((n:Int)+(m:Int)).toNat=n+m:=by omega
 have hb2:¬(c=i+m):=by omega
 have hb3:(i:Int)<=(n:Int)+(m:Int):=by omega
 have hb4:¬(c=i):=by omega
 have hgt:¬((c:Int)<(n:Int)+(m:Int)):=by omega
 have mixed:Tryz.prog.follows .mixedOrders=true:=by kernel_rfl
 have hs:(Tryz.prog.info? 48).map (·.size)=some 12:=by
  obtain⟨i0,z,h1,h2,h3,_⟩:=LS;rw[h1,Option.map_some,h3]
 obtain⟨us,mE⟩:∃us,us=(X.drop (i*12)).take ((n - i) *12):=⟨_,rfl⟩
 have wE:us.length=(n - i) *12:=by rw[mE,List.length_take,List.length_drop,wu];omega
 have hmin:Nat.min (n+m - i) (n+m - (i+m))=n - i:=by simp only[Nat.min_def];split<;>omega
 have Ec:Nat.min m (n+m - i)=m:=by simp only[Nat.min_def];split<;>omega
 have T7:∀j v,us[j]?=some v->X[i*12+j]?=some v:=λj v h=>by
  rw[mE,List.getElem?_take] at h;split at h
  ·rwa [List.getElem?_drop] at h
  ·cases h
 have AZ:∀v∈us,Go.Abs.one v=true:=λv h=>by
  refine U8 v ?_;rw[mE] at h;obtain⟨j,hj⟩:=List.getElem?_of_mem h;rw[List.getElem?_take] at hj;split at hj
  ·rw[List.getElem?_drop] at hj;exact List.mem_of_getElem? (i:=i*12+j) (by rw[List.getElem?_take,if_pos (by omega)];exact hj)
  ·cases hj
 obtain⟨X1,Xk⟩:∃X1,X1=over X ((i+m) *12) us:=⟨_,rfl⟩
 have aaC:X1.length=c*12:=by rw[Xk,cX (by rw[wE,wu];omega),wu]
 have agQ:∀ty' dc sc,(Builtin.copy_ #[22,22] ty' #[.slice (some ⟨b,(i+m) *12,none⟩) (n+m - (i+m)) dc,.slice (some ⟨b,i*12,none⟩) (n+m - i) sc]).run Tryz.prog w.drew=.ok (goInt ((n - i:Nat):Int)) (World.bk w.drew b X1.toArray ty (0,0)):=λty' dc sc=>by
  have h:=vZ (P:=Tryz.prog) (w:=w.drew) (dT:=22) (sT:=22) (rty:=ty') (b:=b) (o:=(i+m) *12) (sb:=b) (so:=i*12) (dLen:=n+m - (i+m)) (dCap:=dc) (sLen:=n+m - i) (sCap:=sc) (us:=us) (X:=X) (ty:=ty) (fr:=(0,0)) Tryz.underlying22 hs (by rw[hmin,wE]) (λj v h=>(tI (w:=w.drew) hX _).trans (by simpa using T7 j v h)) hX (λo _ h=>by omega) (by rw[wE,wu];omega) AZ;rw[hmin,← Xk] at h;exact h
 have P9:b<w.drew.heap.size:=(Array.getElem?_eq_some_iff.1 hX).1
 have ajI:∀ty' dc,(Builtin.copy_ #[22,22] ty' #[.slice (some ⟨b,i*12,none⟩) (n+m - i) dc,.slice (some ⟨vb,vo,none⟩) m vc]).run Tryz.prog (World.bk w.drew b X1.toArray ty (0,0))=.ok (goInt ((m:Nat):Int)) (World.bk w.drew b (over X1 (i*12) V).toArray ty (0,0)):=λty' dc=>by
  have h:=vZ (P:=Tryz.prog) (w:=World.bk w.drew b X1.toArray ty (0,0)) (dT:=22) (sT:=22) (rty:=ty') (b:=b) (o:=i*12) (sb:=vb) (so:=vo) (dLen:=n+m - i) (dCap:=dc) (sLen:=m) (sCap:=vc) (us:=V) (X:=X1) (ty:=ty) (fr:=(0,0)) Tryz.underlying22 hs (by rw[Ec,M4]) (λj v h=>by rw[LQ (λe=>hvb e.symm)];exact hV j v h) (b9 P9 _ _ _) (λo _ h=>by omega) (by rw[M4,aaC];omega) h1V;rw[Ec,lu] at h;exact h
 rw[← mE,← Xk]
 clear mE Xk
 go_enter Tryz.func31,Tryz.ntmps31
 go_wp2_with (simp only[Qa])
 go_region_law_o (refine step_copy_runI rfl _ _ 22 22 rfl _ _ (by simp[Act.eval,Act.put]) (by simp[Act.eval,Act.put]) (agQ _ _ _) ?_)
 go_wp2
 go_ret
 exact⟨rfl,rfl⟩
theorem agR (z:Array Value):∀n,(Builtin.zeroCells z n).size=n*z.size:=by
 intro n;simp[Builtin.zeroCells]
set_option maxHeartbeats 4000000 in
theorem aaD {w:World}{b vb vo n c i m vc:Nat}{X V:List Value}{ty:TypeId}(hi:i<n)(hm:0<m)(hnc:n<=c)(hroom:c<n+m)(hbig:n+m<=16777216)
 (hX:w.heap[b]?=some (.cells X.toArray ty (0,0)))(wu:X.length=c*12)(hvw:vb<w.heap.size)
 (hV:∀j v,V[j]?=some v->w.cell? ⟨vb,vo+j,none⟩=some v)(M4:V.length=m*12)(U8:∀v∈X.take (n*12),Go.Abs.one v=true)(h1V:∀v∈V,Go.Abs.one v=true):
 ∃ (G:Nat) (R:List Value),n+m<=G/\R.length=(G - i) *12/\Calls Tryz.prog 31 #[.slice (some ⟨b,0,none⟩) n c,.int .i64 (i:Int),.slice (some ⟨vb,vo,none⟩) m vc] w λe w'=>
  e=.returned (.slice (some ⟨w.heap.size,0,none⟩) (n+m) G)/\w'=World.bk (World.cL w.drew (.cells (X.take (i*12)++R).toArray 48)).drew w.heap.size (over (over (X.take (i*12)++R) (i*12) V) ((i+m) *12) ((X.drop (i*12)).take ((n - i) *12))).toArray 48 (0,0):=by
 obtain⟨i0,z,hi0,hz0,hzs,hzb,hzl⟩:=LS
 have mixed:Tryz.prog.follows .mixedOrders=true:=by kernel_rfl
 have hs:(Tryz.prog.info? 48).map (·.size)=some 12:=by rw[hi0,Option.map_some,hzs]
 obtain⟨G,hG⟩:∃G,G=grownCap w (n+m) c 48:=⟨_,rfl⟩
 have hGn:n+m<=G:=by rw[hG];exact grownCap_ge w _ _ _
 have ajJ:G<=9223372036854775807:=by
  have:=grownCap_le_maxLen w (n+m) c 48 (by unfold maxLen;omega);rw[← hG] at this;unfold maxLen at this;omega
 obtain⟨R,hR⟩:∃R,R=(Builtin.zeroCells z.cells (n+m - i)).toList++(Builtin.zeroCells z.cells (G - (n+m))).toList:=⟨_,rfl⟩
 have hRl:R.length=(G - i) *12:=by
  rw[hR];simp only[List.length_append,Array.length_toList,agR,hzl];omega
 refine⟨G,R,hGn,hRl, ?_⟩
 have hik:i+(n+m - i)=n+m:=by omega
 have hkk:(n:Int)+(m:Int) - (i:Int)=((n+m - i:Nat):Int):=by omega
 have htl:(X.take (i*12)).length=i*12:=by rw[List.length_take];omega
 have hold:(Builtin.firstCells i0.size i (.slice (some ⟨b,0,none⟩) i c)).run Tryz.prog w.drew=.ok (X.take (i*12)).toArray w.drew:=by
  have h:=run_loadCells_list (P:=Tryz.prog) (w:=w.drew) ⟨b,0,none⟩ (X.take (i*12)) (λj v h=>by
   rw[Ab,Nat.zero_add];refine(tI (w:=w.drew) hX _).trans ?_;rw[List.getElem?_take] at h;split at h
   ·simpa using h
   ·cases h)
  rw[htl] at h;rw[hzs];exact h
 obtain⟨P1,Yp⟩:∃P1,P1=X.take (i*12)++R:=⟨_,rfl⟩
 have hPl:P1.length=G*12:=by rw[Yp,List.length_append,htl,hRl];omega
 have hrz:∀ty',(Builtin.append_ #[22,3] ty' #[.slice (some ⟨b,0,none⟩) i c,.int .i64 ((n:Int)+(m:Int) - (i:Int))]).run Tryz.prog w=
  .ok (.slice (some ⟨w.heap.size,0,none⟩) (n+m) G) (World.cL w.drew (.cells P1.toArray 48)):=λty'=>by
  have h:=Lib.run_append_grow_zeros (P:=Tryz.prog) w 22 3 ty' 48 i0 z .i64 .i64 Tryz.underlying22 Tryz.underlying3 hi0 hz0 (some ⟨b,0,none⟩) i c (X.take (i*12)) hold (n+m - i) (by omega) (by rw[hzs];omega) (by omega) (by omega) (by rw[hzb];omega) (by
   rw[hzb,hik];have:=Go.Abs.nextslicecap_le (n:=n+m) (c:=c) hroom;omega)
  rw[hik,← hG] at h
  rw[hkk,h]
  have e:(X.take (i*12)).toArray++Builtin.zeroCells z.cells (n+m - i)++Builtin.zeroCells z.cells (G - (n+m))=P1.toArray:=by
   apply Array.toList_inj.1;rw[Yp,hR];simp
  rw[e]
  rfl
 obtain⟨us,mE⟩:∃us,us=(X.drop (i*12)).take ((n - i) *12):=⟨_,rfl⟩
 have wE:us.length=(n - i) *12:=by rw[mE,List.length_take,List.length_drop,wu];omega
 have hmin:Nat.min (n - i) (n+m - (i+m))=n - i:=by simp only[Nat.min_def];split<;>omega
 have Ec:Nat.min m (n+m - i)=m:=by simp only[Nat.min_def];split<;>omega
 have T7:∀j v,us[j]?=some v->X[i*12+j]?=some v:=λj v h=>by
  rw[mE,List.getElem?_take] at h;split at h
  ·rwa [List.getElem?_drop] at h
  ·cases h
 have AZ:∀v∈us,Go.Abs.one v=true:=λv h=>by
  refine U8 v ?_;rw[mE] at h;obtain⟨j,hj⟩:=List.getElem?_of_mem h;rw[List.getElem?_take] at hj;split at hj
  ·rw[List.getElem?_drop] at hj;exact List.mem_of_getElem? (i:=i*12+j) (by rw[List.getElem?_take,if_pos (by omega)];exact hj)
  ·cases hj
 obtain⟨X2,Px⟩:∃X2,X2=over P1 (i*12) V:=⟨_,rfl⟩
 have agS:X2.length=G*12:=by rw[Px,cX (by rw[M4,hPl];omega),hPl]
 obtain⟨W1,hW1⟩:∃W1,W1=World.cL w.drew (.cells P1.toArray 48):=⟨_,rfl⟩
 have hN1:W1.heap[w.heap.size]?=some (.cells P1.toArray 48):=by rw[hW1];exact kg w.drew _
 have agT:w.heap.size<W1.heap.size:=(Array.getElem?_eq_some_iff.1 hN1).1
 have Yq:∀c,c<w.heap.size->W1.heap[c]?=w.heap[c]?:=λc hc=>by rw[hW1];exact lI (w:=w.drew) hc
 have hbw:b<w.heap.size:=(Array.getElem?_eq_some_iff.1 hX).1
 have agU:∀ty' dc,(Builtin.copy_ #[22,22] ty' #[.slice (some ⟨w.heap.size,i*12,none⟩) (n+m - i) dc,.slice (some ⟨vb,vo,none⟩) m vc]).run Tryz.prog W1=.ok (goInt ((m:Nat):Int)) (World.bk W1 w.heap.size X2.toArray 48 (0,0)):=λty' dc=>by
  have h:=vZ (P:=Tryz.prog) (w:=W1) (dT:=22) (sT:=22) (rty:=ty') (b:=w.heap.size) (o:=i*12) (sb:=vb) (so:=vo) (dLen:=n+m - i) (dCap:=dc) (sLen:=m) (sCap:=vc) (us:=V) (X:=P1) (ty:=48) (fr:=(0,0)) Tryz.underlying22 hs (by rw[Ec,M4]) (λj v h=>by have h9:=hV j v h;simp only[World.cell?,Yq vb hvw] at h9 ⊢;exact h9) hN1 (λo _ h=>by omega) (by rw[M4,hPl];omega) h1V;rw[Ec,← Px] at h;exact h
 have adM:∀(W:World),W.heap=(World.bk W1 w.heap.size X2.toArray 48 (0,0)).heap->∀ty' dc sc,(Builtin.copy_ #[22,22] ty' #[.slice (some ⟨w.heap.size,(i+m) *12,none⟩) (n+m - (i+m)) dc,.slice (some ⟨b,i*12,none⟩) (n - i) sc]).run Tryz.prog W=.ok (goInt ((n - i:Nat):Int)) (World.bk W w.heap.size (over X2 ((i+m) *12) us).toArray 48 (0,0)):=λW hW ty' dc sc=>by
  have h:=vZ (P:=Tryz.prog) (w:=W) (dT:=22) (sT:=22) (rty:=ty') (b:=w.heap.size) (o:=(i+m) *12) (sb:=b) (so:=i*12) (dLen:=n+m - (i+m)) (dCap:=dc) (sLen:=n - i) (sCap:=sc) (us:=us) (X:=X2) (ty:=48) (fr:=(0,0)) Tryz.underlying22 hs (by rw[hmin,wE]) (λj v h=>by
   have h9:W.heap[b]?=some (.cells X.toArray ty (0,0)):=by rw[hW,iG (Nat.ne_of_gt hbw),Yq b hbw];exact hX
   exact(tI h9 _).trans (by simpa using T7 j v h)) (by rw[hW];exact b9 agT _ _ _) (λo _ h=>by omega) (by rw[wE,agS];omega) AZ
  rw[hmin] at h;exact h
 rw[← mE,← Yp,← Px]
 subst hW1
 have hz1:¬((m:Int)=0):=by omega
 have HF:¬((i:Int)=(n:Int)):=by omega
 have hz3:(c:Int)<(n:Int)+(m:Int):=by omega
 have hw1:IntKind.i64.wrap ((i:Int)+(m:Int))=(i:Int)+(m:Int):=by rw[IntKind.wrap_i64];omega
 have hw2:IntKind.i64.wrap ((n:Int)+(m:Int))=(n:Int)+(m:Int):=by rw[IntKind.wrap_i64];omega
 have hw3:IntKind.i64.wrap ((n:Int)+(m:Int) - (i:Int))=(n:Int)+(m:Int) - (i:Int):=by rw[IntKind.wrap_i64];omega
 have hb1:(0:Int)<=(i:Int)+(m:Int):=by omega
 have hin:i<=n:=by omega
 have htn:((i:Int)+(m:Int)).toNat=i+m:=by omega
 have hb3:(i:Int)<=(n:Int)+(m:Int):=by omega
 have hb6:(i:Int)<=(n:Int):=by omega
 have hb4:¬(c=i):=by omega
 have hGi:¬(G=i):=by omega
 have ajK:¬(G=i+m):=by omega
 have agV:=adM (World.bk (World.cL w.drew (.cells P1.toArray 48)) w.heap.size X2.toArray 48 (0,0)).drew rfl
 clear adM
 clear hkk hik hold hR hG hRl mE Yp Px hN1
 go_enter Tryz.func31,Tryz.ntmps31
 go_wp2_with (first
  |(at_builtin;refine Lib.wpList_append_run _ rfl _ _ _ _ rfl _ _ rfl rfl _ _ (hrz _) ?_)
  |(at_builtin;refine wpList_copy_runI _ rfl _ _ 22 22 rfl _ _ rfl rfl (agU _ _) ?_))
 go_region_law_o (refine step_copy_runI rfl _ _ 22 22 rfl _ _ (by simp[Act.eval,Act.put]) (by simp[Act.eval,Act.put]) (agV 3 (G - (i+m)) (c - i)) ?_)
 go_wp2
 go_ret
 exact⟨rfl,lu (World.cL w.drew (.cells P1.toArray 48)).drew _ _ _ _ _ _ _⟩
set_option maxHeartbeats 2000000 in
theorem JB (m:Int){L vs:List Tree}{n i:Nat}(hLl:L.length<=4194304)(O5:gP true 12 L)(hn:n=L.length)(hi:i<n)(Qy:vs≠ [])(hvl:vs.length<=4194304)(XL:gP true 12 vs):
 ai (cf m) 31 [.ref (.arg 0) 0 n,.t (.int .i64 (i:Int)),.t (.sl vs)] [.arr (48,true) 12 false ((flat L).map .t)] (.ret (.ref (.arg 0) 0 (n+vs.length)) [.arr (48,true) 12 false ((flat (L.take i++vs++L.drop i)).map .t)] []):=by
 intro G w xs hw hg had hH hv
 obtain⟨x,xs1,rfl,hx,hv⟩:=hv.gQ
 obtain⟨y,z,rfl,hy,hz⟩:=hv.two
 obtain⟨hd,ho⟩:=hH (.arg 0) _ rfl
 obtain⟨_,cap,us,ty,fr,ha,hh,⟨mV,hty,hun⟩,hsz,hcl,mE,hF⟩:=ho
 obtain rfl:fr=(0,0):=hun (by decide)
 obtain rfl:ty=48:=hty
 have hLn:((flat L).map TV.t).length=n*12:=by rw[O5.length,hn]
 rw[hLn] at ha hcl mE
 obtain rfl:=hy.vI
 obtain rfl:x=.slice (some ⟨G.mu (.arg 0),0,none⟩) n cap:=by
  cases hx with
  | ref k off len n' bE cap' v hd' qC hle' ho' uy=>
    rw[ha] at qC;cases qC
    obtain⟨a,rfl,h2⟩:=uy (by omega)
    have:=h2 (by omega)
    subst this;rfl
 have hpv:0<vs.length:=by cases vs with|nil=>exact absurd rfl Qy|cons=>simp
 obtain⟨vb,vo,vc,V,rfl,hvb,hVc,hVr,hVY⟩:=LR hw Qy XL hz
 obtain⟨Y,tyv,frv,hY⟩:=hVY (by omega)
 have hvb:=(hvb (G.mu (.arg 0)) (λq=>hF q (.inl rfl))).resolve_right (by omega)
 have M4:V.length=vs.length*12:=by rw[hVr.1,XL.length]
 have h1V:=p5 hVr XL.nv
 have U8:∀v∈us.toList.take (n*12),Go.Abs.one v=true:=p5 mE O5.nv
 have wu:us.toList.length=cap*12:=by simpa using hsz
 have hX:w.heap[G.mu (.arg 0)]?=some (.cells us.toList.toArray 48 (0,0)):=by rw[Array.toArray_toList];exact hh
 have agW:n*12<=us.toList.length:=by simpa using hcl
 have en:∀args w,(callFunc 31 args).run Tryz.prog w=.ok (.enter 31 args) w:=enters_of Tryz.func31 (by kernel_rfl) rfl
 have hn':((flat (L.take i++vs++L.drop i)).map TV.t).length=(n+vs.length) *12:=by
  rw[((O5.take i).append XL |>.append (λx hx=>O5 x (List.mem_of_mem_drop hx))).length];simp only[List.length_append,List.length_take,List.length_drop];congr 1;omega
 have hlt:n*12<(n+vs.length) *12:=by omega
 have F0:cr G (((flat L).map TV.t).take (i*12)++(flat vs).map TV.t++((flat L).map TV.t).drop (i*12)) ((us.toList.take (n*12)).take (i*12)++V++(us.toList.take (n*12)).drop (i*12)):=((mE.take _).append hVr).append (mE.drop _)
 have hnew:(us.toList.take (n*12)).take (i*12)++V++(us.toList.take (n*12)).drop (i*12)=us.toList.take (i*12)++V++(us.toList.drop (i*12)).take ((n - i) *12):=by
  rw[List.take_take,Nat.min_eq_left (by omega),List.drop_take];congr 2;omega
 rw[hnew,← O4 O5 hn hi] at F0
 have qC:G.arr (.arg 0)=some (n*12,12,cap):=ha
 by_cases hfit:n+vs.length<=cap
 ·refine .inl ⟨en _ _,Calls.mono (aaB hi hpv hfit (by omega) hvb hX wu hY hVc M4 U8 h1V) ?_⟩;rintro e w' ⟨rfl,rfl⟩;obtain⟨X2,Px⟩:∃X2,X2=over (over us.toList ((i+vs.length) *12) ((us.toList.drop (i*12)).take ((n - i) *12))) (i*12) V:=⟨_,rfl⟩;have wE:((us.toList.drop (i*12)).take ((n - i) *12)).length=(n - i) *12:=by rw[List.length_take,List.length_drop,wu];omega
  have T8:X2.length=cap*12:=by rw[Px,cX (by rw[M4,cX (by rw[wE,wu];omega),wu];omega),cX (by rw[wE,wu];omega),wu]
  have aaE:X2.take ((n+vs.length) *12)=us.toList.take (i*12)++V++(us.toList.drop (i*12)).take ((n - i) *12):=by
   rw[Px,show(i+vs.length) *12=i*12+vs.length*12 by omega,show(n+vs.length) *12=i*12+vs.length*12+(n - i) *12 by omega];exact O6 M4 wE (by rw[wu];omega)
  rw[← Px];have s1:=iT (w:=w.drew) (vs:=X2) hw.drew hd (Gh.iF qC (by decide)) hX (λq ⟨uu,hq⟩=>by rw[hF q (.inl rfl)] at hq;cases hq);have s2:=grow_step (n':=(n+vs.length) *12) s1.wf qC hlt (λ_=>False);have st:=((je hw (λ_=>True) (λk=>k.eR=true)).trans (s1.trans s2)).mono (W':=λ_=>True) (N':=λk=>k.eR=true) (λ_ _ _=>trivial) (λ_ h=>by rcases h with h|h|h<;>first|exact h|exact h.elim);have Aj:(G.grow (.arg 0) (G.mu (.arg 0)) ((n+vs.length) *12,12,cap)).mu (.arg 0)=G.mu (.arg 0):=by simp[Gh.grow]
  refine⟨_,_,rfl,st,rfl,λk o ho=> ?_,λ_ _ h=>by simp at h, ?_⟩
  ·match k,ho with
   | 0,ho=>
     obtain rfl:=Option.some.inj ho
     refine⟨hd,by decide,cap,X2.toArray,48,(0,0),by rw[hn'];simp[Gh.grow],by rw[Aj];exact b9 (w:=w.drew) (hw.lt _ hd) _ _ _,⟨λ_ _ h=>by omega,rfl,λ_=>rfl⟩,by simpa using T8,by rw[hn',List.size_toArray,T8];omega, ?_,λq _=>by rw[Aj];exact hF q (.inl rfl)⟩
     rw[hn',List.toList_toArray,aaE]
     exact F0.mono (nJ _ qC hlt)
  ·refine .ref (.arg 0) 0 (n+vs.length) ((n+vs.length) *12) 12 cap _ hd (by simp[Gh.grow]) (by rw[Nat.zero_add];exact Nat.le_refl _) ⟨_,_,rfl⟩ λ_=>⟨_,by simp;rfl,λ_=>by simp[Gh.grow]⟩
 ·have hbs:vb<w.heap.size:=(Array.getElem?_eq_some_iff.1 hY).1;obtain⟨c2,R,dF,hRl,tO⟩:=aaD (c:=cap) (vc:=vc) hi hpv (by omega) (by omega) (by omega) hX wu hbs hVc M4 U8 h1V;refine .inl ⟨en _ _,Calls.mono tO ?_⟩;rintro e w' ⟨rfl,rfl⟩;obtain⟨P1,Yp⟩:∃P1,P1=us.toList.take (i*12)++R:=⟨_,rfl⟩;have wE:((us.toList.drop (i*12)).take ((n - i) *12)).length=(n - i) *12:=by rw[List.length_take,List.length_drop,wu];omega
  have BV:(us.toList.take (i*12)).length=i*12:=by rw[List.length_take,wu];omega
  have T9:P1.length=c2*12:=by rw[Yp,List.length_append,BV,hRl];omega
  have agX:P1.take (i*12)=us.toList.take (i*12):=by rw[Yp];exact List.take_left' BV
  rw[← Yp];obtain⟨X3,hX3⟩:∃X3,X3=over (over P1 (i*12) V) ((i+vs.length) *12) ((us.toList.drop (i*12)).take ((n - i) *12)):=⟨_,rfl⟩;have adN:X3.length=c2*12:=by rw[hX3,cX (by rw[wE,cX (by rw[M4,T9];omega),T9];omega),cX (by rw[M4,T9];omega),T9]
  have agY:X3.take ((n+vs.length) *12)=us.toList.take (i*12)++V++(us.toList.drop (i*12)).take ((n - i) *12):=by
   rw[hX3,show(i+vs.length) *12=i*12+vs.length*12 by omega,show(n+vs.length) *12=i*12+vs.length*12+(n - i) *12 by omega,← agX];exact O7 M4 wE (by rw[T9];omega)
  rw[← hX3];have s1:=Ea (w:=w.drew) (n':=(n+vs.length) *12) (c':=c2) hw.drew qC hlt (.cells P1.toArray 48) (λ_=>False);obtain⟨G2,hG2⟩:∃G2,G2=G.grow (.arg 0) w.drew.heap.size ((n+vs.length) *12,12,c2):=⟨_,rfl⟩;have Aj:G2.mu (.arg 0)=w.heap.size:=by rw[hG2];simp[Gh.grow]
  have hF2:G2.F=G.F:=by rw[hG2];rfl
  have aaF:G2.arr (.arg 0)=some ((n+vs.length) *12,12,c2):=by rw[hG2];simp[Gh.grow]
  have Ek:G2.dom (.arg 0):=by rw[hG2];exact hd
  have hle2:G.le G2:=by rw[hG2];exact nJ _ qC hlt
  have hblk:(World.cL w.drew (.cells P1.toArray 48)).drew.heap[w.heap.size]?=some (.cells P1.toArray 48 (0,0)):=kg w.drew _;have adO:∀q,G2.F w.heap.size q=none:=λq=>by rw[hF2];exact hw.HI q
  rw[← hG2] at s1;have s2:=je s1.wf (λ_=>False) (λ_=>False);have s3:=iT (w:=(World.cL w.drew (.cells P1.toArray 48)).drew) (k:=.arg 0) (vs:=X3) s2.wf Ek (Gh.iF aaF (by decide)) (by rw[Aj];exact hblk) (λq ⟨uu,hq⟩=>by rw[Aj,adO q] at hq;cases hq);rw[Aj] at s3;have st:=((je hw (λ_=>True) (λk=>k.eR=true)).trans (s1.trans (s2.trans s3))).mono (W':=λ_=>True) (N':=λk=>k.eR=true) (λ_ _ _=>trivial) (λ_ h=>by rcases h with h|h|h|h<;>first|exact h|exact h.elim);refine⟨_,G2,rfl,st,rfl,λk o ho=> ?_,λ_ _ h=>by simp at h, ?_⟩
  ·match k,ho with
   | 0,ho=>
     obtain rfl:=Option.some.inj ho
     refine⟨Ek,by decide,c2,X3.toArray,48,(0,0),by rw[hn',aaF],by rw[Aj];exact b9 (Array.getElem?_eq_some_iff.1 hblk).1 _ _ _,⟨λ_ _ h=>by omega,rfl,λ_=>rfl⟩,by simpa using adN,by rw[hn',List.size_toArray,adN];omega, ?_,λq _=>by rw[Aj];exact adO q⟩
     rw[hn',List.toList_toArray,agY]
     exact F0.mono hle2
  ·refine .ref (.arg 0) 0 (n+vs.length) ((n+vs.length) *12) 12 c2 _ Ek aaF (by rw[Nat.zero_add];exact Nat.le_refl _) ⟨_,_,rfl⟩ λ_=>⟨_,by simp;rfl,λ_=>by rw[Aj,Nat.zero_mul]⟩
end Go.Proofs.YtacmmaaabfhhoaaGreatDoor.w
namespace Go.Proofs.YtacmmaaabfhhoaaGreatDoor.w.e
open Go Go.Abs Go.RowKit Go.Lib
set_option maxRecDepth 100000
set_option maxHeartbeats 2000000
noncomputable section
theorem Xl (m:Int):Ao (live.cfg m) (live.ext m):=rK (by
 intro g s h;unfold live.ext at h;split at h<;>first
  |(obtain rfl:=Option.some.inj h;first|exact live.Rb m|exact live.abJ m|exact live.Iw m|exact live.yA m|exact live.X8 m|exact live.I2 m)
  |cases h)
def adP (f:FuncId)(d:Nat):Bool:=Nat.beq f 31||(Nat.beq f 15&&(Nat.beq d 16||Nat.beq d 21||Nat.beq d 41)||(Nat.beq f 28&&Nat.beq d 8||(Nat.beq f 29&&Nat.beq d 26||(Nat.beq f 30&&Nat.beq d 5||Nat.beq f 7))))
def xR (m:Int):cE:={P:=live.prg,iC:=(live.cfg m).iC,jD:=adP}
theorem pO (m:Int):(xR m).P.prog.follows .mixedOrders=true:=live.ah m
theorem jF.toL {m:Int}{g:FuncId}{s:jy}(h:jF (live.cfg m) g s):jF (xR m) g s:=λev az args aP r h1 G w vs hw hg ha hh hv=>h ev az args aP r h1 G w vs hw hg ha hh hv
theorem O8 {m:Int}{g:FuncId}{args:List TV}{aP:List aO}{r:bz}(h:ai (cf m) g args aP r):ai (xR m) g args aP r:=λG w vs hw hg ha hh hv=>h G w vs hw hg ha hh hv
theorem Xm {m:Int}{g:FuncId}{args:List TV}{aP:List aO}{r:bz}(h:ai (xR m) g args aP r):ai (cf m) g args aP r:=λG w vs hw hg ha hh hv=>h G w vs hw hg ha hh hv
theorem JC (m:Int):Ao (xR m) (live.ext m):=rK λg s e=>jF.toL (Xl m g s e)
def xN:List (List Tree×Tree):=[([.sl []],.sl [])]
theorem r8 {m:Int}{g:FuncId}(h:ai (cf m) g [.t (.sl [])] [] (.ret (.t (.sl [])) [] [])):jF (xR m) g (wO (xR m) 300 g (r7 xN)):=Dm (pO m) (zj λp hp=>by
 simp only[xN,List.mem_cons,List.not_mem_nil,or_false] at hp;rcases hp with rfl;exact O8 h)
def pol (b:Bool):Tree:=.agg [.bool b,.int .u8 0,.sl [],.str [],.int .u8 0,.sl [],.str [],.int .u8 0,.sl [],.str [],.sl []]
def nmd (s:List UInt8)(b:Bool):Tree:=.agg [.str s,.bool b,.int .u8 0,.sl [],.str [],.int .u8 0,.sl [],.str [],.int .u8 0,.sl [],.str [],.sl []]
def nY:Tree:=nmd [121] true
def nN:Tree:=nmd [110] false
def Ua:jy:=λ_ args aP=>match args,aP with
 | [.ref (.arg 0) 0 1,.t (.int .i64 (.ofNat 0)),.j4 [v]],[.arr (g,true) 12 false cs]=>cond (Nat.beq g 48) (match T6 cs with
  |some l=>cond (Dk (v::l) (nN::flat [nY])) (some (.ret (.ref (.arg 0) 0 2) [.arr (48,true) 12 false ((flat [nN,nY]).map .t)] [])) none
  |none=>none) none
 |_,_=>none
theorem Ub (m:Int):jF (xR m) 31 Ua:=by
 intro ev az args aP r h G w vs hw hg had hH hv;unfold Ua at h;split at h
 ·rename_i v g cs;cases hb:Nat.beq g 48 with
  |false=>rw[hb] at h;cases h
  | true=>
    rw[hb] at h
    obtain rfl:=Nat.eq_of_beq_eq_true hb
    simp only[cond_true] at h
    split at h
    · rename_i l hl
      cases hs:Dk (v::l) (nN::flat [nY]) with
      |false=>rw[hs] at h;cases h
      | true=>
        rw[hs] at h
        have e:=E3 hs
        injection e with e1 e2
        subst e1
        subst e2
        obtain rfl:=G9 hl
        cases h
        have h1:=JB m (L:=[nY]) (vs:=[nN]) (n:=1) (i:=0) (by decide) (λy hy=>by rw[List.mem_singleton.1 hy];exact⟨rfl,rfl,rfl⟩) rfl (by omega) (by simp) (by decide) (λy hy=>by rw[List.mem_singleton.1 hy];exact⟨rfl,rfl,rfl⟩)
        obtain⟨x1,xs1,rfl,hx1,Vn⟩:=hv.gQ
        obtain⟨x2,x3,rfl,hx2,hx3⟩:=Vn.two
        refine O8 h1 G w _ hw hg had hH ⟨rfl,λj c u hc hu=> ?_⟩
        match j with
        |0=>cases hc;cases hu;exact hx1
        |1=>cases hc;cases hu;exact hx2
        |2=>cases hc;cases hu;cases hx3 with|j4 es a h=>exact .t _ _ h
        |j+3=>cases hc
    · cases h
 ·cases h
def ext1 (m:Int):Ext:=λ
 |71=>some (wO (xR m) 300 71 (r7 xN))
 |72=>some (wO (xR m) 300 72 (r7 xN))
 |101=>some (wO (xR m) 300 101 (r7 xN))
 |103=>some (wO (xR m) 300 103 (r7 xN))
 |74=>some (wO (xR m) 300 74 (r7 xN))
 |30=>some (wO (xR m) 300 30 (r7 []))
 |31=>some (wO (xR m) 300 31 Ua)
 |g=>live.ext m g
theorem M5 (m:Int):Ao (xR m) (ext1 m):=rK (by
 intro g s h;unfold ext1 at h;split at h<;>first
  |(obtain rfl:=Option.some.inj h;first|exact r8 (M1 aI)|exact r8 (Ju aI)|exact r8 (MO aI)|exact r8 (TW aI)|exact r8 (Jw aI)|exact Dm (pO m) (zj λ_ h=>by cases h)|exact Dm (pO m) (Ub m))
  |exact JC m g s h)
theorem ou {m:Int}{g:FuncId}{args:List TV}{aP:List aO}{r:bz}(h:rM (xR m) (ext1 m) 300 g args aP=some r):ai (cf m) g args aP r:=by
 rw[rN] at h;exact Xm λG w vs hw hg ha hh hv=>rH (pO m) (M5 m) 300 g args aP _ h G w vs hw hg ha hh hv
end
end Go.Proofs.YtacmmaaabfhhoaaGreatDoor.w.e
noncomputable section
namespace Go.Abs
open Go Go.RowKit
theorem O9 {G:Gh}{w w':World}(hw:WF G w)(hb:Below w.heap.size w w'):Step (λ_=>False) (λ_=>False) G w G w':=by
 refine⟨.refl G,⟨λb o v hf=> ?_,hw.inj,λk d=>Nat.lt_of_lt_of_le (hw.lt k d) hb.size⟩,λ_ _ _=>⟨rfl,rfl⟩,λb hlt _=>⟨hb.block b hlt,λ_=>rfl⟩,λ_ d=>.inl d,λk d=>.inl ⟨k,d,rfl,.inl rfl⟩,hb.size,hb.os,hb.tape,hb.output⟩;obtain⟨us,ty,fr,h1,h2⟩:=hw.F b o v hf;exact⟨us,ty,fr,by rw[hb.block b (Array.getElem?_eq_some_iff.1 h1).1];exact h1,h2⟩
def Gh.Xn (G:Gh)(b n:Nat)(us:Array Value):Gh:={F:=λb' o=>if b'=b then(if o<n then us[o]? else none) else G.F b' o,mu:=G.mu,arr:=λ_=>none,dom:=λ_=>False}
theorem borrow {C:cE}{g:FuncId}{l:List Tree}{K ty:Nat}{ag:Bool}{rest:List Tree}{r:Tree}(hu:gP ag K l)(hK:0<K)(hl:l≠ [])(hsc:∀F F' v,VT F r v->VT F' r v)
 (h:ai C g (.t (.sl l)::rest.map .t) [] (.ret (.t r) [] [])):ai C g (.ref (.arg 0) 0 l.length::rest.map .t) [.arr (ty,ag) K false ((flat l).map .t)] (.ret (.t r) [.arr (ty,ag) K false ((flat l).map .t)] []):=by
 intro G w vs hw hg had hH hv
 obtain⟨x,xs,rfl,hx,HM⟩:=hv.gQ
 obtain⟨hd,ho⟩:=hH (.arg 0) _ rfl
 obtain⟨_,cap,us,ty',fr,ha,hh,mV,hsz,hcl,mE,hF⟩:=ho
 have hpos:0<l.length:=by cases l with|nil=>exact absurd rfl hl|cons=>simp
 have hLn:((flat l).map TV.t).length=l.length*K:=by rw[hu.length]
 rw[hLn] at ha hcl mE
 have hcap:l.length<=cap:=by
  have:l.length*K<=cap*K:=by rw[← hsz];exact hcl
  exact Nat.le_of_mul_le_mul_right this hK
 obtain rfl:x=.slice (some ⟨G.mu (.arg 0),0,none⟩) l.length cap:=by
  cases hx with
  | ref k off len n' bE cap' v hd' qC hle' ho' uy=>
    rw[ha] at qC;cases qC
    obtain⟨a,rfl,h2⟩:=uy (by rw[Nat.zero_add])
    have:=h2 (by omega)
    subst this
    simp
 obtain⟨b,hb⟩:∃b,b=G.mu (.arg 0):=⟨_,rfl⟩
 rw[← hb] at hh hF
 have hF0:∀q,G.F b q=none:=λq=>hF q (.inl rfl)
 obtain⟨G1,Qj⟩:∃G1,G1=G.Xn b (l.length*K) us:=⟨_,rfl⟩
 have hle:∀b' o v,G.F b' o=some v->G1.F b' o=some v:=λb' o v e=>by
  rw[Qj];simp only[Gh.Xn];by_cases q:b'=b
  ·rw[q,hF0] at e;cases e
  ·rw[if_neg q];exact e
 have hw1:WF G1 w:=by
  refine⟨λb' o v e=> ?_,λk k' d=>by rw[Qj] at d;exact d.elim,λk d=>by rw[Qj] at d;exact d.elim⟩;rw[Qj] at e;simp only[Gh.Xn] at e;by_cases q:b'=b
  ·rw[if_pos q] at e;split at e
   ·subst q;exact⟨us,ty',fr,hh,e⟩
   ·cases e
  ·rw[if_neg q] at e;exact hw.F _ _ _ e
 have hg1:iA C G1:=λg' cs hcs=>by
  obtain⟨vals,h1,h2⟩:=hg g' cs hcs;exact⟨vals,λj c hj=>hle _ _ _ (h1 j c hj),λj c hj=>(h2 j c hj).mono hle⟩
 have hlen:(flat l).length=l.length*K:=by simpa using hLn
 have hcell:∀j,j<l.length*K->us[j]?=some (us[j]?.getD undef):=λj hj=>by
  have hlt:j<us.size:=by omega
  simp[hlt]
 have agZ:VT G1.F (.sl l) (.slice (some ⟨b,0,none⟩) l.length cap):=by
  refine .sl K l b 0 cap (λj=>us[j]?.getD undef) hl hcap hu.lens (λj c hj=> ?_) (λj c hj=> ?_)
  ·have hjl:j<l.length*K:=by rw[← hlen];exact(List.getElem?_eq_some_iff.1 hj).1
   rw[Qj];simp only[Gh.Xn,Nat.zero_add,if_true];rw[if_pos hjl];exact hcell j hjl
  ·have hjl:j<l.length*K:=by rw[← hlen];exact(List.getElem?_eq_some_iff.1 hj).1
   have h1:=mE.2 j (.t c) (us[j]?.getD undef) (by rw[List.getElem?_map,hj];rfl) (by rw[List.getElem?_take_of_lt hjl,Array.getElem?_toList];exact hcell j hjl);cases h1 with
   |t _ _ h1=>exact h1.mono hle
 have F0:cr G1 (.t (.sl l)::rest.map .t) (.slice (some ⟨b,0,none⟩) l.length cap::xs):=by
  refine⟨by simpa using hv.1,λj c u hc j3=> ?_⟩;cases j with
  |zero=>cases hc;cases j3;exact .t _ _ agZ
  | succ j=>
    have h1:=HM.2 j c u hc j3
    simp only[List.getElem?_cons_succ,List.getElem?_map,Option.map_eq_some_iff] at hc
    obtain⟨y,_,rfl⟩:=hc
    cases h1 with
    |t _ _ h1=>exact .t _ _ (h1.mono hle)
 have hpost:∀e w',p9 G1 w 0 (.ret (.t r) [] []) e w'->p9 G w 1 (.ret (.t r) [.arr (ty,ag) K false ((flat l).map .t)] []) e w':=by
  rintro e w' ⟨v,G2,rfl,st,_,_,_,hx2⟩;have hbw:Below w.heap.size w w':=⟨st.os,st.tape,st.output,st.size,λk hk=>(st.blocks k hk (λk' _ d=>by rw[Qj] at d;exact d.elim)).1⟩;have hst:=O9 hw hbw;refine⟨v,G,rfl,hst.mono (λ_ _ h=>h.elim) (λ_ h=>h.elim),rfl,λi o ho=> ?_,λ_ _ h=>by simp at h, ?_⟩
  ·obtain⟨d,Fu⟩:=gJ hH i o ho;exact⟨d,hst.keeps hw d (λh=>h) Fu⟩
  ·cases hx2 with
   |t _ _ h1=>exact .t _ _ (hsc _ _ _ h1)
 rw[← hb]
 rcases h G1 w _ hw1 hg1 ⟨λi hi=>by simp at hi,λp d=>by rw[Qj] at d;exact d⟩ (λk o hk=>by simp[bK,Heap.get] at hk) F0 with ⟨DF,hc⟩|⟨v,w',hr,hp⟩
 ·exact .inl ⟨DF,Calls.mono hc λe w' h=>hpost e w' h⟩
 ·exact .inr ⟨v,w',hr,hpost _ _ hp⟩
theorem Pb {k:IntKind}{n:Int}{b:Bool}:∀F F' v,VT F (.dr [.int k n,.bool b]) v->VT F' (.dr [.int k n,.bool b]) v:=by
 intro F F' v h;cases h with
 |dr cs vs hl h=>
  refine .dr _ _ hl λj c v hc hv=> ?_
  have h1:=h j c v hc hv
  match j with
  |0=>cases hc;cases h1;exact .int _ _
  |1=>cases hc;cases h1;exact .bool _
  |j+2=>cases hc
theorem Xo {C:cE}{fn:Func}{st:St}{o len:Nat}{g:TypeId×Bool}{bE:Nat}{fz:Bool}{ts:List Tree}(hr:jb C st fn.results.toList=some [.ref (.arg 0) o len])(hk:st.H.get (.arg 0)=some (.arr g bE fz (ts.map .t))):
 pK C fn 1 st=some (.ret (.ref (.arg 0) o len) [.arr g bE fz (ts.map .t)] []):=by
 unfold pK
 simp only[hr,nh,hk,tJ,TV.names,List.flatMap_cons,List.flatMap_nil,aO.names,nS,List.append_nil]
 rw[show eE=3998+2 from rfl,Et hk]
 simp[ke,Nm.eR]
theorem Uc {G:Gh}{v:Value}(h:VR G .bJ v):VR G (.j4 []) v:=by
 cases h;exact .j4 [] none (.zm none 0)
theorem Ac {C:cE}{g:FuncId}{xa:List TV}{os os':List aO}{vs:List Tree}{v:TV}{news:Heap}{K ty:Nat}{ag:Bool}(hu:gP ag K vs)(hK:0<K)(hl:os'.length=os.length)
 (h:ai C g (xa++[.t (.sl vs)]) os (.ret v os' news)):ai C g (xa++[.ref (.arg os.length) 0 vs.length]) (os++[.arr (ty,ag) K false ((flat vs).map .t)]) (.ret v (os'++[.dead]) news):=by
 intro G w xs hw hg had hH hv
 obtain⟨H,hHd⟩:∃H,H=bK 0 (os++[.arr (ty,ag) K false ((flat vs).map .t)]):=⟨_,rfl⟩
 rw[← hHd] at hH
 have Qx:∀i o,(os++[.arr (ty,ag) K false ((flat vs).map .t)])[i]?=some o->H.get (.arg i)=some o:=λi o hi=>by
  have:=Cq _ 0 i o hi;rw[Nat.zero_add] at this;rw[hHd];exact this
 have adQ:H.get (.arg os.length)=some (.arr (ty,ag) K false ((flat vs).map .t)):=Qx _ _ (by simp)
 obtain⟨Gf,hGf⟩:∃Gf,Gf=G.frozen w H [.arg os.length]:=⟨_,rfl⟩
 have hst:=iJ hw hH [.arg os.length]
 rw[← hGf] at hst
 have hdom:∀k,Gf.dom k↔G.dom k:=λk=>by rw[hGf];exact Iff.rfl
 have hf:pq H gl (.ref (.arg os.length) 0 vs.length)=some (.sl vs,[.arg os.length]):=Im adQ hu hK rfl rfl
 have hv2:cr Gf (xa++[.t (.sl vs)]) xs:=by
  refine⟨by have:=hv.1;simpa using this,λj c u hc j3=> ?_⟩;rcases Nat.lt_or_ge j xa.length with hj|hj
  ·rw[List.getElem?_append_left hj] at hc;exact(hv.2 j c u (by rw[List.getElem?_append_left hj];exact hc) j3).mono hst.le
  ·rw[List.getElem?_append_right hj] at hc;have h1:=hv.2 j (.ref (.arg os.length) 0 vs.length) u (by
    rw[List.getElem?_append_right hj];cases hq:j - xa.length with
    |zero=>rfl
    |succ q=>rw[hq] at hc;simp at hc) j3
   have:c=.t (.sl vs):=by
    cases hq:j - xa.length with
    |zero=>rw[hq] at hc;simpa using hc.symm
    |succ q=>rw[hq] at hc;simp at hc
   subst this;have h2:=zx hw hH [.arg os.length] gl _ _ _ _ hf (λ_ hk=>hk) h1;rw[hGf];exact .t _ _ h2
 have XZ:HR Gf w (bK 0 os):=λk o hk=>by
  obtain⟨j,rfl,hj⟩:=uC hk;simp only[Nat.zero_add] at*;have hjl:j<os.length:=(List.getElem?_eq_some_iff.1 hj).1;obtain⟨d,ho⟩:=hH (.arg j) o (Qx j o (by rw[List.getElem?_append_left hjl];exact hj));refine⟨(hdom _).2 d,hst.keeps hw d (λhW=> ?_) ho⟩;have:=List.mem_singleton.1 hW.1;injection this with this;omega
 have hn:(os++[aO.arr (ty,ag) K false ((flat vs).map .t)]).length=os.length+1:=by simp
 have Y5:uD Gf os.length:=⟨λi hi=>(hdom _).2 (had.1 i (by rw[hn];omega)),λp d=>had.2 p ((hdom _).1 d)⟩
 have hpost:∀e w',p9 Gf w os.length (.ret v os' news) e w'->p9 G w (os++[aO.arr (ty,ag) K false ((flat vs).map .t)]).length (.ret v (os'++[.dead]) news) e w':=by
  rintro e w' ⟨x,G2,rfl,st,hlen,h1,h2,h3⟩;refine⟨x,G2,rfl,(hst.trans st).mono (W':=λ_=>True) (N':=λk=>k.eR=true) (λ_ _ _=>trivial) (λ_ h=>by rcases h with h|h;exact h.elim;exact h),by simp[hlen],λi o ho=> ?_,h2,h3⟩;rcases Nat.lt_or_ge i os'.length with hi|hi
  ·rw[List.getElem?_append_left hi] at ho;exact h1 i o ho
  ·rw[List.getElem?_append_right hi] at ho;cases hq:i - os'.length with
   | zero=>
     rw[hq] at ho
     have e1:aO.dead=o:=by simpa using ho
     subst e1
     have e2:i=os.length:=by omega
     subst e2
     exact⟨st.le.dom _ ((hdom _).2 (had.1 _ (by rw[hn];omega))),trivial⟩
   |succ q=>rw[hq] at ho;simp at ho
 rcases h Gf w xs hst.wf (hg.mono hst.le) Y5 XZ hv2 with ⟨DF,hc⟩|⟨x,w',hr,hp⟩
 ·exact .inl ⟨DF,Calls.mono hc λe w' h=>hpost e w' h⟩
 ·exact .inr ⟨x,w',hr,hpost _ _ hp⟩
end Go.Abs
end
namespace Go.Proofs.YtacmmaaabfhhoaaGreatDoor.w
open Go Go.Abs Go.RowKit Go.Shelf Go.Lib
set_option maxRecDepth 100000
theorem one_cell {v:Value}(h:Go.Abs.one v=true):v.oneCell'=true:=by cases v<;>first|rfl|cases h
theorem DU {w:World}{b o:Nat}{X news:List Value}{ty:TypeId}{fr:Nat×Nat}(hb:w.heap[b]?=some (.cells X.toArray ty fr))(mV:mo X.toArray fr)(hfit:o+news.length<=X.length)(h1:∀v∈news,Go.Abs.one v=true):
 w.setCells b o news=World.bk w b (over X o news).toArray ty fr:=by
 have h2:=ia (P:=Tryz.prog) (b:=b) (o:=o) news w 0 X h1 hb mV (by simpa using hfit)
 have h3:=run_storeCells_cells (P:=Tryz.prog) b o news 0 w (λj hj=>by
  rw[cell_of hb];have:o+j<X.length:=by omega
  simp[this]) (λj hj=>by
  have:o+0+j<X.toArray.size:=by simp;omega
  have h4:=mV _ this;rw[zu hb];simp only[Bool.and_eq_false_iff,decide_eq_false_iff_not];by_cases h5:fr.1<=o+0+j
  ·right;exactλh6=>h4 ⟨h5,h6⟩
  ·left;exact h5) (λv hv=>one_cell (h1 v hv))
 rw[h3] at h2
 simp only[Nat.add_zero] at h2
 injection h2
theorem LU {w:World}{T K:Nat}{t ty':TypeId}{z:Value}{b o n c:Nat}{X:List Value}{ty:TypeId}{fr:Nat×Nat}(hu:Tryz.prog.underlying t=some (.slice T))(hz:∀w,(zeroValue T).run Tryz.prog w=.ok z w)(hzl:z.cells.size=K)(hz1:∀v∈z.cells.toList,Go.Abs.one v=true)
 (hn:0<n)(hb:w.heap[b]?=some (.cells X.toArray ty fr))(mV:mo X.toArray fr)(hfit:o+n*K<=X.length):
 (Builtin.clear_ #[t] ty' #[.slice (some ⟨b,o,none⟩) n c]).run Tryz.prog w=.ok (.tuple #[]) (World.bk w b (over X o (Builtin.zeroCells z.cells n).toList).toArray ty fr):=by
 have hst:=ia (P:=Tryz.prog) (b:=b) (o:=o) (Builtin.zeroCells z.cells n).toList w 0 X (λv hv=>by
  have hv:v∈(Builtin.zeroCells z.cells n):=by simpa using hv
  unfold Builtin.zeroCells at hv;rw[Array.mem_map] at hv;obtain⟨q,hq,rfl⟩:=hv;have hp:0<z.cells.size:=by
   rcases Nat.eq_zero_or_pos z.cells.size with h|h
   ·rw[h] at hq;simp at hq
   ·exact h
  have hlt:q % z.cells.size<z.cells.size:=Nat.mod_lt _ hp;rw[getElem!_pos z.cells _ hlt];exact hz1 _ (by simp)) hb mV (by
  have:(Builtin.zeroCells z.cells n).size=n*K:=by simp[Builtin.zeroCells,hzl]
  simp[this];exact hfit)
 simp only[Nat.add_zero] at hst
 obtain⟨m,rfl⟩:∃m,n=m+1:=⟨n - 1,by omega⟩
 simp[Builtin.clear_,run_underlying hu,hz,hst]
theorem Xp:∃i0 z,Tryz.prog.info? 48=some i0/\i0.zero=some z/\i0.size=12/\z.cells.size=12/\z.cells.toList.all Go.Abs.one=true:=⟨_,_,rfl,rfl,rfl,rfl,rfl⟩
set_option maxHeartbeats 4000000 in
theorem adR {w:World}{b n c i:Nat}{X:List Value}{ty:TypeId}(hi:i<n)(hnc:n<=c)(hX:w.heap[b]?=some (.cells X.toArray ty (0,0)))(wu:X.length=c*12)(U8:∀v∈X.take (n*12),Go.Abs.one v=true):
 ∃ Z:List Value,Z.length=12/\Calls Tryz.prog 32 #[.slice (some ⟨b,0,none⟩) n c,.int .i64 (i:Int),.int .i64 ((i:Int)+1)] w λe w'=>
  e=.returned (.slice (some ⟨b,0,none⟩) (n - 1) c)/\w'=World.bk w.drew b (over (over X (i*12) ((X.drop ((i+1) *12)).take ((n - (i+1)) *12))) ((n - 1) *12) Z).toArray ty (0,0):=by
 obtain⟨i0,z,hi0,hz0,hzs,hzl,hz1⟩:=Xp
 have mixed:Tryz.prog.follows .mixedOrders=true:=by kernel_rfl
 obtain⟨us,mE⟩:∃us,us=(X.drop ((i+1) *12)).take ((n - (i+1)) *12):=⟨_,rfl⟩
 have wE:us.length=(n - (i+1)) *12:=by rw[mE,List.length_take,List.length_drop,wu];omega
 have T7:∀j v,us[j]?=some v->X[(i+1) *12+j]?=some v:=λj v h=>by
  rw[mE,List.getElem?_take] at h;split at h
  ·rwa [List.getElem?_drop] at h
  ·cases h
 have AZ:∀v∈us,Go.Abs.one v=true:=λv h=>by
  refine U8 v ?_;rw[mE] at h;obtain⟨j,hj⟩:=List.getElem?_of_mem h;rw[List.getElem?_take] at hj;split at hj
  ·rw[List.getElem?_drop] at hj;exact List.mem_of_getElem? (i:=(i+1) *12+j) (by rw[List.getElem?_take,if_pos (by omega)];exact hj)
  ·cases hj
 have hXd:w.drew.heap[b]?=some (.cells X.toArray ty (0,0)):=hX
 have mV:mo X.toArray ((0,0):Nat×Nat):=λo _ h=>by omega
 obtain⟨A,hA,hsrc⟩:∃A:Addr,(if c=i+1 then some (⟨b,0,none⟩:Addr) else some ⟨b,(i+1) *12,none⟩)=some A/\(∀t u,us[t]?=some u->w.drew.cell? (A.add t)=some u):=by
  by_cases h:c=i+1
  ·refine⟨⟨b,0,none⟩,by simp[h],λt u hu=> ?_⟩;have h0:us.length=0:=by
    rw[wE,show n - (i+1)=0 by omega]
   rw[List.length_eq_zero_iff.1 h0] at hu;simp at hu
  ·refine⟨⟨b,(i+1) *12,none⟩,by simp[h],λt u hu=> ?_⟩;rw[Ab];exact(tI hXd _).trans (by simpa using T7 t u hu)
 obtain⟨X1,Xk⟩:∃X1,X1=over X (i*12) us:=⟨_,rfl⟩
 have aaC:X1.length=c*12:=by rw[Xk,cX (by rw[wE,wu];omega),wu]
 have JU:w.drew.setCells b (0+i*12) us=World.bk w.drew b X1.toArray ty (0,0):=by
  rw[Nat.zero_add,Xk];exact DU hXd mV (by rw[wE,wu];omega) AZ
 have hspare:∀j,j<us.length->(w.drew.cell? ⟨b,0+i*12+j,none⟩).isSome=true/\w.drew.frozen? ⟨b,0+i*12+j,none⟩=false:=λj hj=>by
  refine⟨?_,adL hXd⟩;rw[tI hXd];have:i*12+j<X.length:=by rw[wu];omega
  simp[this]
 have hone:∀u∈us,u.oneCell'=true:=λu hu=>one_cell (AZ u hu)
 have P9:b<w.drew.heap.size:=(Array.getElem?_eq_some_iff.1 hX).1
 obtain⟨Z,hZ⟩:∃Z,Z=(Builtin.zeroCells z.cells 1).toList:=⟨_,rfl⟩
 have hcl:∀ty',(Builtin.clear_ #[22] ty' #[.slice (some ⟨b,(n - 1) *12,none⟩) 1 (c - (n - 1))]).run Tryz.prog (World.bk w.drew b X1.toArray ty (0,0))=.ok (.tuple #[]) (World.bk w.drew b (over X1 ((n - 1) *12) Z).toArray ty (0,0)):=λty'=>by
  have h:=LU (w:=World.bk w.drew b X1.toArray ty (0,0)) (T:=48) (K:=12) (t:=22) (ty':=ty') (z:=z) (b:=b) (o:=(n - 1) *12) (n:=1) (c:=c - (n - 1)) (X:=X1) (ty:=ty) (fr:=(0,0)) Tryz.underlying22 (λw=>by simp[zeroValue,typeInfo,hi0,hz0]) hzl (List.all_eq_true.1 hz1) (by omega) (b9 P9 _ _ _) (λo _ h=>by omega) (by rw[aaC];omega);rw[lu,← hZ] at h;exact h
 have hic:i<=c:=by omega
 have hjc:i+1<=c:=by omega
 have hZl:Z.length=12:=by rw[hZ];simp[Builtin.zeroCells,hzl]
 refine⟨Z,hZl, ?_⟩
 rw[← mE,← Xk]
 clear mE Xk hZ
 have hne:¬((i:Int)=(i:Int)+1):=by omega
 have htn:((i:Int)+1).toNat=i+1:=by omega
 have hb1:(0:Int)<=(i:Int)+1:=by omega
 have hb2:(i:Int)<=(i:Int)+1:=by omega
 have hb3:(i:Int)+1<=(n:Int):=by omega
 have hn1:i+(n - (i+1))=n - 1:=by omega
 have hn2:n - (n - 1)=1:=by omega
 go_enter Tryz.func32,Tryz.ntmps32
 go_wp2_with fail
 go_region_law_o (refine step_append_room rfl (.tmp 22) (.tmp 25) 22 rfl 48 i0 12 Tryz.underlying22 hi0 hzs b 0 i c (by simp[Act.eval,Act.put]) A (n - (i+1)) (c - (i+1)) us (by simp[Act.eval,Act.put]) wE hsrc hone (by omega) hspare ?_;rw[JU])
 go_wp2
 go_ret
 exact⟨rfl,rfl⟩
theorem Ud {X us Z:List Value}{a b c:Nat}(hu:us.length=b)(hX:a+b+c<=X.length)(hZ:Z.length=c):(over (over X a us) (a+b) Z).take (a+b)=X.take a++us:=by
 have h1:(X.take a++us).length=a+b:=by simp only[List.length_append,List.length_take];omega
 have e1:over X a us=(X.take a++us)++X.drop (a+us.length):=rfl;have e2:(over X a us).take (a+b)=X.take a++us:=by rw[e1];exact List.take_left' h1
 rw[show over (over X a us) (a+b) Z=(over X a us).take (a+b)++(Z++(over X a us).drop (a+b+Z.length)) by unfold over;simp[List.append_assoc],e2];exact List.take_left' h1
set_option maxHeartbeats 2000000 in
theorem Ue (m:Int){L:List Tree}{n i:Nat}(hLl:L.length<=4194304)(O5:gP true 12 L)(hn:n=L.length)(hi:i<n):
 ai (cf m) 32 [.ref (.arg 0) 0 n,.t (.int .i64 (i:Int)),.t (.int .i64 ((i:Int)+1))] [.arr (48,true) 12 false ((flat L).map .t)]
  (.ret (.ref (.loc [0]) 0 (n - 1)) [.dead] [(.loc [0],.arr (48,true) 12 false ((flat (L.take i++L.drop (i+1))).map .t))]):=by
 intro G w xs hw hg had hH hv
 obtain⟨x,xs1,rfl,hx,hv⟩:=hv.gQ
 obtain⟨y,z,rfl,hy,hz⟩:=hv.two
 obtain⟨hd,ho⟩:=hH (.arg 0) _ rfl
 obtain⟨_,cap,us,ty,fr,ha,hh,⟨mV,hty,hun⟩,hsz,hcl,mE,hF⟩:=ho
 obtain rfl:fr=(0,0):=hun (by decide)
 obtain rfl:ty=48:=hty
 have hLn:((flat L).map TV.t).length=n*12:=by rw[O5.length,hn]
 rw[hLn] at ha hcl mE
 obtain rfl:=hy.vI
 obtain rfl:=hz.vI
 obtain rfl:x=.slice (some ⟨G.mu (.arg 0),0,none⟩) n cap:=by
  cases hx with
  | ref k off len n' bE cap' v hd' qC hle' ho' uy=>
    rw[ha] at qC;cases qC
    obtain⟨a,rfl,h2⟩:=uy (by omega)
    have:=h2 (by omega)
    subst this;rfl
 have U8:∀v∈us.toList.take (n*12),Go.Abs.one v=true:=p5 mE O5.nv
 have wu:us.toList.length=cap*12:=by simpa using hsz
 have hX:w.heap[G.mu (.arg 0)]?=some (.cells us.toList.toArray 48 (0,0)):=by rw[Array.toArray_toList];exact hh
 have agW:n*12<=us.toList.length:=by simpa using hcl
 have hnc:n<=cap:=by omega
 have en:∀args w,(callFunc 32 args).run Tryz.prog w=.ok (.enter 32 args) w:=enters_of Tryz.func32 (by kernel_rfl) rfl
 obtain⟨Z,hZl,tO⟩:=adR (w:=w) (c:=cap) hi hnc hX wu U8
 refine .inl ⟨en _ _,Calls.mono tO ?_⟩
 rintro e w' ⟨rfl,rfl⟩
 obtain⟨dG,AZ⟩:∃dG,dG=(us.toList.drop ((i+1) *12)).take ((n - (i+1)) *12):=⟨_,rfl⟩
 have wE:dG.length=(n - (i+1)) *12:=by rw[AZ,List.length_take,List.length_drop,wu];omega
 rw[← AZ]
 obtain⟨X2,Px⟩:∃X2,X2=over (over us.toList (i*12) dG) ((n - 1) *12) Z:=⟨_,rfl⟩
 have T8:X2.length=cap*12:=by rw[Px,cX (by rw[hZl,cX (by rw[wE,wu];omega),wu];omega),cX (by rw[wE,wu];omega),wu]
 have aaE:X2.take ((n - 1) *12)=us.toList.take (i*12)++dG:=by
  rw[Px,show(n - 1) *12=i*12+(n - (i+1)) *12 by omega];exact Ud wE (by rw[wu];omega) hZl
 rw[← Px]
 have hcells:(flat (L.take i++L.drop (i+1))).map TV.t=((flat L).map TV.t).take (i*12)++((flat L).map TV.t).drop ((i+1) *12):=by
  rw[Dn,zB O5.lens,zA O5.lens];simp[List.map_take,List.map_drop]
 have hlen:((flat (L.take i++L.drop (i+1))).map TV.t).length=(n - 1) *12:=by
  rw[hcells];simp only[List.length_append,List.length_take,List.length_drop,hLn];omega
 have F0:cr G ((flat (L.take i++L.drop (i+1))).map TV.t) (X2.take ((n - 1) *12)):=by
  rw[hcells,aaE];have h1:=mE.take (i*12);have h2:=mE.drop ((i+1) *12);rw[List.take_take,Nat.min_eq_left (by omega)] at h1;rw[List.drop_take,show n*12 - (i+1) *12=(n - (i+1)) *12 by omega,← AZ] at h2;exact h1.append h2
 have qC:G.arr (.arg 0)=some (n*12,12,cap):=ha
 have s1:=iT (w:=w.drew) (vs:=X2) hw.drew hd (Gh.iF qC (by decide)) hX (λq ⟨uu,hq⟩=>by rw[hF q (.inl rfl)] at hq;cases hq)
 have hno:¬G.dom (.loc [0]):=had.2 [0]
 have s2:=HN (m:=(n - 1) *12) (nm:=.loc [0]) s1.wf hno hd qC (by decide)
 have st:=((je hw (λ_=>True) (λk=>k.eR=true)).trans (s1.trans s2)).mono (W':=λ_=>True) (N':=λk=>k.eR=true) (λ_ _ _=>trivial) (λ_ h=>by rcases h with h|h|h<;>first|exact h|exact h.elim|(rw[h];rfl))
 have P9:G.mu (.arg 0)<w.drew.heap.size:=hw.lt _ hd
 refine⟨_,G.cut (.arg 0) (.loc [0]) (n*12) ((n - 1) *12) 12 cap,rfl,st,rfl,λk o ho=> ?_,λk o h=> ?_, ?_⟩
 ·match k,ho with
  | 0,ho=>
    obtain rfl:=Option.some.inj ho
    exact⟨.inr hd,trivial⟩
 ·simp only[List.mem_singleton,Prod.mk.injEq] at h;obtain⟨rfl,rfl⟩:=h;refine⟨rfl,.inl rfl,by decide,cap,X2.toArray,48,(0,0), ?_, ?_,⟨λ_ _ h=>by omega,rfl,λ_=>rfl⟩,by simpa using T8,by rw[hlen,List.size_toArray,T8];omega, ?_,λq _=> ?_⟩
  ·simp[Gh.cut,hlen]
  ·simp only[Gh.cut,if_true];exact b9 P9 _ _ _
  ·rw[hlen,List.toList_toArray];exact F0.mono s2.le
  ·have:=hF q (.inl rfl);simpa [Gh.cut] using this
 ·refine .ref (.loc [0]) 0 (n - 1) ((n - 1) *12) 12 cap _ (.inl rfl) (by simp[Gh.cut]) (by rw[Nat.zero_add];exact Nat.le_refl _) ⟨_,_,rfl⟩ λ_=>⟨_,rfl,λ_=>by simp[Gh.cut]⟩
end Go.Proofs.YtacmmaaabfhhoaaGreatDoor.w
namespace Go.Proofs.YtacmmaaabfhhoaaGreatDoor.w.e
open Go Go.Abs Go.RowKit
set_option maxRecDepth 100000
set_option maxHeartbeats 2000000
noncomputable section
theorem Re.adS {C:cE}{n:Nat}{sp:List (Nat×TV)}{i:Nat}{H:Heap}{t:Nat}:Re C ⟨dU n ((i,.bJ)::sp),H,t⟩ ⟨dU n ((i,.j4 [])::sp),H,t⟩:=by
 intro G0 w0 G w a h0 hs hst;have hl:a.tmps.toList.length=n:=by have:=hst.slots.1;rwa [fI] at this
 refine⟨G,hs,hst.wf,hst.iC,⟨by rw[fI];exact hl,λj c u hc hu=> ?_⟩,hst.heap,hst.fresh⟩;have hj:j<n:=by rw[← hl];exact(List.getElem?_eq_some_iff.1 hu).1
 have h2:=hst.slots.2 j _ u (mJ hj) hu;rw[mJ hj] at hc;cases hc;change VR G (bif Nat.beq j i then TV.bJ else Go.Abs.look sp j) u at h2;show VR G (bif Nat.beq j i then TV.j4 [] else Go.Abs.look sp j) u;cases hb:Nat.beq j i with
 |true=>rw[hb] at h2;exact Uc h2
 |false=>rw[hb] at h2;exact h2
theorem Uf {m:Int}{ev:aX}(az:aF (cf m) ev):ai (cf m) 74 [.t (.sl [])] [] (.ret (.j4 []) [] []):=by
 refine gY 8 1 Tryz.func74 rfl (by decide) rfl rfl (by decide) ?_;refine AW.seq ?_;refine AW.region ?_;refine cD.go (f:=0) az (by first|exact bL rfl|exact aB rfl) ?_;refine cD.nil ?_;refine AW.seq ?_;refine AW.seq ?_;refine AW.region ?_;refine cD.go (f:=0) az (by first|exact fh rfl|exact au rfl) ?_;refine cD.A1 rfl rfl LO rfl (λb hb=> ?_);refine cD.nil ?_;refine AW.cond rfl (λh4=> ?_) (λh4=> ?_)
 ·refine AW.seq ?_;refine AW.region ?_;refine cD.go (f:=0) az (by first|exact bL rfl|exact aB rfl) ?_;refine cD.nil ?_;refine AW.re Re.adS ?_;refine AW.ret ?_;exact .inr rfl
 ·refine AW.skip ?_;refine AW.seq ?_;refine AW.region ?_;refine cD.go (f:=0) az (oJ rfl LO rfl Xh rfl rfl) ?_;refine cD.go (f:=0) az (by first|exact fh rfl|exact au rfl) ?_;refine cD.go (f:=0) az (xd TS rfl rfl (.inl (.inl rfl)) (.inr (.inr ⟨_,rfl⟩))) ?_;refine cD.go (f:=0) az (by first|exact bL rfl|exact aB rfl) ?_;refine cD.nil ?_;refine AW.ret ?_;exact .inr rfl
abbrev evW (m:Int):aX:=rM (xR m) (live.ext m) 300
theorem aaG (m:Int):aF (xR m) (evW m):=by
 unfold evW;rw[rN];exact rH (pO m) (JC m) 300
theorem of_run {m:Int}{fuel:Nat}{f:FuncId}{args:List TV}{aP:List aO}{r:bz}(h:N2 (xR m) (evW m) fuel f args aP=some r):ai (cf m) f args aP r:=
 Xm λG w vs hw hg ha hh hv=>F5 (pO m) (aaG m) h hw hg ha hh hv
theorem Xq (m:Int)(e:Tree)(he:T .aN e):ai (cf m) 31 [.j4 [],.t (.int .i64 ((0:Nat):Int)),.t (.sl [e])] [] (.ret (.ref (.loc [17]) 0 1) [] [(.loc [17],.arr (48,true) 12 false ((flat [e]).map .t))]):=by
 obtain⟨a,b,k1,u1,t1,k2,u2,t2,k3,u3,t3,l,rfl,_⟩:=T.bC he;exact of_run (fuel:=50) (by kernel_rfl)
end
end Go.Proofs.YtacmmaaabfhhoaaGreatDoor.w.e
namespace Go.Proofs.YtacmmaaabfhhoaaGreatDoor.w.e
open Go Go.Abs
set_option maxRecDepth 100000
set_option maxHeartbeats 2000000
noncomputable section
theorem adT {ag:Bool}{sz a b:Nat}{L:List Tree}(hu:gP ag sz L)(h:a+b=L.length):(a+b) *sz=((flat L).map TV.t).length:=by
 rw[List.length_map,iK hu.lens,h]
theorem Xr (m:Int)(L:List Tree)(n:Nat)(e:Tree)(h0:L.length<=70000000)(h1:∀y∈L,T .aN y)(h2:n=L.length)(h3:T .aN e)(h4:gP true 12 ([e]:List Tree))(h5:([e]:List Tree)≠ []):∃r:{r:Unit // True},ai (cf m) 31 [.ref (.arg 0) 0 n,.t (.int .i64 ((n:Nat):Int)),.t (.sl ([e]:List Tree))] [.arr (48,true) 12 false ((flat L).map .t)] (.ret (.ref (.arg 0) 0 ((L++[e]).length)) [.arr (48,true) 12 false ((flat (L++[e])).map .t)] []):=by
 obtain⟨ev,az⟩:∃ev,aF (cf m) ev:=⟨_,aI⟩;refine AX.start 95 3 Tryz.func31 rfl (by decide) rfl rfl (by decide) ?_;refine AX.frames ?_;refine Zy (f:=0) (n:=3000) (once:=[]) (k:=95) (T:=0) (S:=[]) (ks:=[.arg 0]) (live:=[6]) ah az .ret (⟨dU 95 [(6,.ref (.arg 0) 0 ((L++([e]:List Tree)).length))],[(.arg 0,.arr (48,true) 12 false ((flat (L++([e]:List Tree))).map .t))],0⟩) [oP (adT (a:=0) (b:=n) (aT h1) (by omega)),oR n n (by omega),oB (show((((1:Nat):Int)==(0:Int))=false) from rfl),oB (beq_self_eq_true ((n:Nat):Int)),oU true 12 ([e]:List Tree) (by assumption) (by assumption),oX true 12 L n s4 (aT h1),oA ((n+([e]:List Tree).length) *192) s4,oL 48 12 (L++([e]:List Tree))] (by kernel_rfl) (by kernel_rfl) ?_;refine⟨⟨(),trivial⟩,.inr (Xo rfl rfl)⟩
def Ug:jy:=λ_ xa os=>match xa,os with
 | [.t (.sl [])],[]=>some (.ret (.j4 []) [] [])
 |_,_=>none
theorem Uh (m:Int):jF (xR m) 74 Ug:=λev az xa os r h G w vs hw hg had hH hv=>by
 unfold Ug at h;split at h
 ·cases h;exact O8 (Uf (m:=m) (ev:=mI) aI) G w vs hw hg had hH hv
 ·cases h
def M6:Ext:=λ|74=>some Ug|_=>none
theorem Ui (m:Int):Ao (xR m) M6:=rK (by
 intro g s h;unfold M6 at h;split at h
 ·obtain rfl:=Option.some.inj h;exact Uh m
 ·cases h)
theorem Xs (m:Int):ai (cf m) 30 [.t (.sl [])] [] (.ret (.j4 []) [] []):=by
 have az:aF (xR m) (rM (xR m) M6 30):=by rw[rN];exact rH (pO m) (Ui m) 30
 have h:N2 (xR m) (rM (xR m) M6 30) 50 30 [.t (.sl [])] []=some (.ret (.j4 []) [] []):=by kernel_rfl
 exact Xm λG w vs hw hg ha hh hv=>F5 (pO m) az h hw hg ha hh hv
theorem Dq {e:Tree}(h:T .aN e):∀y∈[e],T .aN y:=λy hy=>by rw[List.mem_singleton.1 hy];exact h
open Classical in
def Xt:List TV->List aO->Option bz:=λvb os=>match vb,os with
 | [.t (.sl l)],[]=>if T .aA (.sl l) then some (if l=[] then .ret (.j4 []) [] [] else aaz l) else none
 |_,_=>none
theorem LV (m:Int):mX (cf m) 30 Xt:=λa o q hq=>by
 unfold Xt at hq;split at hq
 ·rename_i l;split at hq
  ·rename_i hT;cases hq;obtain⟨l',e,hl,h2⟩:=T.dN hT;cases e;split
   ·rename_i e;subst e;exact Xs m
   ·rename_i hne;exact Xj m l hne hl h2
  ·cases hq
 ·cases hq
theorem Dr {ev:aX}(h:Has ev 30 Xt){l:List Tree}(hT:T .aA (.sl l))(hne:l≠ []):ev 30 [.t (.sl l)] []=some (aaz l):=h _ _ _ (show Xt _ _=_ from(if_pos hT).trans (congrArg some (if_neg hne)))
theorem JD {ev:aX}(h:Has ev 30 Xt):ev 30 [.t (.sl [])] []=some (.ret (.j4 []) [] []):=h _ _ _ (show Xt _ _=_ from(if_pos (.aA _ (Nat.zero_le _) (λ_ h=>by cases h))).trans (congrArg some (if_pos rfl)))
def JE (x:List Tree×Nat×Nat):List TV×List aO:=([.ref (.arg 0) 0 x.2.1,.t (.int .i64 ((x.2.2:Nat):Int)),.t (.int .i64 ((x.2.2:Nat)+1:Int))],[.arr (48,true) 12 false ((flat x.1).map .t)])
def JF (x:List Tree×Nat×Nat):Prop:=x.1.length<=4194304/\(∀y∈x.1,T .aN y)/\x.2.1=x.1.length/\x.2.2<x.2.1
def Yr (x:List Tree×Nat×Nat):bz:=.ret (.ref (.loc [0]) 0 (x.2.1 - 1)) [.dead] [(.loc [0],.arr (48,true) 12 false ((flat (x.1.take x.2.2++x.1.drop (x.2.2+1))).map .t))]
theorem Xu:∀x y,JF x->JF y->JE x=JE y->x=y:=by
 rintro ⟨L1,n1,i1⟩ ⟨L2,n2,i2⟩ h1 h2 h;have e_L:L1=L2:=vX (by decide) (aT h1.2.1) (aT h2.2.1) (congrArg (W6 0) h);have e_n:n1=n2:=h1.2.2.1.trans ((congrArg List.length e_L).trans h2.2.2.1.symm);have e_i:i1=i2:=Int.ofNat.inj (congrArg (adv 1) h);rw[e_L,e_n,e_i]
theorem Uj (m:Int)(x:List Tree×Nat×Nat)(h:JF x):ai (cf m) 32 (JE x).1 (JE x).2 (Yr x):=Ue m h.1 (aT h.2.1) h.2.2.1 h.2.2.2
def JG (x:List Tree×Nat×Nat×Tree):List TV×List aO:=([.ref (.arg 0) 0 x.2.1,.t (.int .i64 ((x.2.2.1:Nat):Int)),.ref (.arg 1) 0 1],[.arr (48,true) 12 false ((flat x.1).map .t),.arr (48,true) 12 false ((flat [x.2.2.2]).map .t)])
def JH (x:List Tree×Nat×Nat×Tree):Prop:=x.1.length<=4194304/\(∀y∈x.1,T .aN y)/\x.2.1=x.1.length/\x.2.2.1<=x.2.1/\T .aN x.2.2.2
def Uk (L:List Tree)(i:Nat)(e:Tree):List Tree:=L.take i++[e]++L.drop i
def Ys (x:List Tree×Nat×Nat×Tree):bz:=.ret (.ref (.arg 0) 0 (x.2.1+1)) [.arr (48,true) 12 false ((flat (Uk x.1 x.2.2.1 x.2.2.2)).map .t),.dead] []
theorem Xv:∀x y,JH x->JH y->JG x=JG y->x=y:=by
 rintro ⟨L1,n1,i1,a1⟩ ⟨L2,n2,i2,a2⟩ h1 h2 h;have e_L:L1=L2:=vX (by decide) (aT h1.2.1) (aT h2.2.1) (congrArg (W6 0) h);have e_n:n1=n2:=h1.2.2.1.trans ((congrArg List.length e_L).trans h2.2.2.1.symm);have e_i:i1=i2:=Int.ofNat.inj (congrArg (adv 1) h);have e_a:[a1]=[a2]:=vX (by decide) (aT (Dq h1.2.2.2.2)) (aT (Dq h2.2.2.2.2)) (congrArg (W6 1) h);rw[e_L,e_n,e_i,List.head_eq_of_cons_eq e_a]
theorem Ul (m:Int)(x:List Tree×Nat×Nat×Tree)(h:JH x):ai (cf m) 31 (JG x).1 (JG x).2 (Ys x):=by
 obtain⟨L,n,i,e⟩:=x;obtain⟨h1,h2,h3,h4,h5⟩:=h;have h5:T .aN e:=h5;have hu:=aT (Dq h5);have h3:n=L.length:=h3;have h1:L.length<=4194304:=h1;have h4:i<=n:=h4;rcases Nat.lt_or_eq_of_le h4 with hlt|rfl
 ·exact Ac (xa:=[.ref (.arg 0) 0 n,.t (.int .i64 ((i:Nat):Int))]) (vs:=[e]) (os:=[.arr (48,true) 12 false ((flat L).map .t)]) (os':=[.arr (48,true) 12 false ((flat (Uk L i e)).map .t)]) hu (by decide) rfl (JB m h1 (aT h2) h3 hlt (by simp) (by show 1<=4194304;omega) hu)
 ·obtain⟨_,hc⟩:=Xr m L i e (by omega) h2 h3 h5 hu (by simp);have e1:Uk L i e=L++[e]:=by unfold Uk;rw[List.take_of_length_le (by omega),List.drop_eq_nil_of_le (by omega),List.append_nil]
  have e2:(L++[e]).length=i+1:=by rw[List.length_append,← h3];rfl
  rw[e2,← e1] at hc;exact Ac (xa:=[.ref (.arg 0) 0 i,.t (.int .i64 ((i:Nat):Int))]) (vs:=[e]) (os:=[.arr (48,true) 12 false ((flat L).map .t)]) (os':=[.arr (48,true) 12 false ((flat (Uk L i e)).map .t)]) hu (by decide) rfl hc
def E4 (x:List Tree×Tree):List TV×List aO:=([.ref (.arg 0) 0 x.1.length,.t x.2],[.arr (48,true) 12 false ((flat x.1).map .t)])
def JI (x:List Tree×Tree):Prop:=x.1≠ []/\x.1.length<=4194304/\(∀y∈x.1,T .aN y)/\T .string x.2
def E5 (m:Int)(x:List Tree×Tree):bz:=.ret (.t (.dr [.int .i64 (vr m (.sl x.1) x.2).1,.bool (vr m (.sl x.1) x.2).2])) [.arr (48,true) 12 false ((flat x.1).map .t)] []
theorem M7:∀x y,JI x->JI y->E4 x=E4 y->x=y:=by
 rintro ⟨L1,u1⟩ ⟨L2,u2⟩ h1 h2 h;have e_L:L1=L2:=vX (by decide) (aT h1.2.2.1) (aT h2.2.2.1) (congrArg (W6 0) h);have e_u:u1=u2:=by
  have h3:=congrArg (λp=>p.1[1]?) h;simpa [E4] using h3
 rw[e_L,e_u]
theorem Um (m:Int)(x:List Tree×Tree)(h:JI x):ai (cf m) 28 (E4 x).1 (E4 x).2 (E5 m x):=
 borrow (rest:=[x.2]) (aT h.2.2.1) (by decide) h.1 Pb (Classical.choose_spec (rZ m) (.sl x.1) x.2 ⟨.aA _ h.2.1 h.2.2.1,h.2.2.2⟩).1
end
end Go.Proofs.YtacmmaaabfhhoaaGreatDoor.w.e
noncomputable section
namespace Go.Abs
open Go
section
variable {K:Type}{key:Tree->K}{lt:K->K->Prop}
def AL (key:Tree->K)(lt:K->K->Prop)(l:List Tree):Prop:=l.Pairwise λa b=>lt (key a) (key b)
theorem AL.at {l:List Tree}(h:AL key lt l){i j:Nat}{a b:Tree}(hij:i<j)(ha:l[i]?=some a)(hb:l[j]?=some b):lt (key a) (key b):=by
 obtain⟨h1,rfl⟩:=List.getElem?_eq_some_iff.1 ha;obtain⟨h2,rfl⟩:=List.getElem?_eq_some_iff.1 hb;exact List.pairwise_iff_getElem.1 h i j h1 h2 hij
theorem AL.nodup (irr:∀a,¬lt a a){l:List Tree}(h:AL key lt l):(l.map key).Nodup:=List.pairwise_map.2 (h.imp λh e=>by rw[e] at h;exact irr _ h)
theorem AL.one (irr:∀a,¬lt a a){l:List Tree}(h:AL key lt l){i j:Nat}{a b:Tree}(ha:l[i]?=some a)(hb:l[j]?=some b)(he:key a=key b):i=j:=by
 rcases Nat.lt_trichotomy i j with g|g|g
 ·exact absurd (h.at g ha hb) (by rw[he];exact irr _)
 ·exact g
 ·exact absurd (h.at g hb ha) (by rw[he];exact irr _)
def He (key:Tree->K)(lt:K->K->Prop)(l:List Tree)(u:K)(r:Int×Bool):Prop:=∃k:Nat,r.1=(k:Int)/\k<=l.length/\(r.2=true↔∃e,l[k]?=some e/\key e=u)/\(AL key lt l->(∀e∈l.take k,lt (key e) u)/\∀e∈l.drop k,¬lt (key e) u)
theorem He.here (irr:∀a,¬lt a a){l:List Tree}{r:Int×Bool}{k:Nat}{e:Tree}(h:He key lt l (key e) r)(hr:AL key lt l)(he:l[k]?=some e):r=((k:Int),true):=by
 obtain⟨k2,h1,h2,h3,h4⟩:=h;obtain⟨h5,h6⟩:=h4 hr;have hk:k2=k:=by
  rcases Nat.lt_trichotomy k2 k with g|g|g
  ·have hlt:k<l.length:=(List.getElem?_eq_some_iff.1 he).1;have hx:l[k2]?=some l[k2]:=List.getElem?_eq_getElem (by omega);exact absurd (hr.at g hx he) (h6 _ (List.mem_of_getElem? (i:=0) (by rw[List.getElem?_drop,Nat.add_zero];exact hx)))
  ·exact g
  ·exact absurd (h5 e (List.mem_of_getElem? (i:=k) (by rw[List.getElem?_take,if_pos g];exact he))) (irr _)
 subst hk;exact Prod.ext h1 (h3.2 ⟨e,he,rfl⟩)
theorem He.none {l:List Tree}{u:K}{r:Int×Bool}(h:He key lt l u r)(hn:∀e∈l,key e≠u):r.2=false:=by
 obtain⟨k,_,_,h3,_⟩:=h;rw[Bool.eq_false_iff];intro g;obtain⟨e,he,hu⟩:=h3.1 g;exact hn e (List.mem_of_getElem? he) hu
def qw (l:List Tree)(k:Nat)(b:Bool):List Tree:=if b then l.take k++l.drop (k+1) else l
def ua (l:List Tree)(k:Nat)(b:Bool)(e:Tree):List Tree:=(qw l k b).take k++[e]++(qw l k b).drop k
theorem Un (l:List Tree)(k:Nat)(b:Bool):(qw l k b).Sublist l:=by
 unfold qw;split
 ·have h:(l.take k++l.drop (k+1)).Sublist (l.take k++l.drop k):=List.Sublist.append (List.Sublist.refl _) (by rw[show l.drop (k+1)=(l.drop k).drop 1 by rw[List.drop_drop]];exact List.drop_sublist _ _);rwa [List.take_append_drop] at h
 ·exact List.Sublist.refl _
variable {l:List Tree}{e:Tree}{k:Nat}{b:Bool}
theorem Uo (hk:k<l.length):ua l k true e=l.set k e:=by
 unfold ua qw;simp only[if_true];have h1:(l.take k).length=k:=by rw[List.length_take];omega
 rw[List.take_left' h1,List.drop_left' h1,List.set_eq_take_append_cons_drop,if_pos hk];simp
end
end Go.Abs
end
