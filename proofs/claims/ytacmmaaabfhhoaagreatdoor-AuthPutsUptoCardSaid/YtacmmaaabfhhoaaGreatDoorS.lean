/- The shapes of arguments. -/
import Derived.Test.YtacmmaaabfhhoaaGreatDoorQ
import Derived.Test.YtacmmaaabfhhoaaGreatDoorR
import Derived.Laws.StructEq
set_option linter.unusedVariables false
set_option linter.unusedSimpArgs false
namespace Go.Proofs.YtacmmaaabfhhoaaGreatDoor.w.e
open Go Go.Abs
inductive K where
 |bB
 |dz
 |string
 |qg
 |aK
 |vM
 |s5
 |Lint
 |int
 |bN
 |bt
 |iw
 |bI
 |aN
 |kC
 |yH
 |aA
 |jf
 |fY
inductive T:K->Tree->Prop
 |bB (type:List UInt8) (IX:List UInt8) (h0:type.length<=4194304) (h1:IX.length<=4194304):T .bB (.agg [.str type,.str IX])
 |dz (v:List Tree) (h0:v.length<=4194304) (h1:∀y∈v,T .string y):T .dz (.sl v)
 |string (v:List UInt8) (h0:v.length<=4194304):T .string (.str v)
 |qg (kind:Int) (b_:Bool) (n:Int) (s:List UInt8) (t_:List UInt8) (names:List Tree) (list:List Tree) (h0:s.length<=4194304) (h1:t_.length<=4194304) (h2:names.length<=4194304) (h3:∀y∈names,T .string y) (h4:list.length<=4194304) (h5:∀y∈list,T .qg y):T .qg (.agg [.int .u8 kind,.bool b_,.int .i64 n,.str s,.str t_,.sl names,.sl list])
 |aK (op:Int) (n:Int) (s:List UInt8) (t_:List UInt8) (names:List Tree) (kids:List Tree) (h0:0<=op) (h1:s.length<=4194304) (h2:t_.length<=4194304) (h3:names.length<=4194304) (h4:∀y∈names,T .string y) (h5:kids.length<=4194304) (h6:∀y∈kids,T .aK y):T .aK (.agg [.int .u8 op,.int .i64 n,.str s,.str t_,.sl names,.sl kids])
 |vM (IY:List UInt8) (RU:List UInt8) (parents:List Tree) (K5:Int) (Wb:Bool) (Wc:Int) (MC:List UInt8) (MD:List UInt8) (uT:List Tree) (xq:List Tree) (h0:IY.length<=4194304) (h1:RU.length<=4194304) (h2:parents.length<=4194304) (h3:∀y∈parents,T .bB y) (h4:MC.length<=4194304) (h5:MD.length<=4194304) (h6:uT.length<=4194304) (h7:∀y∈uT,T .string y) (h8:xq.length<=4194304) (h9:∀y∈xq,T .qg y):T .vM (.agg [.str IY,.str RU,.sl parents,.int .u8 K5,.bool Wb,.int .i64 Wc,.str MC,.str MD,.sl uT,.sl xq])
 |s5 (eL:List UInt8) (yI:List UInt8) (gT:List UInt8) (EB:List UInt8) (fy:List UInt8) (AA:List UInt8) (Gm:Int) (Oj:Bool) (Ol:Int) (ED:List UInt8) (EE:List UInt8) (q3:List Tree) (s6:List Tree) (h0:eL.length<=4194304) (h1:yI.length<=4194304) (h2:gT.length<=4194304) (h3:EB.length<=4194304) (h4:fy.length<=4194304) (h5:AA.length<=4194304) (h6:ED.length<=4194304) (h7:EE.length<=4194304) (h8:q3.length<=4194304) (h9:∀y∈q3,T .string y) (h10:s6.length<=4194304) (h11:∀y∈s6,T .qg y):T .s5 (.agg [.str eL,.str yI,.str gT,.str EB,.str fy,.str AA,.int .u8 Gm,.bool Oj,.int .i64 Ol,.str ED,.str EE,.sl q3,.sl s6])
 |Lint (v:List Tree) (h0:v.length<=4194304) (h1:∀y∈v,T .int y):T .Lint (.sl v)
 |int (v:Int):T .int (.int .i64 v)
 |bN (v:List Tree) (h0:v.length<=4194304) (h1:∀y∈v,T .bB y):T .bN (.sl v)
 |bt (CN:Bool) (kD:Int) (fK:List Tree) (eL:List UInt8) (nX:Int) (iM:List Tree) (gT:List UInt8) (k9:Int) (gq:List Tree) (fy:List UInt8) (conds:List Tree) (h0:fK.length<=4194304) (h1:∀y∈fK,T .bB y) (h2:eL.length<=4194304) (h3:iM.length<=4194304) (h4:∀y∈iM,T .bB y) (h5:gT.length<=4194304) (h6:gq.length<=4194304) (h7:∀y∈gq,T .bB y) (h8:fy.length<=4194304) (h9:conds.length<=4194304) (h10:∀y∈conds,T .iw y):T .bt (.agg [.bool CN,.int .u8 kD,.sl fK,.str eL,.int .u8 nX,.sl iM,.str gT,.int .u8 k9,.sl gq,.str fy,.sl conds])
 |iw (vN:Bool) (qH:Int) (zM:Int) (uU:List UInt8) (uV:List UInt8) (iU:List Tree) (jO:List Tree) (h0:0<=qH) (h1:uU.length<=4194304) (h2:uV.length<=4194304) (h3:iU.length<=4194304) (h4:∀y∈iU,T .string y) (h5:jO.length<=4194304) (h6:∀y∈jO,T .aK y):T .iw (.agg [.bool vN,.int .u8 qH,.int .i64 zM,.str uU,.str uV,.sl iU,.sl jO])
 |bI (kind:Int) (Gn:List Tree) (type:List UInt8) (h0:Gn.length<=4194304) (h1:∀y∈Gn,T .bB y) (h2:type.length<=4194304):T .bI (.agg [.int .u8 kind,.sl Gn,.str type])
 |aN (IX:List UInt8) (jP:Bool) (eG:Int) (bS:List Tree) (cK:List UInt8) (fZ:Int) (cG:List Tree) (dY:List UInt8) (eV:Int) (bW:List Tree) (cZ:List UInt8) (gu:List Tree) (h0:IX.length<=4194304) (h1:bS.length<=4194304) (h2:∀y∈bS,T .bB y) (h3:cK.length<=4194304) (h4:cG.length<=4194304) (h5:∀y∈cG,T .bB y) (h6:dY.length<=4194304) (h7:bW.length<=4194304) (h8:∀y∈bW,T .bB y) (h9:cZ.length<=4194304) (h10:gu.length<=4194304) (h11:∀y∈gu,T .iw y):T .aN (.agg [.str IX,.bool jP,.int .u8 eG,.sl bS,.str cK,.int .u8 fZ,.sl cG,.str dY,.int .u8 eV,.sl bW,.str cZ,.sl gu])
 |kC (v:List Tree) (h0:v.length<=4194304) (h1:∀y∈v,T .aK y):T .kC (.sl v)
 |yH (v:List Tree) (h0:v.length<=4194304) (h1:∀y∈v,T .iw y):T .yH (.sl v)
 |aA (v:List Tree) (h0:v.length<=4194304) (h1:∀y∈v,T .aN y):T .aA (.sl v)
 |jf (v:List Tree) (h0:v.length<=4194304) (h1:∀y∈v,T .fY y):T .jf (.sl v)
 |fY (v:Int):T .fY (.int .i64 v)
theorem T.jz {x:Tree}(h:T .bB x):∃(type:List UInt8) (IX:List UInt8),x=.agg [.str type,.str IX]/\(type.length<=4194304)/\(IX.length<=4194304):=by
 cases h with
 |bB type IX h0 h1=>exact⟨type,IX,rfl,h0,h1⟩
theorem T.nZ {x:Tree}(h:T .dz x):∃(v:List Tree),x=.sl v/\(v.length<=4194304)/\(∀y∈v,T .string y):=by
 cases h with
 |dz v h0 h1=>exact⟨v,rfl,h0,h1⟩
theorem T.cN {x:Tree}(h:T .string x):∃(v:List UInt8),x=.str v/\(v.length<=4194304):=by
 cases h with
 |string v h0=>exact⟨v,rfl,h0⟩
theorem T.bX {x:Tree}(h:T .aK x):∃(op:Int) (n:Int) (s:List UInt8) (t_:List UInt8) (names:List Tree) (kids:List Tree),x=.agg [.int .u8 op,.int .i64 n,.str s,.str t_,.sl names,.sl kids]/\(0<=op)/\(s.length<=4194304)/\(t_.length<=4194304)/\(names.length<=4194304)/\(∀y∈names,T .string y)/\(kids.length<=4194304)/\(∀y∈kids,T .aK y):=by
 cases h with
 |aK op n s t_ names kids h0 h1 h2 h3 h4 h5 h6=>exact⟨op,n,s,t_,names,kids,rfl,h0,h1,h2,h3,h4,h5,h6⟩
theorem T.vI {x:Tree}(h:T .int x):∃(v:Int),x=.int .i64 v:=by
 cases h with
 |int v=>exact⟨v,rfl⟩
theorem T.uW {x:Tree}(h:T .bN x):∃(v:List Tree),x=.sl v/\(v.length<=4194304)/\(∀y∈v,T .bB y):=by
 cases h with
 |bN v h0 h1=>exact⟨v,rfl,h0,h1⟩
theorem T.lf {x:Tree}(h:T .bt x):∃(CN:Bool) (kD:Int) (fK:List Tree) (eL:List UInt8) (nX:Int) (iM:List Tree) (gT:List UInt8) (k9:Int) (gq:List Tree) (fy:List UInt8) (conds:List Tree),x=.agg [.bool CN,.int .u8 kD,.sl fK,.str eL,.int .u8 nX,.sl iM,.str gT,.int .u8 k9,.sl gq,.str fy,.sl conds]/\(fK.length<=4194304)/\(∀y∈fK,T .bB y)/\(eL.length<=4194304)/\(iM.length<=4194304)/\(∀y∈iM,T .bB y)/\(gT.length<=4194304)/\(gq.length<=4194304)/\(∀y∈gq,T .bB y)/\(fy.length<=4194304)/\(conds.length<=4194304)/\(∀y∈conds,T .iw y):=by
 cases h with
 |bt CN kD fK eL nX iM gT k9 gq fy conds h0 h1 h2 h3 h4 h5 h6 h7 h8 h9 h10=>exact⟨CN,kD,fK,eL,nX,iM,gT,k9,gq,fy,conds,rfl,h0,h1,h2,h3,h4,h5,h6,h7,h8,h9,h10⟩
theorem T.oa {x:Tree}(h:T .iw x):∃(vN:Bool) (qH:Int) (zM:Int) (uU:List UInt8) (uV:List UInt8) (iU:List Tree) (jO:List Tree),x=.agg [.bool vN,.int .u8 qH,.int .i64 zM,.str uU,.str uV,.sl iU,.sl jO]/\(0<=qH)/\(uU.length<=4194304)/\(uV.length<=4194304)/\(iU.length<=4194304)/\(∀y∈iU,T .string y)/\(jO.length<=4194304)/\(∀y∈jO,T .aK y):=by
 cases h with
 |iw vN qH zM uU uV iU jO h0 h1 h2 h3 h4 h5 h6=>exact⟨vN,qH,zM,uU,uV,iU,jO,rfl,h0,h1,h2,h3,h4,h5,h6⟩
theorem T.s7 {x:Tree}(h:T .bI x):∃(kind:Int) (Gn:List Tree) (type:List UInt8),x=.agg [.int .u8 kind,.sl Gn,.str type]/\(Gn.length<=4194304)/\(∀y∈Gn,T .bB y)/\(type.length<=4194304):=by
 cases h with
 |bI kind Gn type h0 h1 h2=>exact⟨kind,Gn,type,rfl,h0,h1,h2⟩
theorem T.bC {x:Tree}(h:T .aN x):∃(IX:List UInt8) (jP:Bool) (eG:Int) (bS:List Tree) (cK:List UInt8) (fZ:Int) (cG:List Tree) (dY:List UInt8) (eV:Int) (bW:List Tree) (cZ:List UInt8) (gu:List Tree),x=.agg [.str IX,.bool jP,.int .u8 eG,.sl bS,.str cK,.int .u8 fZ,.sl cG,.str dY,.int .u8 eV,.sl bW,.str cZ,.sl gu]/\(IX.length<=4194304)/\(bS.length<=4194304)/\(∀y∈bS,T .bB y)/\(cK.length<=4194304)/\(cG.length<=4194304)/\(∀y∈cG,T .bB y)/\(dY.length<=4194304)/\(bW.length<=4194304)/\(∀y∈bW,T .bB y)/\(cZ.length<=4194304)/\(gu.length<=4194304)/\(∀y∈gu,T .iw y):=by
 cases h with
 |aN IX jP eG bS cK fZ cG dY eV bW cZ gu h0 h1 h2 h3 h4 h5 h6 h7 h8 h9 h10 h11=>exact⟨IX,jP,eG,bS,cK,fZ,cG,dY,eV,bW,cZ,gu,rfl,h0,h1,h2,h3,h4,h5,h6,h7,h8,h9,h10,h11⟩
theorem T.Gp {x:Tree}(h:T .kC x):∃(v:List Tree),x=.sl v/\(v.length<=4194304)/\(∀y∈v,T .aK y):=by
 cases h with
 |kC v h0 h1=>exact⟨v,rfl,h0,h1⟩
theorem T.dN {x:Tree}(h:T .aA x):∃(v:List Tree),x=.sl v/\(v.length<=4194304)/\(∀y∈v,T .aN y):=by
 cases h with
 |aA v h0 h1=>exact⟨v,rfl,h0,h1⟩
theorem T.DI {x:Tree}(h:T .jf x):∃(v:List Tree),x=.sl v/\(v.length<=4194304)/\(∀y∈v,T .fY y):=by
 cases h with
 |jf v h0 h1=>exact⟨v,rfl,h0,h1⟩
theorem T.Gq {x:Tree}(h:T .fY x):∃(v:Int),x=.int .i64 v:=by
 cases h with
 |fY v=>exact⟨v,rfl⟩
end Go.Proofs.YtacmmaaabfhhoaaGreatDoor.w.e
noncomputable section
namespace Go.Abs
open Go
theorem iN {α β:Type}(P:Program)(s:Sem α)(f:α->Sem β):dK P (s>>=f)=(dK P s).bind λa=>dK P (f a):=by
 show dK P (Sem.bind s f)=_;induction s with
 |pure a=>rfl
 |program k ih=>exact ih P
 |load m a k ih=>rfl
 |store m a v k ih=>rfl
 |new o k ih=>rfl
 |shape r k ih=>rfl
 |freeze a n k ih=>rfl
 |frozen a k ih=>rfl
 |getObj r k ih=>rfl
 |setObj r o k ih=>rfl
 |choose q k ih=>rfl
 |sys c k ih=>rfl
 |mark m k ih=>rfl
 |halt h=>rfl
theorem kM {α:Type}(P:Program)(a:α):dK P (pure a:Sem α)=some a:=rfl
theorem oY (P:Program):dK P program=some P:=rfl
theorem qh {P:Program}{t:TypeId}{d:TypeDesc}(h:P.underlying t=some d):dK P (underlying t)=some d:=by
 simp only[underlying,iN,oY,Option.bind_some,h,kM]
theorem AB {α:Type}(P:Program)(c:Prop)[Decidable c](x y:Sem α):dK P (if c then x else y)=if c then dK P x else dK P y:=by split<;>rfl
theorem xu {P:Program}{d:Nat}{t:TypeId}(h:P.underlying t=some .string)(a b:ByteArray):dK P (Op.equalIn (d+1) t (.string a) (.string b))=some (a==b):=by
 simp only[Op.equalIn,iN,qh h,Option.bind_some,kM]
theorem RV {P:Program}{kt:TypeId}{f1 f2:Field}(ht:P.underlying kt=some (.struct #[f1,f2]))(hs:P.stoodInHeld kt=false)(n1:f1.name≠ "_")(n2:f2.name≠ "_")(t1:P.underlying f1.type=some .string)(t2:P.underlying f2.type=some .string)
 (p1:∀a b,dK P (part f1.type #[.string a,.string b] f1.offset)=some (.string a))(p2:∀a b,dK P (part f2.type #[.string a,.string b] f2.offset)=some (.string b))(a b a' b':ByteArray):
 dK P (Op.equal kt (.agg #[.string a,.string b]) (.agg #[.string a',.string b']))=some ((a==a')&&(b==b')):=by
 simp only[Op.equal,Op.maxDepth]
 unfold Op.equalIn
 simp only[iN,qh ht,Option.bind_some,oY,hs,Bool.false_eq_true,if_false]
 rw[← Array.forIn_toList]
 simp only[List.forIn_cons,List.forIn_nil,iN,AB,if_pos n1,if_pos n2,p1,p2,Option.bind_some,xu t1,xu t2]
 cases a==a' with
 |false=>rfl
 |true=>
  simp only[Bool.not_true,Bool.false_eq_true,if_false,kM,Option.bind_some,iN,AB,p2,xu t2]
  cases b==b'<;>rfl
theorem Yd (a b:List UInt8):((⟨a.toArray⟩:ByteArray)==⟨b.toArray⟩)=(a==b):=by
 rw[Bool.eq_iff_iff,Kz,beq_iff_eq,beq_iff_eq];exact⟨λh=>by simpa using congrArg Array.toList h,λh=>by rw[h]⟩
theorem Wd {P:iP}{kt:TypeId}{f1 f2:Field}(ht:P.prog.underlying kt=some (.struct #[f1,f2]))(hs:P.prog.stoodInHeld kt=false)(n1:f1.name≠ "_")(n2:f2.name≠ "_")(t1:P.prog.underlying f1.type=some .string)(t2:P.prog.underlying f2.type=some .string)
 (p1:∀a b,dK P.prog (part f1.type #[.string a,.string b] f1.offset)=some (.string a))(p2:∀a b,dK P.prog (part f2.type #[.string a,.string b] f2.offset)=some (.string b))(hg:P.prog.eqGuardType P.prog.depth kt=false)(x y:Operand)(a b a' b':List UInt8):
 qT P .eql kt x y (.t (.agg [.str a,.str b])) (.t (.agg [.str a',.str b']))=some (.t (.bool ((a==a')&&(b==b'))))/\qT P .neq kt x y (.t (.agg [.str a,.str b])) (.t (.agg [.str a',.str b']))=some (.t (.bool (!((a==a')&&(b==b'))))):=by
 have e:=RV ht hs n1 n2 t1 t2 p1 p2 ⟨a.toArray⟩ ⟨b.toArray⟩ ⟨a'.toArray⟩ ⟨b'.toArray⟩
 rw[Yd,Yd] at e
 have d:∀a b:List UInt8,j5 (.t (.agg [.str a,.str b]))=some (.agg #[.string ⟨a.toArray⟩,.string ⟨b.toArray⟩]):=λa b=>rfl
 have g:∀op,dK P.prog (eqGuard op kt x y (.agg #[.string ⟨a.toArray⟩,.string ⟨b.toArray⟩]) (.agg #[.string ⟨a'.toArray⟩,.string ⟨b'.toArray⟩]))=some ():=λop=>by
  unfold eqGuard;cases op<;>simp[iN,oY,hg,kM]
 constructor
 ·unfold qT;simp only[isNil,Bool.false_eq_true,if_false];unfold sy;rw[d,d];simp only[iN,g,Option.bind_some,binOp,e,kM];rfl
 ·unfold qT;simp only[isNil,Bool.false_eq_true,if_false];unfold sy;rw[d,d];simp only[iN,g,Option.bind_some,binOp,e,kM];rfl
end Go.Abs
end
