/- The shapes of arguments. -/
import Derived.Test.YtfdnciimclnncaaGreatDoorQ
import Derived.Test.YtfdnciimclnncaaGreatDoorS
import Derived.Test.YtfdnciimclnncaaGreatDoorR
import Derived.Laws.StructEq
set_option linter.unusedVariables false
set_option linter.unusedSimpArgs false
namespace Go.Proofs.YtfdnciimclnncaaGreatDoor.w.e
open Go Go.Abs
inductive K where
 |aI
 |cB
 |string
 |av
 |aG
 |bP
 |bQ
 |Lint
 |int
 |jU
 |int64
 |bool
 |uint64
 |fe
 |aQ
 |AB
inductive T:K->Tree->Prop
 |aI (type:List UInt8) (id_:List UInt8) (h0:type.length<=4194304) (h1:id_.length<=4194304):T .aI (.agg [.str type,.str id_])
 |cB (v:List Tree) (h0:v.length<=4194304) (h1:∀y∈v,T .string y):T .cB (.sl v)
 |string (v:List UInt8) (h0:v.length<=4194304):T .string (.str v)
 |av (kind:Int) (b_:Bool) (n:Int) (s:List UInt8) (t_:List UInt8) (names:List Tree) (list:List Tree) (h0:s.length<=4194304) (h1:t_.length<=4194304) (h2:names.length<=4194304) (h3:∀y∈names,T .string y) (h4:list.length<=4194304) (h5:∀y∈list,T .av y):T .av (.agg [.int .u8 kind,.bool b_,.int .i64 n,.str s,.str t_,.sl names,.sl list])
 |aG (op:Int) (n:Int) (s:List UInt8) (t_:List UInt8) (names:List Tree) (kids:List Tree) (h0:0<=op) (h1:s.length<=4194304) (h2:t_.length<=4194304) (h3:names.length<=4194304) (h4:∀y∈names,T .string y) (h5:kids.length<=4194304) (h6:∀y∈kids,T .aG y):T .aG (.agg [.int .u8 op,.int .i64 n,.str s,.str t_,.sl names,.sl kids])
 |bP (tP:List UInt8) (BO:List UInt8) (parents:List Tree) (tQ:Int) (C9:Bool) (Da:Int) (xV:List UInt8) (xW:List UInt8) (jV:List Tree) (k4:List Tree) (h0:tP.length<=4194304) (h1:BO.length<=4194304) (h2:parents.length<=4194304) (h3:∀y∈parents,T .aI y) (h4:xV.length<=4194304) (h5:xW.length<=4194304) (h6:jV.length<=4194304) (h7:∀y∈jV,T .string y) (h8:k4.length<=4194304) (h9:∀y∈k4,T .av y):T .bP (.agg [.str tP,.str BO,.sl parents,.int .u8 tQ,.bool C9,.int .i64 Da,.str xV,.str xW,.sl jV,.sl k4])
 |bQ (jD:List UInt8) (k5:List UInt8) (mD:List UInt8) (qI:List UInt8) (j7:List UInt8) (mE:List UInt8) (pP:Int) (wO:Bool) (wP:Int) (qJ:List UInt8) (qK:List UInt8) (iO:List Tree) (jl:List Tree) (h0:jD.length<=4194304) (h1:k5.length<=4194304) (h2:mD.length<=4194304) (h3:qI.length<=4194304) (h4:j7.length<=4194304) (h5:mE.length<=4194304) (h6:qJ.length<=4194304) (h7:qK.length<=4194304) (h8:iO.length<=4194304) (h9:∀y∈iO,T .string y) (h10:jl.length<=4194304) (h11:∀y∈jl,T .av y):T .bQ (.agg [.str jD,.str k5,.str mD,.str qI,.str j7,.str mE,.int .u8 pP,.bool wO,.int .i64 wP,.str qJ,.str qK,.sl iO,.sl jl])
 |Lint (v:List Tree) (h0:v.length<=4194304) (h1:∀y∈v,T .int y):T .Lint (.sl v)
 |int (v:Int):T .int (.int .i64 v)
 |jU (v:Int):T .jU (.int .u8 v)
 |int64 (v:Int):T .int64 (.int .i64 v)
 |bool (v:Bool):T .bool (.bool v)
 |uint64 (v:Int):T .uint64 (.int .u64 v)
 |fe (v:List Tree) (h0:v.length<=4194304) (h1:∀y∈v,T .aI y):T .fe (.sl v)
 |aQ (v:List Tree) (h0:v.length<=4194304) (h1:∀y∈v,T .bP y):T .aQ (.sl v)
 |AB (v:List Tree) (h0:v.length<=4194304) (h1:∀y∈v,T .av y):T .AB (.sl v)
theorem T.cr {x:Tree}(h:T .aI x):∃(type:List UInt8) (id_:List UInt8),x=.agg [.str type,.str id_]/\(type.length<=4194304)/\(id_.length<=4194304):=by
 cases h with
 |aI type id_ h0 h1=>exact⟨type,id_,rfl,h0,h1⟩
theorem T.mF {x:Tree}(h:T .cB x):∃(v:List Tree),x=.sl v/\(v.length<=4194304)/\(∀y∈v,T .string y):=by
 cases h with
 |cB v h0 h1=>exact⟨v,rfl,h0,h1⟩
theorem T.bF {x:Tree}(h:T .string x):∃(v:List UInt8),x=.str v/\(v.length<=4194304):=by
 cases h with
 |string v h0=>exact⟨v,rfl,h0⟩
theorem T.aB {x:Tree}(h:T .av x):∃(kind:Int) (b_:Bool) (n:Int) (s:List UInt8) (t_:List UInt8) (names:List Tree) (list:List Tree),x=.agg [.int .u8 kind,.bool b_,.int .i64 n,.str s,.str t_,.sl names,.sl list]/\(s.length<=4194304)/\(t_.length<=4194304)/\(names.length<=4194304)/\(∀y∈names,T .string y)/\(list.length<=4194304)/\(∀y∈list,T .av y):=by
 cases h with
 |av kind b_ n s t_ names list h0 h1 h2 h3 h4 h5=>exact⟨kind,b_,n,s,t_,names,list,rfl,h0,h1,h2,h3,h4,h5⟩
theorem T.bE {x:Tree}(h:T .aG x):∃(op:Int) (n:Int) (s:List UInt8) (t_:List UInt8) (names:List Tree) (kids:List Tree),x=.agg [.int .u8 op,.int .i64 n,.str s,.str t_,.sl names,.sl kids]/\(0<=op)/\(s.length<=4194304)/\(t_.length<=4194304)/\(names.length<=4194304)/\(∀y∈names,T .string y)/\(kids.length<=4194304)/\(∀y∈kids,T .aG y):=by
 cases h with
 |aG op n s t_ names kids h0 h1 h2 h3 h4 h5 h6=>exact⟨op,n,s,t_,names,kids,rfl,h0,h1,h2,h3,h4,h5,h6⟩
theorem T.dG {x:Tree}(h:T .bP x):∃(tP:List UInt8) (BO:List UInt8) (parents:List Tree) (tQ:Int) (C9:Bool) (Da:Int) (xV:List UInt8) (xW:List UInt8) (jV:List Tree) (k4:List Tree),x=.agg [.str tP,.str BO,.sl parents,.int .u8 tQ,.bool C9,.int .i64 Da,.str xV,.str xW,.sl jV,.sl k4]/\(tP.length<=4194304)/\(BO.length<=4194304)/\(parents.length<=4194304)/\(∀y∈parents,T .aI y)/\(xV.length<=4194304)/\(xW.length<=4194304)/\(jV.length<=4194304)/\(∀y∈jV,T .string y)/\(k4.length<=4194304)/\(∀y∈k4,T .av y):=by
 cases h with
 |bP tP BO parents tQ C9 Da xV xW jV k4 h0 h1 h2 h3 h4 h5 h6 h7 h8 h9=>exact⟨tP,BO,parents,tQ,C9,Da,xV,xW,jV,k4,rfl,h0,h1,h2,h3,h4,h5,h6,h7,h8,h9⟩
theorem T.mG {x:Tree}(h:T .bQ x):∃(jD:List UInt8) (k5:List UInt8) (mD:List UInt8) (qI:List UInt8) (j7:List UInt8) (mE:List UInt8) (pP:Int) (wO:Bool) (wP:Int) (qJ:List UInt8) (qK:List UInt8) (iO:List Tree) (jl:List Tree),x=.agg [.str jD,.str k5,.str mD,.str qI,.str j7,.str mE,.int .u8 pP,.bool wO,.int .i64 wP,.str qJ,.str qK,.sl iO,.sl jl]/\(jD.length<=4194304)/\(k5.length<=4194304)/\(mD.length<=4194304)/\(qI.length<=4194304)/\(j7.length<=4194304)/\(mE.length<=4194304)/\(qJ.length<=4194304)/\(qK.length<=4194304)/\(iO.length<=4194304)/\(∀y∈iO,T .string y)/\(jl.length<=4194304)/\(∀y∈jl,T .av y):=by
 cases h with
 |bQ jD k5 mD qI j7 mE pP wO wP qJ qK iO jl h0 h1 h2 h3 h4 h5 h6 h7 h8 h9 h10 h11=>exact⟨jD,k5,mD,qI,j7,mE,pP,wO,wP,qJ,qK,iO,jl,rfl,h0,h1,h2,h3,h4,h5,h6,h7,h8,h9,h10,h11⟩
theorem T.aaw {x:Tree}(h:T .Lint x):∃(v:List Tree),x=.sl v/\(v.length<=4194304)/\(∀y∈v,T .int y):=by
 cases h with
 |Lint v h0 h1=>exact⟨v,rfl,h0,h1⟩
theorem T.vo {x:Tree}(h:T .int x):∃(v:Int),x=.int .i64 v:=by
 cases h with
 |int v=>exact⟨v,rfl⟩
theorem T.zz {x:Tree}(h:T .jU x):∃(v:Int),x=.int .u8 v:=by
 cases h with
 |jU v=>exact⟨v,rfl⟩
theorem T.oc {x:Tree}(h:T .int64 x):∃(v:Int),x=.int .i64 v:=by
 cases h with
 |int64 v=>exact⟨v,rfl⟩
theorem T.vq {x:Tree}(h:T .fe x):∃(v:List Tree),x=.sl v/\(v.length<=4194304)/\(∀y∈v,T .aI y):=by
 cases h with
 |fe v h0 h1=>exact⟨v,rfl,h0,h1⟩
theorem T.fD {x:Tree}(h:T .aQ x):∃(v:List Tree),x=.sl v/\(v.length<=4194304)/\(∀y∈v,T .bP y):=by
 cases h with
 |aQ v h0 h1=>exact⟨v,rfl,h0,h1⟩
end Go.Proofs.YtfdnciimclnncaaGreatDoor.w.e
noncomputable section
namespace Go.Abs
open Go
theorem jW {α β:Type}(P:Program)(s:Sem α)(f:α->Sem β):eM P (s>>=f)=(eM P s).bind λa=>eM P (f a):=by
 show eM P (Sem.bind s f)=_;induction s with
 |pure a=>rfl
 |program k ih=>exact ih P
 |load m a k ih=>rfl
 |store m a v k ih=>rfl
 |new o k ih=>rfl
 |shape r k ih=>rfl
 |freeze a n k ih=>rfl
 |frozen a k ih=>rfl
 |getObj r k ih=>rfl
 |setObj r o k ih=>rfl
 |choose q k ih=>rfl
 |sys c k ih=>rfl
 |mark m k ih=>rfl
 |halt h=>rfl
theorem mO {α:Type}(P:Program)(a:α):eM P (pure a:Sem α)=some a:=rfl
theorem rT (P:Program):eM P program=some P:=rfl
theorem tR {P:Program}{t:TypeId}{d:TypeDesc}(h:P.underlying t=some d):eM P (underlying t)=some d:=by
 simp only[underlying,jW,rT,Option.bind_some,h,mO]
theorem GI {α:Type}(P:Program)(c:Prop)[Decidable c](x y:Sem α):eM P (if c then x else y)=if c then eM P x else eM P y:=by split<;>rfl
theorem BP {P:Program}{d:Nat}{t:TypeId}(h:P.underlying t=some .string)(a b:ByteArray):eM P (Op.equalIn (d+1) t (.string a) (.string b))=some (a==b):=by
 simp only[Op.equalIn,jW,tR h,Option.bind_some,mO]
theorem JR {P:Program}{kt:TypeId}{f1 f2:Field}(ht:P.underlying kt=some (.struct #[f1,f2]))(hs:P.stoodInHeld kt=false)(n1:f1.name≠ "_")(n2:f2.name≠ "_")(t1:P.underlying f1.type=some .string)(t2:P.underlying f2.type=some .string)
 (p1:∀a b,eM P (part f1.type #[.string a,.string b] f1.offset)=some (.string a))(p2:∀a b,eM P (part f2.type #[.string a,.string b] f2.offset)=some (.string b))(a b a' b':ByteArray):
 eM P (Op.equal kt (.agg #[.string a,.string b]) (.agg #[.string a',.string b']))=some ((a==a')&&(b==b')):=by
 simp only[Op.equal,Op.maxDepth]
 unfold Op.equalIn
 simp only[jW,tR ht,Option.bind_some,rT,hs,Bool.false_eq_true,if_false]
 rw[← Array.forIn_toList]
 simp only[List.forIn_cons,List.forIn_nil,jW,GI,if_pos n1,if_pos n2,p1,p2,Option.bind_some,BP t1,BP t2]
 cases a==a' with
 |false=>rfl
 |true=>
  simp only[Bool.not_true,Bool.false_eq_true,if_false,mO,Option.bind_some,jW,GI,p2,BP t2]
  cases b==b'<;>rfl
theorem ahu (a b:List UInt8):((⟨a.toArray⟩:ByteArray)==⟨b.toArray⟩)=(a==b):=by
 rw[Bool.eq_iff_iff,NZ,beq_iff_eq,beq_iff_eq];exact⟨λh=>by simpa using congrArg Array.toList h,λh=>by rw[h]⟩
theorem aeG {P:j3}{kt:TypeId}{f1 f2:Field}(ht:P.prog.underlying kt=some (.struct #[f1,f2]))(hs:P.prog.stoodInHeld kt=false)(n1:f1.name≠ "_")(n2:f2.name≠ "_")(t1:P.prog.underlying f1.type=some .string)(t2:P.prog.underlying f2.type=some .string)
 (p1:∀a b,eM P.prog (part f1.type #[.string a,.string b] f1.offset)=some (.string a))(p2:∀a b,eM P.prog (part f2.type #[.string a,.string b] f2.offset)=some (.string b))(hg:P.prog.eqGuardType P.prog.depth kt=false)(x y:Operand)(a b a' b':List UInt8):
 vK P .eql kt x y (.t (.agg [.str a,.str b])) (.t (.agg [.str a',.str b']))=some (.t (.bool ((a==a')&&(b==b'))))/\vK P .neq kt x y (.t (.agg [.str a,.str b])) (.t (.agg [.str a',.str b']))=some (.t (.bool (!((a==a')&&(b==b'))))):=by
 have e:=JR ht hs n1 n2 t1 t2 p1 p2 ⟨a.toArray⟩ ⟨b.toArray⟩ ⟨a'.toArray⟩ ⟨b'.toArray⟩
 rw[ahu,ahu] at e
 have d:∀a b:List UInt8,l9 (.t (.agg [.str a,.str b]))=some (.agg #[.string ⟨a.toArray⟩,.string ⟨b.toArray⟩]):=λa b=>rfl
 have g:∀op,eM P.prog (eqGuard op kt x y (.agg #[.string ⟨a.toArray⟩,.string ⟨b.toArray⟩]) (.agg #[.string ⟨a'.toArray⟩,.string ⟨b'.toArray⟩]))=some ():=λop=>by
  unfold eqGuard;cases op<;>simp[jW,rT,hg,mO]
 constructor
 ·unfold vK;simp only[isNil,Bool.false_eq_true,if_false];unfold xq;rw[d,d];simp only[jW,g,Option.bind_some,binOp,e,mO];rfl
 ·unfold vK;simp only[isNil,Bool.false_eq_true,if_false];unfold xq;rw[d,d];simp only[jW,g,Option.bind_some,binOp,e,mO];rfl
def bB (x:Tree):Prop:=∃s t:List UInt8,x=.agg [.str s,.str t]
theorem aqe {P:j3}{kt:TypeId}{f1 f2:Field}(ht:P.prog.underlying kt=some (.struct #[f1,f2]))(hs:P.prog.stoodInHeld kt=false)(n1:f1.name≠ "_")(n2:f2.name≠ "_")(t1:P.prog.underlying f1.type=some .string)(t2:P.prog.underlying f2.type=some .string)
 (p1:∀a b,eM P.prog (part f1.type #[.string a,.string b] f1.offset)=some (.string a))(p2:∀a b,eM P.prog (part f2.type #[.string a,.string b] f2.offset)=some (.string b))
 (hok:∀b s t,yS P b kt (.t (.agg [.str s,.str t]))=true)(fs:Array Field):KEq P kt (.struct fs) bB where
 same:=by
  rintro _ ⟨s,t,rfl⟩;have e:=JR ht hs n1 n2 t1 t2 p1 p2 ⟨s.toArray⟩ ⟨t.toArray⟩ ⟨s.toArray⟩ ⟨t.toArray⟩;have r:∀x:ByteArray,(x==x)=true:=λx=>by rw[NZ];exact beq_self_eq_true _
  rw[r,r] at e;refine⟨e,.agg #[.string ⟨s.toArray⟩,.string ⟨t.toArray⟩],rfl, ?_⟩;have e2:Instr.sameBits 10000 (.agg #[.string ⟨s.toArray⟩,.string ⟨t.toArray⟩]) (.agg #[.string ⟨s.toArray⟩,.string ⟨t.toArray⟩])=(((⟨s.toArray⟩:ByteArray)==⟨s.toArray⟩)&&((⟨t.toArray⟩:ByteArray)==⟨t.toArray⟩)):=by
   simp[Instr.sameBits,r]
  rw[e2,r,r];rfl
 other:=by
  rintro _ _ ⟨s,t,rfl⟩ ⟨s',t',rfl⟩ hne;have e:=JR ht hs n1 n2 t1 t2 p1 p2 ⟨s.toArray⟩ ⟨t.toArray⟩ ⟨s'.toArray⟩ ⟨t'.toArray⟩;have hb:(((⟨s.toArray⟩:ByteArray)==⟨s'.toArray⟩)&&((⟨t.toArray⟩:ByteArray)==⟨t'.toArray⟩))=false:=by
   rw[Bool.eq_false_iff];intro h;rw[Bool.and_eq_true,NZ,NZ] at h;have h1:=eq_of_beq h.1;have h2:=eq_of_beq h.2;simp only at h1 h2;have e1:s=s':=by simpa using congrArg Array.toList h1
   have e2:t=t':=by simpa using congrArg Array.toList h2
   exact hne (by rw[e1,e2])
  rw[hb] at e;exact e
 ok:=by
  rintro _ b ⟨s,t,rfl⟩;exact hok b s t
end Go.Abs
end
