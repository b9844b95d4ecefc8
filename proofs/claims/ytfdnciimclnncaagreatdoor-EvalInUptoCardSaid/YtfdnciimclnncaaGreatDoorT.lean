/- The shapes of arguments. -/
import Derived.Test.YtfdnciimclnncaaGreatDoorQ
import Derived.Test.YtfdnciimclnncaaGreatDoorS
import Derived.Test.YtfdnciimclnncaaGreatDoorR
import Derived.Laws.StructEq
set_option linter.unusedVariables false
set_option linter.unusedSimpArgs false
namespace Go.Proofs.YtfdnciimclnncaaGreatDoor.w.e
open Go Go.Abs
inductive K where
 |aB
 |cv
 |string
 |av
 |aM
 |bS
 |bP
 |Lint
 |int
 |jU
 |int64
 |bool
 |uint64
 |eR
 |aN
 |AP
inductive T:K->Tree->Prop
 |aB (type:List UInt8) (id_:List UInt8) (h0:type.length<=4194304) (h1:id_.length<=4194304):T .aB (.agg [.str type,.str id_])
 |cv (v:List Tree) (h0:v.length<=4194304) (h1:∀y∈v,T .string y):T .cv (.sl v)
 |string (v:List UInt8) (h0:v.length<=4194304):T .string (.str v)
 |av (kind:Int) (b_:Bool) (n:Int) (s:List UInt8) (t_:List UInt8) (names:List Tree) (list:List Tree) (h0:s.length<=4194304) (h1:t_.length<=4194304) (h2:names.length<=4194304) (h3:∀y∈names,T .string y) (h4:list.length<=4194304) (h5:∀y∈list,T .av y):T .av (.agg [.int .u8 kind,.bool b_,.int .i64 n,.str s,.str t_,.sl names,.sl list])
 |aM (op:Int) (n:Int) (s:List UInt8) (t_:List UInt8) (names:List Tree) (kids:List Tree) (h0:0<=op) (h1:s.length<=4194304) (h2:t_.length<=4194304) (h3:names.length<=4194304) (h4:∀y∈names,T .string y) (h5:kids.length<=4194304) (h6:∀y∈kids,T .aM y):T .aM (.agg [.int .u8 op,.int .i64 n,.str s,.str t_,.sl names,.sl kids])
 |bS (tL:List UInt8) (B2:List UInt8) (parents:List Tree) (tM:Int) (Dr:Bool) (Ds:Int) (x5:List UInt8) (x6:List UInt8) (jV:List Tree) (k8:List Tree) (h0:tL.length<=4194304) (h1:B2.length<=4194304) (h2:parents.length<=4194304) (h3:∀y∈parents,T .aB y) (h4:x5.length<=4194304) (h5:x6.length<=4194304) (h6:jV.length<=4194304) (h7:∀y∈jV,T .string y) (h8:k8.length<=4194304) (h9:∀y∈k8,T .av y):T .bS (.agg [.str tL,.str B2,.sl parents,.int .u8 tM,.bool Dr,.int .i64 Ds,.str x5,.str x6,.sl jV,.sl k8])
 |bP (jB:List UInt8) (k9:List UInt8) (mE:List UInt8) (qO:List UInt8) (j7:List UInt8) (mF:List UInt8) (pW:Int) (wR:Bool) (wS:Int) (qP:List UInt8) (qQ:List UInt8) (iQ:List Tree) (jl:List Tree) (h0:jB.length<=4194304) (h1:k9.length<=4194304) (h2:mE.length<=4194304) (h3:qO.length<=4194304) (h4:j7.length<=4194304) (h5:mF.length<=4194304) (h6:qP.length<=4194304) (h7:qQ.length<=4194304) (h8:iQ.length<=4194304) (h9:∀y∈iQ,T .string y) (h10:jl.length<=4194304) (h11:∀y∈jl,T .av y):T .bP (.agg [.str jB,.str k9,.str mE,.str qO,.str j7,.str mF,.int .u8 pW,.bool wR,.int .i64 wS,.str qP,.str qQ,.sl iQ,.sl jl])
 |Lint (v:List Tree) (h0:v.length<=4194304) (h1:∀y∈v,T .int y):T .Lint (.sl v)
 |int (v:Int):T .int (.int .i64 v)
 |jU (v:Int):T .jU (.int .u8 v)
 |int64 (v:Int):T .int64 (.int .i64 v)
 |bool (v:Bool):T .bool (.bool v)
 |uint64 (v:Int):T .uint64 (.int .u64 v)
 |eR (v:List Tree) (h0:v.length<=4194304) (h1:∀y∈v,T .aB y):T .eR (.sl v)
 |aN (v:List Tree) (h0:v.length<=4194304) (h1:∀y∈v,T .bS y):T .aN (.sl v)
 |AP (v:List Tree) (h0:v.length<=4194304) (h1:∀y∈v,T .av y):T .AP (.sl v)
theorem T.bH {x:Tree}(h:T .aB x):∃(type:List UInt8) (id_:List UInt8),x=.agg [.str type,.str id_]/\(type.length<=4194304)/\(id_.length<=4194304):=by
 cases h with
 |aB type id_ h0 h1=>exact⟨type,id_,rfl,h0,h1⟩
theorem T.mG {x:Tree}(h:T .cv x):∃(v:List Tree),x=.sl v/\(v.length<=4194304)/\(∀y∈v,T .string y):=by
 cases h with
 |cv v h0 h1=>exact⟨v,rfl,h0,h1⟩
theorem T.bE {x:Tree}(h:T .string x):∃(v:List UInt8),x=.str v/\(v.length<=4194304):=by
 cases h with
 |string v h0=>exact⟨v,rfl,h0⟩
theorem T.aD {x:Tree}(h:T .av x):∃(kind:Int) (b_:Bool) (n:Int) (s:List UInt8) (t_:List UInt8) (names:List Tree) (list:List Tree),x=.agg [.int .u8 kind,.bool b_,.int .i64 n,.str s,.str t_,.sl names,.sl list]/\(s.length<=4194304)/\(t_.length<=4194304)/\(names.length<=4194304)/\(∀y∈names,T .string y)/\(list.length<=4194304)/\(∀y∈list,T .av y):=by
 cases h with
 |av kind b_ n s t_ names list h0 h1 h2 h3 h4 h5=>exact⟨kind,b_,n,s,t_,names,list,rfl,h0,h1,h2,h3,h4,h5⟩
theorem T.bO {x:Tree}(h:T .aM x):∃(op:Int) (n:Int) (s:List UInt8) (t_:List UInt8) (names:List Tree) (kids:List Tree),x=.agg [.int .u8 op,.int .i64 n,.str s,.str t_,.sl names,.sl kids]/\(0<=op)/\(s.length<=4194304)/\(t_.length<=4194304)/\(names.length<=4194304)/\(∀y∈names,T .string y)/\(kids.length<=4194304)/\(∀y∈kids,T .aM y):=by
 cases h with
 |aM op n s t_ names kids h0 h1 h2 h3 h4 h5 h6=>exact⟨op,n,s,t_,names,kids,rfl,h0,h1,h2,h3,h4,h5,h6⟩
theorem T.dD {x:Tree}(h:T .bS x):∃(tL:List UInt8) (B2:List UInt8) (parents:List Tree) (tM:Int) (Dr:Bool) (Ds:Int) (x5:List UInt8) (x6:List UInt8) (jV:List Tree) (k8:List Tree),x=.agg [.str tL,.str B2,.sl parents,.int .u8 tM,.bool Dr,.int .i64 Ds,.str x5,.str x6,.sl jV,.sl k8]/\(tL.length<=4194304)/\(B2.length<=4194304)/\(parents.length<=4194304)/\(∀y∈parents,T .aB y)/\(x5.length<=4194304)/\(x6.length<=4194304)/\(jV.length<=4194304)/\(∀y∈jV,T .string y)/\(k8.length<=4194304)/\(∀y∈k8,T .av y):=by
 cases h with
 |bS tL B2 parents tM Dr Ds x5 x6 jV k8 h0 h1 h2 h3 h4 h5 h6 h7 h8 h9=>exact⟨tL,B2,parents,tM,Dr,Ds,x5,x6,jV,k8,rfl,h0,h1,h2,h3,h4,h5,h6,h7,h8,h9⟩
theorem T.kK {x:Tree}(h:T .bP x):∃(jB:List UInt8) (k9:List UInt8) (mE:List UInt8) (qO:List UInt8) (j7:List UInt8) (mF:List UInt8) (pW:Int) (wR:Bool) (wS:Int) (qP:List UInt8) (qQ:List UInt8) (iQ:List Tree) (jl:List Tree),x=.agg [.str jB,.str k9,.str mE,.str qO,.str j7,.str mF,.int .u8 pW,.bool wR,.int .i64 wS,.str qP,.str qQ,.sl iQ,.sl jl]/\(jB.length<=4194304)/\(k9.length<=4194304)/\(mE.length<=4194304)/\(qO.length<=4194304)/\(j7.length<=4194304)/\(mF.length<=4194304)/\(qP.length<=4194304)/\(qQ.length<=4194304)/\(iQ.length<=4194304)/\(∀y∈iQ,T .string y)/\(jl.length<=4194304)/\(∀y∈jl,T .av y):=by
 cases h with
 |bP jB k9 mE qO j7 mF pW wR wS qP qQ iQ jl h0 h1 h2 h3 h4 h5 h6 h7 h8 h9 h10 h11=>exact⟨jB,k9,mE,qO,j7,mF,pW,wR,wS,qP,qQ,iQ,jl,rfl,h0,h1,h2,h3,h4,h5,h6,h7,h8,h9,h10,h11⟩
theorem T.aat {x:Tree}(h:T .Lint x):∃(v:List Tree),x=.sl v/\(v.length<=4194304)/\(∀y∈v,T .int y):=by
 cases h with
 |Lint v h0 h1=>exact⟨v,rfl,h0,h1⟩
theorem T.uY {x:Tree}(h:T .int x):∃(v:Int),x=.int .i64 v:=by
 cases h with
 |int v=>exact⟨v,rfl⟩
theorem T.zL {x:Tree}(h:T .jU x):∃(v:Int),x=.int .u8 v:=by
 cases h with
 |jU v=>exact⟨v,rfl⟩
theorem T.ov {x:Tree}(h:T .int64 x):∃(v:Int),x=.int .i64 v:=by
 cases h with
 |int64 v=>exact⟨v,rfl⟩
theorem T.u6 {x:Tree}(h:T .eR x):∃(v:List Tree),x=.sl v/\(v.length<=4194304)/\(∀y∈v,T .aB y):=by
 cases h with
 |eR v h0 h1=>exact⟨v,rfl,h0,h1⟩
theorem T.eL {x:Tree}(h:T .aN x):∃(v:List Tree),x=.sl v/\(v.length<=4194304)/\(∀y∈v,T .bS y):=by
 cases h with
 |aN v h0 h1=>exact⟨v,rfl,h0,h1⟩
end Go.Proofs.YtfdnciimclnncaaGreatDoor.w.e
noncomputable section
namespace Go.Abs
open Go
theorem jW {α β:Type}(P:Program)(s:Sem α)(f:α->Sem β):eP P (s>>=f)=(eP P s).bind λa=>eP P (f a):=by
 show eP P (Sem.bind s f)=_;induction s with
 |pure a=>rfl
 |program k ih=>exact ih P
 |load m a k ih=>rfl
 |store m a v k ih=>rfl
 |new o k ih=>rfl
 |shape r k ih=>rfl
 |freeze a n k ih=>rfl
 |frozen a k ih=>rfl
 |getObj r k ih=>rfl
 |setObj r o k ih=>rfl
 |choose q k ih=>rfl
 |sys c k ih=>rfl
 |mark m k ih=>rfl
 |halt h=>rfl
theorem mR {α:Type}(P:Program)(a:α):eP P (pure a:Sem α)=some a:=rfl
theorem r6 (P:Program):eP P program=some P:=rfl
theorem tN {P:Program}{t:TypeId}{d:TypeDesc}(h:P.underlying t=some d):eP P (underlying t)=some d:=by
 simp only[underlying,jW,r6,Option.bind_some,h,mR]
theorem G7 {α:Type}(P:Program)(c:Prop)[Decidable c](x y:Sem α):eP P (if c then x else y)=if c then eP P x else eP P y:=by split<;>rfl
theorem B3 {P:Program}{d:Nat}{t:TypeId}(h:P.underlying t=some .string)(a b:ByteArray):eP P (Op.equalIn (d+1) t (.string a) (.string b))=some (a==b):=by
 simp only[Op.equalIn,jW,tN h,Option.bind_some,mR]
theorem JZ {P:Program}{kt:TypeId}{f1 f2:Field}(ht:P.underlying kt=some (.struct #[f1,f2]))(hs:P.stoodInHeld kt=false)(n1:f1.name≠ "_")(n2:f2.name≠ "_")(t1:P.underlying f1.type=some .string)(t2:P.underlying f2.type=some .string)
 (p1:∀a b,eP P (part f1.type #[.string a,.string b] f1.offset)=some (.string a))(p2:∀a b,eP P (part f2.type #[.string a,.string b] f2.offset)=some (.string b))(a b a' b':ByteArray):
 eP P (Op.equal kt (.agg #[.string a,.string b]) (.agg #[.string a',.string b']))=some ((a==a')&&(b==b')):=by
 simp only[Op.equal,Op.maxDepth]
 unfold Op.equalIn
 simp only[jW,tN ht,Option.bind_some,r6,hs,Bool.false_eq_true,if_false]
 rw[← Array.forIn_toList]
 simp only[List.forIn_cons,List.forIn_nil,jW,G7,if_pos n1,if_pos n2,p1,p2,Option.bind_some,B3 t1,B3 t2]
 cases a==a' with
 |false=>rfl
 |true=>
  simp only[Bool.not_true,Bool.false_eq_true,if_false,mR,Option.bind_some,jW,G7,p2,B3 t2]
  cases b==b'<;>rfl
theorem ahr (a b:List UInt8):((⟨a.toArray⟩:ByteArray)==⟨b.toArray⟩)=(a==b):=by
 rw[Bool.eq_iff_iff,NQ,beq_iff_eq,beq_iff_eq];exact⟨λh=>by simpa using congrArg Array.toList h,λh=>by rw[h]⟩
theorem aeJ {P:jZ}{kt:TypeId}{f1 f2:Field}(ht:P.prog.underlying kt=some (.struct #[f1,f2]))(hs:P.prog.stoodInHeld kt=false)(n1:f1.name≠ "_")(n2:f2.name≠ "_")(t1:P.prog.underlying f1.type=some .string)(t2:P.prog.underlying f2.type=some .string)
 (p1:∀a b,eP P.prog (part f1.type #[.string a,.string b] f1.offset)=some (.string a))(p2:∀a b,eP P.prog (part f2.type #[.string a,.string b] f2.offset)=some (.string b))(hg:P.prog.eqGuardType P.prog.depth kt=false)(x y:Operand)(a b a' b':List UInt8):
 vD P .eql kt x y (.t (.agg [.str a,.str b])) (.t (.agg [.str a',.str b']))=some (.t (.bool ((a==a')&&(b==b'))))/\vD P .neq kt x y (.t (.agg [.str a,.str b])) (.t (.agg [.str a',.str b']))=some (.t (.bool (!((a==a')&&(b==b'))))):=by
 have e:=JZ ht hs n1 n2 t1 t2 p1 p2 ⟨a.toArray⟩ ⟨b.toArray⟩ ⟨a'.toArray⟩ ⟨b'.toArray⟩
 rw[ahr,ahr] at e
 have d:∀a b:List UInt8,l8 (.t (.agg [.str a,.str b]))=some (.agg #[.string ⟨a.toArray⟩,.string ⟨b.toArray⟩]):=λa b=>rfl
 have g:∀op,eP P.prog (eqGuard op kt x y (.agg #[.string ⟨a.toArray⟩,.string ⟨b.toArray⟩]) (.agg #[.string ⟨a'.toArray⟩,.string ⟨b'.toArray⟩]))=some ():=λop=>by
  unfold eqGuard;cases op<;>simp[jW,r6,hg,mR]
 constructor
 ·unfold vD;simp only[isNil,Bool.false_eq_true,if_false];unfold xC;rw[d,d];simp only[jW,g,Option.bind_some,binOp,e,mR];rfl
 ·unfold vD;simp only[isNil,Bool.false_eq_true,if_false];unfold xC;rw[d,d];simp only[jW,g,Option.bind_some,binOp,e,mR];rfl
def bB (x:Tree):Prop:=∃s t:List UInt8,x=.agg [.str s,.str t]
theorem aqR {P:jZ}{kt:TypeId}{f1 f2:Field}(ht:P.prog.underlying kt=some (.struct #[f1,f2]))(hs:P.prog.stoodInHeld kt=false)(n1:f1.name≠ "_")(n2:f2.name≠ "_")(t1:P.prog.underlying f1.type=some .string)(t2:P.prog.underlying f2.type=some .string)
 (p1:∀a b,eP P.prog (part f1.type #[.string a,.string b] f1.offset)=some (.string a))(p2:∀a b,eP P.prog (part f2.type #[.string a,.string b] f2.offset)=some (.string b))
 (hok:∀b s t,y9 P b kt (.t (.agg [.str s,.str t]))=true)(fs:Array Field):KEq P kt (.struct fs) bB where
 same:=by
  rintro _ ⟨s,t,rfl⟩;have e:=JZ ht hs n1 n2 t1 t2 p1 p2 ⟨s.toArray⟩ ⟨t.toArray⟩ ⟨s.toArray⟩ ⟨t.toArray⟩;have r:∀x:ByteArray,(x==x)=true:=λx=>by rw[NQ];exact beq_self_eq_true _
  rw[r,r] at e;refine⟨e,.agg #[.string ⟨s.toArray⟩,.string ⟨t.toArray⟩],rfl, ?_⟩;have e2:Instr.sameBits 10000 (.agg #[.string ⟨s.toArray⟩,.string ⟨t.toArray⟩]) (.agg #[.string ⟨s.toArray⟩,.string ⟨t.toArray⟩])=(((⟨s.toArray⟩:ByteArray)==⟨s.toArray⟩)&&((⟨t.toArray⟩:ByteArray)==⟨t.toArray⟩)):=by
   simp[Instr.sameBits,r]
  rw[e2,r,r];rfl
 other:=by
  rintro _ _ ⟨s,t,rfl⟩ ⟨s',t',rfl⟩ hne;have e:=JZ ht hs n1 n2 t1 t2 p1 p2 ⟨s.toArray⟩ ⟨t.toArray⟩ ⟨s'.toArray⟩ ⟨t'.toArray⟩;have hb:(((⟨s.toArray⟩:ByteArray)==⟨s'.toArray⟩)&&((⟨t.toArray⟩:ByteArray)==⟨t'.toArray⟩))=false:=by
   rw[Bool.eq_false_iff];intro h;rw[Bool.and_eq_true,NQ,NQ] at h;have h1:=eq_of_beq h.1;have h2:=eq_of_beq h.2;simp only at h1 h2;have e1:s=s':=by simpa using congrArg Array.toList h1
   have e2:t=t':=by simpa using congrArg Array.toList h2
   exact hne (by rw[e1,e2])
  rw[hb] at e;exact e
 ok:=by
  rintro _ b ⟨s,t,rfl⟩;exact hok b s t
end Go.Abs
end
