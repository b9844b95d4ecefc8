/- The shapes of arguments. -/
import Derived.Test.YtfdnciimclnncaaGreatDoorQ
import Derived.Test.YtfdnciimclnncaaGreatDoorS
import Derived.Test.YtfdnciimclnncaaGreatDoorR
import Derived.Laws.StructEq
set_option linter.unusedVariables false
set_option linter.unusedSimpArgs false
namespace Go.Proofs.YtfdnciimclnncaaGreatDoor.w.e
open Go Go.Abs
inductive K where
 |aH
 |cB
 |string
 |az
 |aD
 |bQ
 |cE
 |Lint
 |int
 |jS
 |int64
 |bool
 |uint64
 |fe
 |aS
 |Ax
inductive T:K->Tree->Prop
 |aH (type:List UInt8) (id_:List UInt8) (h0:type.length<=4194304) (h1:id_.length<=4194304):T .aH (.agg [.str type,.str id_])
 |cB (v:List Tree) (h0:v.length<=4194304) (h1:∀y∈v,T .string y):T .cB (.sl v)
 |string (v:List UInt8) (h0:v.length<=4194304):T .string (.str v)
 |az (kind:Int) (b_:Bool) (n:Int) (s:List UInt8) (t_:List UInt8) (names:List Tree) (list:List Tree) (h0:s.length<=4194304) (h1:t_.length<=4194304) (h2:names.length<=4194304) (h3:∀y∈names,T .string y) (h4:list.length<=4194304) (h5:∀y∈list,T .az y):T .az (.agg [.int .u8 kind,.bool b_,.int .i64 n,.str s,.str t_,.sl names,.sl list])
 |aD (op:Int) (n:Int) (s:List UInt8) (t_:List UInt8) (names:List Tree) (kids:List Tree) (h0:0<=op) (h1:s.length<=4194304) (h2:t_.length<=4194304) (h3:names.length<=4194304) (h4:∀y∈names,T .string y) (h5:kids.length<=4194304) (h6:∀y∈kids,T .aD y):T .aD (.agg [.int .u8 op,.int .i64 n,.str s,.str t_,.sl names,.sl kids])
 |bQ (tE:List UInt8) (BL:List UInt8) (parents:List Tree) (tF:Int) (C4:Bool) (C5:Int) (xJ:List UInt8) (xK:List UInt8) (jT:List Tree) (kY:List Tree) (h0:tE.length<=4194304) (h1:BL.length<=4194304) (h2:parents.length<=4194304) (h3:∀y∈parents,T .aH y) (h4:xJ.length<=4194304) (h5:xK.length<=4194304) (h6:jT.length<=4194304) (h7:∀y∈jT,T .string y) (h8:kY.length<=4194304) (h9:∀y∈kY,T .az y):T .bQ (.agg [.str tE,.str BL,.sl parents,.int .u8 tF,.bool C4,.int .i64 C5,.str xJ,.str xK,.sl jT,.sl kY])
 |cE (jA:List UInt8) (kZ:List UInt8) (mq:List UInt8) (qB:List UInt8) (j5:List UInt8) (mz:List UInt8) (pI:Int) (wE:Bool) (wF:Int) (qC:List UInt8) (qD:List UInt8) (iN:List Tree) (jk:List Tree) (h0:jA.length<=4194304) (h1:kZ.length<=4194304) (h2:mq.length<=4194304) (h3:qB.length<=4194304) (h4:j5.length<=4194304) (h5:mz.length<=4194304) (h6:qC.length<=4194304) (h7:qD.length<=4194304) (h8:iN.length<=4194304) (h9:∀y∈iN,T .string y) (h10:jk.length<=4194304) (h11:∀y∈jk,T .az y):T .cE (.agg [.str jA,.str kZ,.str mq,.str qB,.str j5,.str mz,.int .u8 pI,.bool wE,.int .i64 wF,.str qC,.str qD,.sl iN,.sl jk])
 |Lint (v:List Tree) (h0:v.length<=4194304) (h1:∀y∈v,T .int y):T .Lint (.sl v)
 |int (v:Int):T .int (.int .i64 v)
 |jS (v:Int):T .jS (.int .u8 v)
 |int64 (v:Int):T .int64 (.int .i64 v)
 |bool (v:Bool):T .bool (.bool v)
 |uint64 (v:Int):T .uint64 (.int .u64 v)
 |fe (v:List Tree) (h0:v.length<=4194304) (h1:∀y∈v,T .aH y):T .fe (.sl v)
 |aS (v:List Tree) (h0:v.length<=4194304) (h1:∀y∈v,T .bQ y):T .aS (.sl v)
 |Ax (v:List Tree) (h0:v.length<=4194304) (h1:∀y∈v,T .az y):T .Ax (.sl v)
theorem T.cr {x:Tree}(h:T .aH x):∃(type:List UInt8) (id_:List UInt8),x=.agg [.str type,.str id_]/\(type.length<=4194304)/\(id_.length<=4194304):=by
 cases h with
 |aH type id_ h0 h1=>exact⟨type,id_,rfl,h0,h1⟩
theorem T.mA {x:Tree}(h:T .cB x):∃(v:List Tree),x=.sl v/\(v.length<=4194304)/\(∀y∈v,T .string y):=by
 cases h with
 |cB v h0 h1=>exact⟨v,rfl,h0,h1⟩
theorem T.bF {x:Tree}(h:T .string x):∃(v:List UInt8),x=.str v/\(v.length<=4194304):=by
 cases h with
 |string v h0=>exact⟨v,rfl,h0⟩
theorem T.aB {x:Tree}(h:T .az x):∃(kind:Int) (b_:Bool) (n:Int) (s:List UInt8) (t_:List UInt8) (names:List Tree) (list:List Tree),x=.agg [.int .u8 kind,.bool b_,.int .i64 n,.str s,.str t_,.sl names,.sl list]/\(s.length<=4194304)/\(t_.length<=4194304)/\(names.length<=4194304)/\(∀y∈names,T .string y)/\(list.length<=4194304)/\(∀y∈list,T .az y):=by
 cases h with
 |az kind b_ n s t_ names list h0 h1 h2 h3 h4 h5=>exact⟨kind,b_,n,s,t_,names,list,rfl,h0,h1,h2,h3,h4,h5⟩
theorem T.bz {x:Tree}(h:T .aD x):∃(op:Int) (n:Int) (s:List UInt8) (t_:List UInt8) (names:List Tree) (kids:List Tree),x=.agg [.int .u8 op,.int .i64 n,.str s,.str t_,.sl names,.sl kids]/\(0<=op)/\(s.length<=4194304)/\(t_.length<=4194304)/\(names.length<=4194304)/\(∀y∈names,T .string y)/\(kids.length<=4194304)/\(∀y∈kids,T .aD y):=by
 cases h with
 |aD op n s t_ names kids h0 h1 h2 h3 h4 h5 h6=>exact⟨op,n,s,t_,names,kids,rfl,h0,h1,h2,h3,h4,h5,h6⟩
theorem T.dH {x:Tree}(h:T .bQ x):∃(tE:List UInt8) (BL:List UInt8) (parents:List Tree) (tF:Int) (C4:Bool) (C5:Int) (xJ:List UInt8) (xK:List UInt8) (jT:List Tree) (kY:List Tree),x=.agg [.str tE,.str BL,.sl parents,.int .u8 tF,.bool C4,.int .i64 C5,.str xJ,.str xK,.sl jT,.sl kY]/\(tE.length<=4194304)/\(BL.length<=4194304)/\(parents.length<=4194304)/\(∀y∈parents,T .aH y)/\(xJ.length<=4194304)/\(xK.length<=4194304)/\(jT.length<=4194304)/\(∀y∈jT,T .string y)/\(kY.length<=4194304)/\(∀y∈kY,T .az y):=by
 cases h with
 |bQ tE BL parents tF C4 C5 xJ xK jT kY h0 h1 h2 h3 h4 h5 h6 h7 h8 h9=>exact⟨tE,BL,parents,tF,C4,C5,xJ,xK,jT,kY,rfl,h0,h1,h2,h3,h4,h5,h6,h7,h8,h9⟩
theorem T.mB {x:Tree}(h:T .cE x):∃(jA:List UInt8) (kZ:List UInt8) (mq:List UInt8) (qB:List UInt8) (j5:List UInt8) (mz:List UInt8) (pI:Int) (wE:Bool) (wF:Int) (qC:List UInt8) (qD:List UInt8) (iN:List Tree) (jk:List Tree),x=.agg [.str jA,.str kZ,.str mq,.str qB,.str j5,.str mz,.int .u8 pI,.bool wE,.int .i64 wF,.str qC,.str qD,.sl iN,.sl jk]/\(jA.length<=4194304)/\(kZ.length<=4194304)/\(mq.length<=4194304)/\(qB.length<=4194304)/\(j5.length<=4194304)/\(mz.length<=4194304)/\(qC.length<=4194304)/\(qD.length<=4194304)/\(iN.length<=4194304)/\(∀y∈iN,T .string y)/\(jk.length<=4194304)/\(∀y∈jk,T .az y):=by
 cases h with
 |cE jA kZ mq qB j5 mz pI wE wF qC qD iN jk h0 h1 h2 h3 h4 h5 h6 h7 h8 h9 h10 h11=>exact⟨jA,kZ,mq,qB,j5,mz,pI,wE,wF,qC,qD,iN,jk,rfl,h0,h1,h2,h3,h4,h5,h6,h7,h8,h9,h10,h11⟩
theorem T.aaj {x:Tree}(h:T .Lint x):∃(v:List Tree),x=.sl v/\(v.length<=4194304)/\(∀y∈v,T .int y):=by
 cases h with
 |Lint v h0 h1=>exact⟨v,rfl,h0,h1⟩
theorem T.uV {x:Tree}(h:T .int x):∃(v:Int),x=.int .i64 v:=by
 cases h with
 |int v=>exact⟨v,rfl⟩
theorem T.zn {x:Tree}(h:T .jS x):∃(v:Int),x=.int .u8 v:=by
 cases h with
 |jS v=>exact⟨v,rfl⟩
theorem T.nV {x:Tree}(h:T .int64 x):∃(v:Int),x=.int .i64 v:=by
 cases h with
 |int64 v=>exact⟨v,rfl⟩
theorem T.uX {x:Tree}(h:T .fe x):∃(v:List Tree),x=.sl v/\(v.length<=4194304)/\(∀y∈v,T .aH y):=by
 cases h with
 |fe v h0 h1=>exact⟨v,rfl,h0,h1⟩
theorem T.fB {x:Tree}(h:T .aS x):∃(v:List Tree),x=.sl v/\(v.length<=4194304)/\(∀y∈v,T .bQ y):=by
 cases h with
 |aS v h0 h1=>exact⟨v,rfl,h0,h1⟩
end Go.Proofs.YtfdnciimclnncaaGreatDoor.w.e
noncomputable section
namespace Go.Abs
open Go
theorem jU {α β:Type}(P:Program)(s:Sem α)(f:α->Sem β):eL P (s>>=f)=(eL P s).bind λa=>eL P (f a):=by
 show eL P (Sem.bind s f)=_;induction s with
 |pure a=>rfl
 |program k ih=>exact ih P
 |load m a k ih=>rfl
 |store m a v k ih=>rfl
 |new o k ih=>rfl
 |shape r k ih=>rfl
 |freeze a n k ih=>rfl
 |frozen a k ih=>rfl
 |getObj r k ih=>rfl
 |setObj r o k ih=>rfl
 |choose q k ih=>rfl
 |sys c k ih=>rfl
 |mark m k ih=>rfl
 |halt h=>rfl
theorem mJ {α:Type}(P:Program)(a:α):eL P (pure a:Sem α)=some a:=rfl
theorem rP (P:Program):eL P program=some P:=rfl
theorem tG {P:Program}{t:TypeId}{d:TypeDesc}(h:P.underlying t=some d):eL P (underlying t)=some d:=by
 simp only[underlying,jU,rP,Option.bind_some,h,mJ]
theorem Gv {α:Type}(P:Program)(c:Prop)[Decidable c](x y:Sem α):eL P (if c then x else y)=if c then eL P x else eL P y:=by split<;>rfl
theorem BM {P:Program}{d:Nat}{t:TypeId}(h:P.underlying t=some .string)(a b:ByteArray):eL P (Op.equalIn (d+1) t (.string a) (.string b))=some (a==b):=by
 simp only[Op.equalIn,jU,tG h,Option.bind_some,mJ]
theorem JB {P:Program}{kt:TypeId}{f1 f2:Field}(ht:P.underlying kt=some (.struct #[f1,f2]))(hs:P.stoodInHeld kt=false)(n1:f1.name≠ "_")(n2:f2.name≠ "_")(t1:P.underlying f1.type=some .string)(t2:P.underlying f2.type=some .string)
 (p1:∀a b,eL P (part f1.type #[.string a,.string b] f1.offset)=some (.string a))(p2:∀a b,eL P (part f2.type #[.string a,.string b] f2.offset)=some (.string b))(a b a' b':ByteArray):
 eL P (Op.equal kt (.agg #[.string a,.string b]) (.agg #[.string a',.string b']))=some ((a==a')&&(b==b')):=by
 simp only[Op.equal,Op.maxDepth]
 unfold Op.equalIn
 simp only[jU,tG ht,Option.bind_some,rP,hs,Bool.false_eq_true,if_false]
 rw[← Array.forIn_toList]
 simp only[List.forIn_cons,List.forIn_nil,jU,Gv,if_pos n1,if_pos n2,p1,p2,Option.bind_some,BM t1,BM t2]
 cases a==a' with
 |false=>rfl
 |true=>
  simp only[Bool.not_true,Bool.false_eq_true,if_false,mJ,Option.bind_some,jU,Gv,p2,BM t2]
  cases b==b'<;>rfl
theorem ahg (a b:List UInt8):((⟨a.toArray⟩:ByteArray)==⟨b.toArray⟩)=(a==b):=by
 rw[Bool.eq_iff_iff,NI,beq_iff_eq,beq_iff_eq];exact⟨λh=>by simpa using congrArg Array.toList h,λh=>by rw[h]⟩
theorem aes {P:jY}{kt:TypeId}{f1 f2:Field}(ht:P.prog.underlying kt=some (.struct #[f1,f2]))(hs:P.prog.stoodInHeld kt=false)(n1:f1.name≠ "_")(n2:f2.name≠ "_")(t1:P.prog.underlying f1.type=some .string)(t2:P.prog.underlying f2.type=some .string)
 (p1:∀a b,eL P.prog (part f1.type #[.string a,.string b] f1.offset)=some (.string a))(p2:∀a b,eL P.prog (part f2.type #[.string a,.string b] f2.offset)=some (.string b))(hg:P.prog.eqGuardType P.prog.depth kt=false)(x y:Operand)(a b a' b':List UInt8):
 vz P .eql kt x y (.t (.agg [.str a,.str b])) (.t (.agg [.str a',.str b']))=some (.t (.bool ((a==a')&&(b==b'))))/\vz P .neq kt x y (.t (.agg [.str a,.str b])) (.t (.agg [.str a',.str b']))=some (.t (.bool (!((a==a')&&(b==b'))))):=by
 have e:=JB ht hs n1 n2 t1 t2 p1 p2 ⟨a.toArray⟩ ⟨b.toArray⟩ ⟨a'.toArray⟩ ⟨b'.toArray⟩
 rw[ahg,ahg] at e
 have d:∀a b:List UInt8,lX (.t (.agg [.str a,.str b]))=some (.agg #[.string ⟨a.toArray⟩,.string ⟨b.toArray⟩]):=λa b=>rfl
 have g:∀op,eL P.prog (eqGuard op kt x y (.agg #[.string ⟨a.toArray⟩,.string ⟨b.toArray⟩]) (.agg #[.string ⟨a'.toArray⟩,.string ⟨b'.toArray⟩]))=some ():=λop=>by
  unfold eqGuard;cases op<;>simp[jU,rP,hg,mJ]
 constructor
 ·unfold vz;simp only[isNil,Bool.false_eq_true,if_false];unfold wW;rw[d,d];simp only[jU,g,Option.bind_some,binOp,e,mJ];rfl
 ·unfold vz;simp only[isNil,Bool.false_eq_true,if_false];unfold wW;rw[d,d];simp only[jU,g,Option.bind_some,binOp,e,mJ];rfl
def bC (x:Tree):Prop:=∃s t:List UInt8,x=.agg [.str s,.str t]
theorem aqo {P:jY}{kt:TypeId}{f1 f2:Field}(ht:P.prog.underlying kt=some (.struct #[f1,f2]))(hs:P.prog.stoodInHeld kt=false)(n1:f1.name≠ "_")(n2:f2.name≠ "_")(t1:P.prog.underlying f1.type=some .string)(t2:P.prog.underlying f2.type=some .string)
 (p1:∀a b,eL P.prog (part f1.type #[.string a,.string b] f1.offset)=some (.string a))(p2:∀a b,eL P.prog (part f2.type #[.string a,.string b] f2.offset)=some (.string b))
 (hok:∀b s t,yM P b kt (.t (.agg [.str s,.str t]))=true)(fs:Array Field):KEq P kt (.struct fs) bC where
 same:=by
  rintro _ ⟨s,t,rfl⟩;have e:=JB ht hs n1 n2 t1 t2 p1 p2 ⟨s.toArray⟩ ⟨t.toArray⟩ ⟨s.toArray⟩ ⟨t.toArray⟩;have r:∀x:ByteArray,(x==x)=true:=λx=>by rw[NI];exact beq_self_eq_true _
  rw[r,r] at e;refine⟨e,.agg #[.string ⟨s.toArray⟩,.string ⟨t.toArray⟩],rfl, ?_⟩;have e2:Instr.sameBits 10000 (.agg #[.string ⟨s.toArray⟩,.string ⟨t.toArray⟩]) (.agg #[.string ⟨s.toArray⟩,.string ⟨t.toArray⟩])=(((⟨s.toArray⟩:ByteArray)==⟨s.toArray⟩)&&((⟨t.toArray⟩:ByteArray)==⟨t.toArray⟩)):=by
   simp[Instr.sameBits,r]
  rw[e2,r,r];rfl
 other:=by
  rintro _ _ ⟨s,t,rfl⟩ ⟨s',t',rfl⟩ hne;have e:=JB ht hs n1 n2 t1 t2 p1 p2 ⟨s.toArray⟩ ⟨t.toArray⟩ ⟨s'.toArray⟩ ⟨t'.toArray⟩;have hb:(((⟨s.toArray⟩:ByteArray)==⟨s'.toArray⟩)&&((⟨t.toArray⟩:ByteArray)==⟨t'.toArray⟩))=false:=by
   rw[Bool.eq_false_iff];intro h;rw[Bool.and_eq_true,NI,NI] at h;have h1:=eq_of_beq h.1;have h2:=eq_of_beq h.2;simp only at h1 h2;have e1:s=s':=by simpa using congrArg Array.toList h1
   have e2:t=t':=by simpa using congrArg Array.toList h2
   exact hne (by rw[e1,e2])
  rw[hb] at e;exact e
 ok:=by
  rintro _ b ⟨s,t,rfl⟩;exact hok b s t
end Go.Abs
end
