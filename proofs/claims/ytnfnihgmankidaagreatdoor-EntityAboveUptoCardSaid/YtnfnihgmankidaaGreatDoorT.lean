/- The shapes of arguments. -/
import Derived.Test.YtnfnihgmankidaaGreatDoorQ
import Derived.Test.YtnfnihgmankidaaGreatDoorS
import Derived.Laws.StructEq
set_option linter.unusedVariables false
set_option linter.unusedSimpArgs false
namespace Go.Proofs.YtnfnihgmankidaaGreatDoor.w.e
open Go Go.Abs
inductive K where
 |au
 |Cw
 |string
 |aY
 |zm
 |aU
 |Lint
 |int
 |gY
 |int64
 |bn
 |ai
 |wF
inductive T:K->Tree->Prop
 |au (type:List UInt8) (ZP:List UInt8) (h0:type.length<=4194304) (h1:ZP.length<=4194304):T .au (.agg [.str type,.str ZP])
 |Cw (v:List Tree) (h0:v.length<=4194304) (h1:∀y∈v,T .string y):T .Cw (.sl v)
 |string (v:List UInt8) (h0:v.length<=4194304):T .string (.str v)
 |aY (kind:Int) (b_:Bool) (n:Int) (s:List UInt8) (t_:List UInt8) (names:List Tree) (list:List Tree) (h0:s.length<=4194304) (h1:t_.length<=4194304) (h2:names.length<=4194304) (h3:∀y∈names,T .string y) (h4:list.length<=4194304) (h5:∀y∈list,T .aY y):T .aY (.agg [.int .u8 kind,.bool b_,.int .i64 n,.str s,.str t_,.sl names,.sl list])
 |zm (op:Int) (n:Int) (s:List UInt8) (t_:List UInt8) (names:List Tree) (kids:List Tree) (h0:0<=op) (h1:s.length<=4194304) (h2:t_.length<=4194304) (h3:names.length<=4194304) (h4:∀y∈names,T .string y) (h5:kids.length<=4194304) (h6:∀y∈kids,T .zm y):T .zm (.agg [.int .u8 op,.int .i64 n,.str s,.str t_,.sl names,.sl kids])
 |aU (nH:List UInt8) (vE:List UInt8) (parents:List Tree) (mR:Int) (wG:Bool) (wH:Int) (qC:List UInt8) (qD:List UInt8) (gp:List Tree) (iy:List Tree) (h0:nH.length<=4194304) (h1:vE.length<=4194304) (h2:parents.length<=4194304) (h3:∀y∈parents,T .au y) (h4:qC.length<=4194304) (h5:qD.length<=4194304) (h6:gp.length<=4194304) (h7:∀y∈gp,T .string y) (h8:iy.length<=4194304) (h9:∀y∈iy,T .aY y):T .aU (.agg [.str nH,.str vE,.sl parents,.int .u8 mR,.bool wG,.int .i64 wH,.str qC,.str qD,.sl gp,.sl iy])
 |Lint (v:List Tree) (h0:v.length<=4194304) (h1:∀y∈v,T .int y):T .Lint (.sl v)
 |int (v:Int):T .int (.int .i64 v)
 |gY (v:Int):T .gY (.int .u8 v)
 |int64 (v:Int):T .int64 (.int .i64 v)
 |bn (v:List Tree) (h0:v.length<=4194304) (h1:∀y∈v,T .au y):T .bn (.sl v)
 |ai (v:List Tree) (h0:v.length<=4194304) (h1:∀y∈v,T .aU y):T .ai (.sl v)
 |wF (v:List Tree) (h0:v.length<=4194304) (h1:∀y∈v,T .aY y):T .wF (.sl v)
theorem T.aR {x:Tree}(h:T .au x):∃(type:List UInt8) (ZP:List UInt8),x=.agg [.str type,.str ZP]/\(type.length<=4194304)/\(ZP.length<=4194304):=by
 cases h with
 |au type ZP h0 h1=>exact⟨type,ZP,rfl,h0,h1⟩
theorem T.iz {x:Tree}(h:T .string x):∃(v:List UInt8),x=.str v/\(v.length<=4194304):=by
 cases h with
 |string v h0=>exact⟨v,rfl,h0⟩
theorem T.dL {x:Tree}(h:T .aY x):∃(kind:Int) (b_:Bool) (n:Int) (s:List UInt8) (t_:List UInt8) (names:List Tree) (list:List Tree),x=.agg [.int .u8 kind,.bool b_,.int .i64 n,.str s,.str t_,.sl names,.sl list]/\(s.length<=4194304)/\(t_.length<=4194304)/\(names.length<=4194304)/\(∀y∈names,T .string y)/\(list.length<=4194304)/\(∀y∈list,T .aY y):=by
 cases h with
 |aY kind b_ n s t_ names list h0 h1 h2 h3 h4 h5=>exact⟨kind,b_,n,s,t_,names,list,rfl,h0,h1,h2,h3,h4,h5⟩
theorem T.bw {x:Tree}(h:T .aU x):∃(nH:List UInt8) (vE:List UInt8) (parents:List Tree) (mR:Int) (wG:Bool) (wH:Int) (qC:List UInt8) (qD:List UInt8) (gp:List Tree) (iy:List Tree),x=.agg [.str nH,.str vE,.sl parents,.int .u8 mR,.bool wG,.int .i64 wH,.str qC,.str qD,.sl gp,.sl iy]/\(nH.length<=4194304)/\(vE.length<=4194304)/\(parents.length<=4194304)/\(∀y∈parents,T .au y)/\(qC.length<=4194304)/\(qD.length<=4194304)/\(gp.length<=4194304)/\(∀y∈gp,T .string y)/\(iy.length<=4194304)/\(∀y∈iy,T .aY y):=by
 cases h with
 |aU nH vE parents mR wG wH qC qD gp iy h0 h1 h2 h3 h4 h5 h6 h7 h8 h9=>exact⟨nH,vE,parents,mR,wG,wH,qC,qD,gp,iy,rfl,h0,h1,h2,h3,h4,h5,h6,h7,h8,h9⟩
theorem T.Us {x:Tree}(h:T .Lint x):∃(v:List Tree),x=.sl v/\(v.length<=4194304)/\(∀y∈v,T .int y):=by
 cases h with
 |Lint v h0 h1=>exact⟨v,rfl,h0,h1⟩
theorem T.lS {x:Tree}(h:T .int x):∃(v:Int),x=.int .i64 v:=by
 cases h with
 |int v=>exact⟨v,rfl⟩
theorem T.vF {x:Tree}(h:T .gY x):∃(v:Int),x=.int .u8 v:=by
 cases h with
 |gY v=>exact⟨v,rfl⟩
theorem T.AG {x:Tree}(h:T .int64 x):∃(v:Int),x=.int .i64 v:=by
 cases h with
 |int64 v=>exact⟨v,rfl⟩
theorem T.k4 {x:Tree}(h:T .bn x):∃(v:List Tree),x=.sl v/\(v.length<=4194304)/\(∀y∈v,T .au y):=by
 cases h with
 |bn v h0 h1=>exact⟨v,rfl,h0,h1⟩
theorem T.cQ {x:Tree}(h:T .ai x):∃(v:List Tree),x=.sl v/\(v.length<=4194304)/\(∀y∈v,T .aU y):=by
 cases h with
 |ai v h0 h1=>exact⟨v,rfl,h0,h1⟩
end Go.Proofs.YtnfnihgmankidaaGreatDoor.w.e
noncomputable section
namespace Go.Abs
open Go
theorem gZ {α β:Type}(P:Program)(s:Sem α)(f:α->Sem β):cR P (s>>=f)=(cR P s).bind λa=>cR P (f a):=by
 show cR P (Sem.bind s f)=_;induction s with
 |pure a=>rfl
 |program k ih=>exact ih P
 |load m a k ih=>rfl
 |store m a v k ih=>rfl
 |new o k ih=>rfl
 |shape r k ih=>rfl
 |freeze a n k ih=>rfl
 |frozen a k ih=>rfl
 |getObj r k ih=>rfl
 |setObj r o k ih=>rfl
 |choose q k ih=>rfl
 |sys c k ih=>rfl
 |mark m k ih=>rfl
 |halt h=>rfl
theorem jW {α:Type}(P:Program)(a:α):cR P (pure a:Sem α)=some a:=rfl
theorem nV (P:Program):cR P program=some P:=rfl
theorem pW {P:Program}{t:TypeId}{d:TypeDesc}(h:P.underlying t=some d):cR P (underlying t)=some d:=by
 simp only[underlying,gZ,nV,Option.bind_some,h,jW]
theorem BI {α:Type}(P:Program)(c:Prop)[Decidable c](x y:Sem α):cR P (if c then x else y)=if c then cR P x else cR P y:=by split<;>rfl
theorem yf {P:Program}{d:Nat}{t:TypeId}(h:P.underlying t=some .string)(a b:ByteArray):cR P (Op.equalIn (d+1) t (.string a) (.string b))=some (a==b):=by
 simp only[Op.equalIn,gZ,pW h,Option.bind_some,jW]
theorem DV {P:Program}{kt:TypeId}{f1 f2:Field}(ht:P.underlying kt=some (.struct #[f1,f2]))(hs:P.stoodInHeld kt=false)(n1:f1.name≠ "_")(n2:f2.name≠ "_")(t1:P.underlying f1.type=some .string)(t2:P.underlying f2.type=some .string)
 (p1:∀a b,cR P (part f1.type #[.string a,.string b] f1.offset)=some (.string a))(p2:∀a b,cR P (part f2.type #[.string a,.string b] f2.offset)=some (.string b))(a b a' b':ByteArray):
 cR P (Op.equal kt (.agg #[.string a,.string b]) (.agg #[.string a',.string b']))=some ((a==a')&&(b==b')):=by
 simp only[Op.equal,Op.maxDepth]
 unfold Op.equalIn
 simp only[gZ,pW ht,Option.bind_some,nV,hs,Bool.false_eq_true,if_false]
 rw[← Array.forIn_toList]
 simp only[List.forIn_cons,List.forIn_nil,gZ,BI,if_pos n1,if_pos n2,p1,p2,Option.bind_some,yf t1,yf t2]
 cases a==a' with
 |false=>rfl
 |true=>
  simp only[Bool.not_true,Bool.false_eq_true,if_false,jW,Option.bind_some,gZ,BI,p2,yf t2]
  cases b==b'<;>rfl
theorem ZQ (a b:List UInt8):((⟨a.toArray⟩:ByteArray)==⟨b.toArray⟩)=(a==b):=by
 rw[Bool.eq_iff_iff,Ig,beq_iff_eq,beq_iff_eq];exact⟨λh=>by simpa using congrArg Array.toList h,λh=>by rw[h]⟩
theorem Yc {P:ij}{kt:TypeId}{f1 f2:Field}(ht:P.prog.underlying kt=some (.struct #[f1,f2]))(hs:P.prog.stoodInHeld kt=false)(n1:f1.name≠ "_")(n2:f2.name≠ "_")(t1:P.prog.underlying f1.type=some .string)(t2:P.prog.underlying f2.type=some .string)
 (p1:∀a b,cR P.prog (part f1.type #[.string a,.string b] f1.offset)=some (.string a))(p2:∀a b,cR P.prog (part f2.type #[.string a,.string b] f2.offset)=some (.string b))(hg:P.prog.eqGuardType P.prog.depth kt=false)(x y:Operand)(a b a' b':List UInt8):
 qP P .eql kt x y (.t (.agg [.str a,.str b])) (.t (.agg [.str a',.str b']))=some (.t (.bool ((a==a')&&(b==b'))))/\qP P .neq kt x y (.t (.agg [.str a,.str b])) (.t (.agg [.str a',.str b']))=some (.t (.bool (!((a==a')&&(b==b'))))):=by
 have e:=DV ht hs n1 n2 t1 t2 p1 p2 ⟨a.toArray⟩ ⟨b.toArray⟩ ⟨a'.toArray⟩ ⟨b'.toArray⟩
 rw[ZQ,ZQ] at e
 have d:∀a b:List UInt8,jD (.t (.agg [.str a,.str b]))=some (.agg #[.string ⟨a.toArray⟩,.string ⟨b.toArray⟩]):=λa b=>rfl
 have g:∀op,cR P.prog (eqGuard op kt x y (.agg #[.string ⟨a.toArray⟩,.string ⟨b.toArray⟩]) (.agg #[.string ⟨a'.toArray⟩,.string ⟨b'.toArray⟩]))=some ():=λop=>by
  unfold eqGuard;cases op<;>simp[gZ,nV,hg,jW]
 constructor
 ·unfold qP;simp only[isNil,Bool.false_eq_true,if_false];unfold sJ;rw[d,d];simp only[gZ,g,Option.bind_some,binOp,e,jW];rfl
 ·unfold qP;simp only[isNil,Bool.false_eq_true,if_false];unfold sJ;rw[d,d];simp only[gZ,g,Option.bind_some,binOp,e,jW];rfl
def aZ (x:Tree):Prop:=∃s t:List UInt8,x=.agg [.str s,.str t]
theorem ahV {P:ij}{kt:TypeId}{f1 f2:Field}(ht:P.prog.underlying kt=some (.struct #[f1,f2]))(hs:P.prog.stoodInHeld kt=false)(n1:f1.name≠ "_")(n2:f2.name≠ "_")(t1:P.prog.underlying f1.type=some .string)(t2:P.prog.underlying f2.type=some .string)
 (p1:∀a b,cR P.prog (part f1.type #[.string a,.string b] f1.offset)=some (.string a))(p2:∀a b,cR P.prog (part f2.type #[.string a,.string b] f2.offset)=some (.string b))
 (hok:∀b s t,uL P b kt (.t (.agg [.str s,.str t]))=true)(fs:Array Field):KEq P kt (.struct fs) aZ where
 same:=by
  rintro _ ⟨s,t,rfl⟩;have e:=DV ht hs n1 n2 t1 t2 p1 p2 ⟨s.toArray⟩ ⟨t.toArray⟩ ⟨s.toArray⟩ ⟨t.toArray⟩;have r:∀x:ByteArray,(x==x)=true:=λx=>by rw[Ig];exact beq_self_eq_true _
  rw[r,r] at e;refine⟨e,.agg #[.string ⟨s.toArray⟩,.string ⟨t.toArray⟩],rfl, ?_⟩;have e2:Instr.sameBits 10000 (.agg #[.string ⟨s.toArray⟩,.string ⟨t.toArray⟩]) (.agg #[.string ⟨s.toArray⟩,.string ⟨t.toArray⟩])=(((⟨s.toArray⟩:ByteArray)==⟨s.toArray⟩)&&((⟨t.toArray⟩:ByteArray)==⟨t.toArray⟩)):=by
   simp[Instr.sameBits,r]
  rw[e2,r,r];rfl
 other:=by
  rintro _ _ ⟨s,t,rfl⟩ ⟨s',t',rfl⟩ hne;have e:=DV ht hs n1 n2 t1 t2 p1 p2 ⟨s.toArray⟩ ⟨t.toArray⟩ ⟨s'.toArray⟩ ⟨t'.toArray⟩;have hb:(((⟨s.toArray⟩:ByteArray)==⟨s'.toArray⟩)&&((⟨t.toArray⟩:ByteArray)==⟨t'.toArray⟩))=false:=by
   rw[Bool.eq_false_iff];intro h;rw[Bool.and_eq_true,Ig,Ig] at h;have h1:=eq_of_beq h.1;have h2:=eq_of_beq h.2;simp only at h1 h2;have e1:s=s':=by simpa using congrArg Array.toList h1
   have e2:t=t':=by simpa using congrArg Array.toList h2
   exact hne (by rw[e1,e2])
  rw[hb] at e;exact e
 ok:=by
  rintro _ b ⟨s,t,rfl⟩;exact hok b s t
end Go.Abs
end
