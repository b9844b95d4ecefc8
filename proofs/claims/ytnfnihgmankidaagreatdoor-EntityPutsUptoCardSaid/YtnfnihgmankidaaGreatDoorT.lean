/- The shapes of arguments. -/
import Derived.Test.YtnfnihgmankidaaGreatDoorQ
import Derived.Test.YtnfnihgmankidaaGreatDoorS
import Derived.Laws.StructEq
set_option linter.unusedVariables false
set_option linter.unusedSimpArgs false
namespace Go.Proofs.YtnfnihgmankidaaGreatDoor.w.e
open Go Go.Abs
inductive K where
 |av
 |CR
 |string
 |aV
 |zV
 |aB
 |Lint
 |int
 |iz
 |int64
 |cz
 |ah
 |xD
inductive T:K->Tree->Prop
 |av (type:List UInt8) (id_:List UInt8) (h0:type.length<=4194304) (h1:id_.length<=4194304):T .av (.agg [.str type,.str id_])
 |CR (v:List Tree) (h0:v.length<=4194304) (h1:∀y∈v,T .string y):T .CR (.sl v)
 |string (v:List UInt8) (h0:v.length<=4194304):T .string (.str v)
 |aV (kind:Int) (b_:Bool) (n:Int) (s:List UInt8) (t_:List UInt8) (names:List Tree) (list:List Tree) (h0:s.length<=4194304) (h1:t_.length<=4194304) (h2:names.length<=4194304) (h3:∀y∈names,T .string y) (h4:list.length<=4194304) (h5:∀y∈list,T .aV y):T .aV (.agg [.int .u8 kind,.bool b_,.int .i64 n,.str s,.str t_,.sl names,.sl list])
 |zV (op:Int) (n:Int) (s:List UInt8) (t_:List UInt8) (names:List Tree) (kids:List Tree) (h0:0<=op) (h1:s.length<=4194304) (h2:t_.length<=4194304) (h3:names.length<=4194304) (h4:∀y∈names,T .string y) (h5:kids.length<=4194304) (h6:∀y∈kids,T .zV y):T .zV (.agg [.int .u8 op,.int .i64 n,.str s,.str t_,.sl names,.sl kids])
 |aB (oz:List UInt8) (wG:List UInt8) (parents:List Tree) (nD:Int) (xE:Bool) (xF:Int) (rN:List UInt8) (rO:List UInt8) (gD:List Tree) (iM:List Tree) (h0:oz.length<=4194304) (h1:wG.length<=4194304) (h2:parents.length<=4194304) (h3:∀y∈parents,T .av y) (h4:rN.length<=4194304) (h5:rO.length<=4194304) (h6:gD.length<=4194304) (h7:∀y∈gD,T .string y) (h8:iM.length<=4194304) (h9:∀y∈iM,T .aV y):T .aB (.agg [.str oz,.str wG,.sl parents,.int .u8 nD,.bool xE,.int .i64 xF,.str rN,.str rO,.sl gD,.sl iM])
 |Lint (v:List Tree) (h0:v.length<=4194304) (h1:∀y∈v,T .int y):T .Lint (.sl v)
 |int (v:Int):T .int (.int .i64 v)
 |iz (v:Int):T .iz (.int .u8 v)
 |int64 (v:Int):T .int64 (.int .i64 v)
 |cz (v:List Tree) (h0:v.length<=4194304) (h1:∀y∈v,T .av y):T .cz (.sl v)
 |ah (v:List Tree) (h0:v.length<=4194304) (h1:∀y∈v,T .aB y):T .ah (.sl v)
 |xD (v:List Tree) (h0:v.length<=4194304) (h1:∀y∈v,T .aV y):T .xD (.sl v)
theorem T.bx {x:Tree}(h:T .av x):∃(type:List UInt8) (id_:List UInt8),x=.agg [.str type,.str id_]/\(type.length<=4194304)/\(id_.length<=4194304):=by
 cases h with
 |av type id_ h0 h1=>exact⟨type,id_,rfl,h0,h1⟩
theorem T.gM {x:Tree}(h:T .string x):∃(v:List UInt8),x=.str v/\(v.length<=4194304):=by
 cases h with
 |string v h0=>exact⟨v,rfl,h0⟩
theorem T.dA {x:Tree}(h:T .aV x):∃(kind:Int) (b_:Bool) (n:Int) (s:List UInt8) (t_:List UInt8) (names:List Tree) (list:List Tree),x=.agg [.int .u8 kind,.bool b_,.int .i64 n,.str s,.str t_,.sl names,.sl list]/\(s.length<=4194304)/\(t_.length<=4194304)/\(names.length<=4194304)/\(∀y∈names,T .string y)/\(list.length<=4194304)/\(∀y∈list,T .aV y):=by
 cases h with
 |aV kind b_ n s t_ names list h0 h1 h2 h3 h4 h5=>exact⟨kind,b_,n,s,t_,names,list,rfl,h0,h1,h2,h3,h4,h5⟩
theorem T.bg {x:Tree}(h:T .aB x):∃(oz:List UInt8) (wG:List UInt8) (parents:List Tree) (nD:Int) (xE:Bool) (xF:Int) (rN:List UInt8) (rO:List UInt8) (gD:List Tree) (iM:List Tree),x=.agg [.str oz,.str wG,.sl parents,.int .u8 nD,.bool xE,.int .i64 xF,.str rN,.str rO,.sl gD,.sl iM]/\(oz.length<=4194304)/\(wG.length<=4194304)/\(parents.length<=4194304)/\(∀y∈parents,T .av y)/\(rN.length<=4194304)/\(rO.length<=4194304)/\(gD.length<=4194304)/\(∀y∈gD,T .string y)/\(iM.length<=4194304)/\(∀y∈iM,T .aV y):=by
 cases h with
 |aB oz wG parents nD xE xF rN rO gD iM h0 h1 h2 h3 h4 h5 h6 h7 h8 h9=>exact⟨oz,wG,parents,nD,xE,xF,rN,rO,gD,iM,rfl,h0,h1,h2,h3,h4,h5,h6,h7,h8,h9⟩
theorem T.Uw {x:Tree}(h:T .Lint x):∃(v:List Tree),x=.sl v/\(v.length<=4194304)/\(∀y∈v,T .int y):=by
 cases h with
 |Lint v h0 h1=>exact⟨v,rfl,h0,h1⟩
theorem T.jP {x:Tree}(h:T .int x):∃(v:Int),x=.int .i64 v:=by
 cases h with
 |int v=>exact⟨v,rfl⟩
theorem T.wH {x:Tree}(h:T .iz x):∃(v:Int),x=.int .u8 v:=by
 cases h with
 |iz v=>exact⟨v,rfl⟩
theorem T.Bh {x:Tree}(h:T .int64 x):∃(v:Int),x=.int .i64 v:=by
 cases h with
 |int64 v=>exact⟨v,rfl⟩
theorem T.lF {x:Tree}(h:T .cz x):∃(v:List Tree),x=.sl v/\(v.length<=4194304)/\(∀y∈v,T .av y):=by
 cases h with
 |cz v h0 h1=>exact⟨v,rfl,h0,h1⟩
theorem T.bU {x:Tree}(h:T .ah x):∃(v:List Tree),x=.sl v/\(v.length<=4194304)/\(∀y∈v,T .aB y):=by
 cases h with
 |ah v h0 h1=>exact⟨v,rfl,h0,h1⟩
end Go.Proofs.YtnfnihgmankidaaGreatDoor.w.e
noncomputable section
namespace Go.Abs
open Go
theorem iA {α β:Type}(P:Program)(s:Sem α)(f:α->Sem β):cQ P (s>>=f)=(cQ P s).bind λa=>cQ P (f a):=by
 show cQ P (Sem.bind s f)=_;induction s with
 |pure a=>rfl
 |program k ih=>exact ih P
 |load m a k ih=>rfl
 |store m a v k ih=>rfl
 |new o k ih=>rfl
 |shape r k ih=>rfl
 |freeze a n k ih=>rfl
 |frozen a k ih=>rfl
 |getObj r k ih=>rfl
 |setObj r o k ih=>rfl
 |choose q k ih=>rfl
 |sys c k ih=>rfl
 |mark m k ih=>rfl
 |halt h=>rfl
theorem kC {α:Type}(P:Program)(a:α):cQ P (pure a:Sem α)=some a:=rfl
theorem pH (P:Program):cQ P program=some P:=rfl
theorem qF {P:Program}{t:TypeId}{d:TypeDesc}(h:P.underlying t=some d):cQ P (underlying t)=some d:=by
 simp only[underlying,iA,pH,Option.bind_some,h,kC]
theorem B7 {α:Type}(P:Program)(c:Prop)[Decidable c](x y:Sem α):cQ P (if c then x else y)=if c then cQ P x else cQ P y:=by split<;>rfl
theorem yS {P:Program}{d:Nat}{t:TypeId}(h:P.underlying t=some .string)(a b:ByteArray):cQ P (Op.equalIn (d+1) t (.string a) (.string b))=some (a==b):=by
 simp only[Op.equalIn,iA,qF h,Option.bind_some,kC]
theorem Eb {P:Program}{kt:TypeId}{f1 f2:Field}(ht:P.underlying kt=some (.struct #[f1,f2]))(hs:P.stoodInHeld kt=false)(n1:f1.name≠ "_")(n2:f2.name≠ "_")(t1:P.underlying f1.type=some .string)(t2:P.underlying f2.type=some .string)
 (p1:∀a b,cQ P (part f1.type #[.string a,.string b] f1.offset)=some (.string a))(p2:∀a b,cQ P (part f2.type #[.string a,.string b] f2.offset)=some (.string b))(a b a' b':ByteArray):
 cQ P (Op.equal kt (.agg #[.string a,.string b]) (.agg #[.string a',.string b']))=some ((a==a')&&(b==b')):=by
 simp only[Op.equal,Op.maxDepth]
 unfold Op.equalIn
 simp only[iA,qF ht,Option.bind_some,pH,hs,Bool.false_eq_true,if_false]
 rw[← Array.forIn_toList]
 simp only[List.forIn_cons,List.forIn_nil,iA,B7,if_pos n1,if_pos n2,p1,p2,Option.bind_some,yS t1,yS t2]
 cases a==a' with
 |false=>rfl
 |true=>
  simp only[Bool.not_true,Bool.false_eq_true,if_false,kC,Option.bind_some,iA,B7,p2,yS t2]
  cases b==b'<;>rfl
theorem aai (a b:List UInt8):((⟨a.toArray⟩:ByteArray)==⟨b.toArray⟩)=(a==b):=by
 rw[Bool.eq_iff_iff,Iw,beq_iff_eq,beq_iff_eq];exact⟨λh=>by simpa using congrArg Array.toList h,λh=>by rw[h]⟩
theorem Yr {P:iE}{kt:TypeId}{f1 f2:Field}(ht:P.prog.underlying kt=some (.struct #[f1,f2]))(hs:P.prog.stoodInHeld kt=false)(n1:f1.name≠ "_")(n2:f2.name≠ "_")(t1:P.prog.underlying f1.type=some .string)(t2:P.prog.underlying f2.type=some .string)
 (p1:∀a b,cQ P.prog (part f1.type #[.string a,.string b] f1.offset)=some (.string a))(p2:∀a b,cQ P.prog (part f2.type #[.string a,.string b] f2.offset)=some (.string b))(hg:P.prog.eqGuardType P.prog.depth kt=false)(x y:Operand)(a b a' b':List UInt8):
 r8 P .eql kt x y (.t (.agg [.str a,.str b])) (.t (.agg [.str a',.str b']))=some (.t (.bool ((a==a')&&(b==b'))))/\r8 P .neq kt x y (.t (.agg [.str a,.str b])) (.t (.agg [.str a',.str b']))=some (.t (.bool (!((a==a')&&(b==b'))))):=by
 have e:=Eb ht hs n1 n2 t1 t2 p1 p2 ⟨a.toArray⟩ ⟨b.toArray⟩ ⟨a'.toArray⟩ ⟨b'.toArray⟩
 rw[aai,aai] at e
 have d:∀a b:List UInt8,jT (.t (.agg [.str a,.str b]))=some (.agg #[.string ⟨a.toArray⟩,.string ⟨b.toArray⟩]):=λa b=>rfl
 have g:∀op,cQ P.prog (eqGuard op kt x y (.agg #[.string ⟨a.toArray⟩,.string ⟨b.toArray⟩]) (.agg #[.string ⟨a'.toArray⟩,.string ⟨b'.toArray⟩]))=some ():=λop=>by
  unfold eqGuard;cases op<;>simp[iA,pH,hg,kC]
 constructor
 ·unfold r8;simp only[isNil,Bool.false_eq_true,if_false];unfold tQ;rw[d,d];simp only[iA,g,Option.bind_some,binOp,e,kC];rfl
 ·unfold r8;simp only[isNil,Bool.false_eq_true,if_false];unfold tQ;rw[d,d];simp only[iA,g,Option.bind_some,binOp,e,kC];rfl
def bl (x:Tree):Prop:=∃s t:List UInt8,x=.agg [.str s,.str t]
theorem ahi {P:iE}{kt:TypeId}{f1 f2:Field}(ht:P.prog.underlying kt=some (.struct #[f1,f2]))(hs:P.prog.stoodInHeld kt=false)(n1:f1.name≠ "_")(n2:f2.name≠ "_")(t1:P.prog.underlying f1.type=some .string)(t2:P.prog.underlying f2.type=some .string)
 (p1:∀a b,cQ P.prog (part f1.type #[.string a,.string b] f1.offset)=some (.string a))(p2:∀a b,cQ P.prog (part f2.type #[.string a,.string b] f2.offset)=some (.string b))
 (hok:∀b s t,vJ P b kt (.t (.agg [.str s,.str t]))=true)(fs:Array Field):KEq P kt (.struct fs) bl where
 same:=by
  rintro _ ⟨s,t,rfl⟩;have e:=Eb ht hs n1 n2 t1 t2 p1 p2 ⟨s.toArray⟩ ⟨t.toArray⟩ ⟨s.toArray⟩ ⟨t.toArray⟩;have r:∀x:ByteArray,(x==x)=true:=λx=>by rw[Iw];exact beq_self_eq_true _
  rw[r,r] at e;refine⟨e,.agg #[.string ⟨s.toArray⟩,.string ⟨t.toArray⟩],rfl, ?_⟩;have e2:Instr.sameBits 10000 (.agg #[.string ⟨s.toArray⟩,.string ⟨t.toArray⟩]) (.agg #[.string ⟨s.toArray⟩,.string ⟨t.toArray⟩])=(((⟨s.toArray⟩:ByteArray)==⟨s.toArray⟩)&&((⟨t.toArray⟩:ByteArray)==⟨t.toArray⟩)):=by
   simp[Instr.sameBits,r]
  rw[e2,r,r];rfl
 other:=by
  rintro _ _ ⟨s,t,rfl⟩ ⟨s',t',rfl⟩ hne;have e:=Eb ht hs n1 n2 t1 t2 p1 p2 ⟨s.toArray⟩ ⟨t.toArray⟩ ⟨s'.toArray⟩ ⟨t'.toArray⟩;have hb:(((⟨s.toArray⟩:ByteArray)==⟨s'.toArray⟩)&&((⟨t.toArray⟩:ByteArray)==⟨t'.toArray⟩))=false:=by
   rw[Bool.eq_false_iff];intro h;rw[Bool.and_eq_true,Iw,Iw] at h;have h1:=eq_of_beq h.1;have h2:=eq_of_beq h.2;simp only at h1 h2;have e1:s=s':=by simpa using congrArg Array.toList h1
   have e2:t=t':=by simpa using congrArg Array.toList h2
   exact hne (by rw[e1,e2])
  rw[hb] at e;exact e
 ok:=by
  rintro _ b ⟨s,t,rfl⟩;exact hok b s t
end Go.Abs
end
