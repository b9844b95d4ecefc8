/- A world in which the listed variables hold what the program's text lays. -/
import Derived.Test.YtnfnihgmankidaaGreatDoorRows
import Derived.Deep.DeepHandedRow
import Derived.Deep.DeepWitnessRowRef
import Derived.Lib.LaidIn
import Derived.Lib.LaidSlice
import Derived.Stop.LaidErr
import Derived.ProofKit
set_option linter.unusedVariables false
set_option linter.unusedSimpArgs false
namespace Go.Proofs.YtnfnihgmankidaaGreatDoor.wit
open Go Go.RowKit
set_option maxRecDepth 1000000
def ad1:Lit->Value
 |.int k n=>.int k n
 |.bool b=>.bool b
 |.string l=>.string ⟨l.toArray⟩
 |_=>.bool false
mutual
def M6:DataW Unit->List Value
 |.lit l=>[ad1 l]
 |.agg ps=>Iu ps
 |_=>[]
def Iu:List (DataW Unit)->List Value
 | []=>[]
 |d::r=>M6 d++Iu r
end
def M7:DataW Unit->Array Value
 |.slice es _=>(Iu es).toArray
 |d=>(M6 d).toArray
def X4 (N:Nat):DataW Unit->Value
 |.slice es _=>.slice (some ⟨N,0,none⟩) es.length es.length
 |_=>.slice none 0 0
def TQ:DataW Unit×DataW Unit×DataW Unit:=match(Rows.laid_unicode_White_Space:DataW Unit) with
 |.ptr (.agg [a,b,c])=>(a,b,c)
 |_=>(.nil,.nil,.nil)
def aag:DataW Unit->Value
 |.iface _ (.ptr (.agg [.lit l]))=>ad1 l
 |_=>.bool false
noncomputable def s4 (os:Os):World:=
 let N:=(World.settled Tryz.prog os).heap.size
 let w0:=World.holding Tryz.prog os ⟨#[
  .cells #[aag Rows.laid_strconv_ErrRange] 324,.cells #[aag Rows.laid_strconv_ErrSyntax] 324,
  .cells #[X4 (N+3) TQ.1,.slice none 0 0,(M6 TQ.2.2).headD (.bool false)] 302,.cells (M7 TQ.1) 305], #[],[]⟩
 let put (h:Array Obj) (g:Nat) (cs:Array Value):Array Obj:=h.modify g λ
  |.cells _ t frozen=>.cells cs t frozen
  |o=>o
 let h0:=put (put w0.heap 7 #[.iface 322 (.pointer (some ⟨N,0,none⟩))]) 6 #[.iface 322 (.pointer (some ⟨N+1,0,none⟩))]
 let h1:=put h0 5 #[.pointer (some ⟨N+2,0,none⟩)]
 let h2:=put h1 8 (M7 Rows.laid_math_bits_deBruijn32tab)
 let h3:=put h2 9 (M7 Rows.laid_math_bits_deBruijn64tab)
 let h4:=put h3 4 (M7 Rows.laid_internal_strconv_uint64pow10)
 let h5:=put h4 1 (M7 Rows.laid_unicode_utf8_acceptRanges)
 let h6:=put h5 2 (M7 Rows.laid_strings_asciiSpace)
 let h7:=put h6 0 (M7 Rows.laid_unicode_utf8_first)
 {w0 with heap:=h7}
noncomputable abbrev N0:Nat:=(World.settled Tryz.prog default).heap.size
theorem X5 (os:Os)(args:Array Value):LaidIn Tryz.prog ((s4 os).forCall (λ_ _=>0) ⟨#[],args,[]⟩).memory Rows.entityPutsUptoRow.laid [0,1,2,3,4,5,6,7,8,9,10,11,12,13,N0,N0+1,N0+2,N0+3]:=
 LaidIn.of_run [0,1,2,3,4,5,6,7,8,9,10,11,12,13,N0,N0+1,N0+2,N0+3] 8 (by kernel_rfl) (by kernel_rfl) (by kernel_rfl) (by kernel_rfl)
theorem TR (os:Os)(args:Array Value):laidMet Tryz.prog Rows.entityPutsUptoRow.laid ((s4 os).forCall (λ_ _=>0) ⟨#[],args,[]⟩).memory:=(X5 os args).met
end Go.Proofs.YtnfnihgmankidaaGreatDoor.wit
