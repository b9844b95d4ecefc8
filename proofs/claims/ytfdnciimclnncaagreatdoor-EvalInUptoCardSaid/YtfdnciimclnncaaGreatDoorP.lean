/- A world in which the listed variables hold what the program's text lays. -/
import Derived.Test.YtfdnciimclnncaaGreatDoorRows
import Derived.Deep.DeepHandedRow
import Derived.Deep.DeepWitnessRowRef
import Derived.Lib.LaidIn
import Derived.Lib.LaidSlice
import Derived.Stop.LaidErr
import Derived.ProofKit
set_option linter.unusedVariables false
set_option linter.unusedSimpArgs false
namespace Go.Proofs.YtfdnciimclnncaaGreatDoor.wit
open Go Go.RowKit
set_option maxRecDepth 1000000
def al3:Lit->Value
 |.int k n=>.int k n
 |.bool b=>.bool b
 |.string l=>.string ⟨l.toArray⟩
 |_=>.bool false
mutual
def Tw:DataW Unit->List Value
 |.lit l=>[al3 l]
 |.agg ps=>NN ps
 |_=>[]
def NN:List (DataW Unit)->List Value
 | []=>[]
 |d::r=>Tw d++NN r
end
def Tx:DataW Unit->Array Value
 |.slice es _=>(NN es).toArray
 |d=>(Tw d).toArray
def ael (N:Nat):DataW Unit->Value
 |.slice es _=>.slice (some ⟨N,0,none⟩) es.length es.length
 |_=>.slice none 0 0
def ZP:DataW Unit×DataW Unit×DataW Unit:=match(Rows.laid_unicode_White_Space:DataW Unit) with
 |.ptr (.agg [a,b,c])=>(a,b,c)
 |_=>(.nil,.nil,.nil)
def ahp:DataW Unit->Value
 |.iface _ (.ptr (.agg [.lit l]))=>al3 l
 |_=>.bool false
noncomputable def wK (os:Os):World:=
 let N:=(World.settled Tryz.prog os).heap.size
 let w0:=World.holding Tryz.prog os ⟨#[
  .cells #[ahp Rows.laid_strconv_ErrRange] 303,.cells #[ahp Rows.laid_strconv_ErrSyntax] 303,
  .cells #[ael (N+3) ZP.1,.slice none 0 0,(Tw ZP.2.2).headD (.bool false)] 266,.cells (Tx ZP.1) 269], #[],[]⟩
 let put (h:Array Obj) (g:Nat) (cs:Array Value):Array Obj:=h.modify g λ
  |.cells _ t frozen=>.cells cs t frozen
  |o=>o
 let h0:=put (put w0.heap 6 #[.iface 301 (.pointer (some ⟨N,0,none⟩))]) 5 #[.iface 301 (.pointer (some ⟨N+1,0,none⟩))]
 let h1:=put h0 4 #[.pointer (some ⟨N+2,0,none⟩)]
 let h2:=put h1 8 (Tx Rows.laid_math_bits_deBruijn32tab)
 let h3:=put h2 9 (Tx Rows.laid_math_bits_deBruijn64tab)
 let h4:=put h3 7 (Tx Rows.laid_internal_strconv_uint64pow10)
 let h5:=put h4 1 (Tx Rows.laid_unicode_utf8_acceptRanges)
 let h6:=put h5 3 (Tx Rows.laid_strings_asciiSpace)
 let h7:=put h6 0 (Tx Rows.laid_unicode_utf8_first)
 {w0 with heap:=h7}
noncomputable abbrev N0:Nat:=(World.settled Tryz.prog default).heap.size
theorem aem (os:Os)(args:Array Value):LaidIn Tryz.prog ((wK os).forCall (λ_ _=>0) ⟨#[],args,[]⟩).memory Rows.evalInUptoRow.laid [0,1,2,3,4,5,6,7,8,9,10,11,12,13,N0,N0+1,N0+2,N0+3]:=
 LaidIn.of_run [0,1,2,3,4,5,6,7,8,9,10,11,12,13,N0,N0+1,N0+2,N0+3] 8 (by kernel_rfl) (by kernel_rfl) (by kernel_rfl) (by kernel_rfl)
theorem ZQ (os:Os)(args:Array Value):laidMet Tryz.prog Rows.evalInUptoRow.laid ((wK os).forCall (λ_ _=>0) ⟨#[],args,[]⟩).memory:=(aem os args).met
end Go.Proofs.YtfdnciimclnncaaGreatDoor.wit
