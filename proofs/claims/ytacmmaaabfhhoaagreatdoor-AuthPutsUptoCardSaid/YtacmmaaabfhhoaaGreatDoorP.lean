/- A world in which the listed variables hold what the program's text lays. -/
import Derived.Test.YtacmmaaabfhhoaaGreatDoorRows
import Derived.Deep.DeepHandedRow
import Derived.Deep.DeepWitnessRowRef
import Derived.Lib.LaidIn
import Derived.Lib.LaidSlice
import Derived.Stop.LaidErr
import Derived.ProofKit
set_option linter.unusedVariables false
set_option linter.unusedSimpArgs false
namespace Go.Proofs.YtacmmaaabfhhoaaGreatDoor.wit
open Go Go.RowKit
set_option maxRecDepth 1000000
def abN:Lit->Value
 |.int k n=>.int k n
 |.bool b=>.bool b
 |.string l=>.string ⟨l.toArray⟩
 |_=>.bool false
mutual
def Kw:DataW Unit->List Value
 |.lit l=>[abN l]
 |.agg ps=>F6 ps
 |_=>[]
def F6:List (DataW Unit)->List Value
 | []=>[]
 |d::r=>Kw d++F6 r
end
def Ky:DataW Unit->Array Value
 |.slice es _=>(F6 es).toArray
 |d=>(Kw d).toArray
def VK (N:Nat):DataW Unit->Value
 |.slice es _=>.slice (some ⟨N,0,none⟩) es.length es.length
 |_=>.slice none 0 0
def Ri:DataW Unit×DataW Unit×DataW Unit:=match(Rows.laid_unicode_White_Space:DataW Unit) with
 |.ptr (.agg [a,b,c])=>(a,b,c)
 |_=>(.nil,.nil,.nil)
def Ya:DataW Unit->Value
 |.iface _ (.ptr (.agg [.lit l]))=>abN l
 |_=>.bool false
noncomputable def rR (os:Os):World:=
 let N:=(World.settled Tryz.prog os).heap.size
 let w0:=World.holding Tryz.prog os ⟨#[
  .cells #[Ya Rows.laid_strconv_ErrRange] 355,.cells #[Ya Rows.laid_strconv_ErrSyntax] 355,
  .cells #[VK (N+3) Ri.1,.slice none 0 0,(Kw Ri.2.2).headD (.bool false)] 335,.cells (Ky Ri.1) 338], #[],[]⟩
 let put (h:Array Obj) (g:Nat) (cs:Array Value):Array Obj:=h.modify g λ
  |.cells _ t frozen=>.cells cs t frozen
  |o=>o
 let h0:=put (put w0.heap 6 #[.iface 353 (.pointer (some ⟨N,0,none⟩))]) 5 #[.iface 353 (.pointer (some ⟨N+1,0,none⟩))]
 let h1:=put h0 4 #[.pointer (some ⟨N+2,0,none⟩)]
 let h2:=put h1 8 (Ky Rows.laid_math_bits_deBruijn32tab)
 let h3:=put h2 9 (Ky Rows.laid_math_bits_deBruijn64tab)
 let h4:=put h3 7 (Ky Rows.laid_internal_strconv_uint64pow10)
 let h5:=put h4 1 (Ky Rows.laid_unicode_utf8_acceptRanges)
 let h6:=put h5 2 (Ky Rows.laid_strings_asciiSpace)
 let h7:=put h6 0 (Ky Rows.laid_unicode_utf8_first)
 {w0 with heap:=h7}
noncomputable abbrev N0:Nat:=(World.settled Tryz.prog default).heap.size
theorem VL (os:Os)(args:Array Value):LaidIn Tryz.prog ((rR os).forCall (λ_ _=>0) ⟨#[],args,[]⟩).memory Rows.authPutsUptoRow.laid [0,1,2,3,4,5,6,7,8,9,10,11,12,13,N0,N0+1,N0+2,N0+3]:=
 LaidIn.of_run [0,1,2,3,4,5,6,7,8,9,10,11,12,13,N0,N0+1,N0+2,N0+3] 8 (by kernel_rfl) (by kernel_rfl) (by kernel_rfl) (by kernel_rfl)
theorem Rj (os:Os)(args:Array Value):laidMet Tryz.prog Rows.authPutsUptoRow.laid ((rR os).forCall (λ_ _=>0) ⟨#[],args,[]⟩).memory:=(VL os args).met
end Go.Proofs.YtacmmaaabfhhoaaGreatDoor.wit
