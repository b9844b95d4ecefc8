/- A world in which the listed variables hold what the program's text lays. -/
import Derived.Test.YtijfhoelihclbaaGreatDoorRows
import Derived.Deep.DeepHandedRow
import Derived.Deep.DeepWitnessRowRef
import Derived.Lib.LaidIn
import Derived.Lib.LaidSlice
import Derived.Stop.LaidErr
import Derived.ProofKit
namespace Go.Proofs.YtijfhoelihclbaaGreatDoor.wit
open Go Go.RowKit
set_option maxRecDepth 1000000
def adY:Lit→Value
 |.int k n=>.int k n
 |.bool b=>.bool b
 |.string l=>.string ⟨l.toArray⟩
 |_=>.bool false
mutual
def LV:DataW Unit→List Value
 |.lit l=>[adY l]
 |.agg ps=>GJ ps
 |_=>[]
def GJ:List (DataW Unit)→List Value
 | []=>[]
 |d::r=>LV d++GJ r
end
def LW:DataW Unit→Array Value
 |.slice es _=>(GJ es).toArray
 |d=>(LV d).toArray
def W7 (N:Nat):DataW Unit→Value
 |.slice es _=>.slice (some ⟨N,0,none⟩) es.length es.length
 |_=>.slice none 0 0
def SF:DataW Unit×DataW Unit×DataW Unit:=match(Rows.laid_unicode_White_Space:DataW Unit) with
 |.ptr (.agg [a,b,c])=>(a,b,c)
 |_=>(.nil,.nil,.nil)
def YZ:DataW Unit→Value
 |.iface _ (.ptr (.agg [.lit l]))=>adY l
 |_=>.bool false
noncomputable def rC (os:Os):World:=
 let N:=(World.settled Tryz.prog os).heap.size
 let w0:=World.holding Tryz.prog os ⟨#[
  .cells #[YZ Rows.laid_strconv_ErrRange] 294,.cells #[YZ Rows.laid_strconv_ErrSyntax] 294,
  .cells #[W7 (N+3) SF.1,.slice none 0 0,(LV SF.2.2).headD (.bool false)] 236,.cells (LW SF.1) 239], #[],[]⟩
 let put (h:Array Obj) (g:Nat) (cs:Array Value):Array Obj:=h.modify g fun
  |.cells _ t frozen=>.cells cs t frozen
  |o=>o
 let h0:=put (put w0.heap 6 #[.iface 292 (.pointer (some ⟨N,0,none⟩))]) 5 #[.iface 292 (.pointer (some ⟨N+1,0,none⟩))]
 let h1:=put h0 3 #[.pointer (some ⟨N+2,0,none⟩)]
 let h2:=put h1 8 (LW Rows.laid_math_bits_deBruijn32tab)
 let h3:=put h2 9 (LW Rows.laid_math_bits_deBruijn64tab)
 let h4:=put h3 7 (LW Rows.laid_internal_strconv_uint64pow10)
 let h5:=put h4 1 (LW Rows.laid_unicode_utf8_acceptRanges)
 let h6:=put h5 2 (LW Rows.laid_strings_asciiSpace)
 let h7:=put h6 0 (LW Rows.laid_unicode_utf8_first)
 {w0 with heap:=h7}
noncomputable abbrev N0:Nat:=(World.settled Tryz.prog default).heap.size
theorem W8 (os:Os)(args:Array Value):LaidIn Tryz.prog ((rC os).forCall (fun _ _=>0) ⟨#[],args,[]⟩).memory Rows.typesPartsUptoRow.laid [0,1,2,3,4,5,6,7,8,9,10,11,12,13,N0,N0+1,N0+2,N0+3]:=
 LaidIn.of_run [0,1,2,3,4,5,6,7,8,9,10,11,12,13,N0,N0+1,N0+2,N0+3] 8 (by kernel_rfl) (by kernel_rfl) (by kernel_rfl) (by kernel_rfl)
theorem SG (os:Os)(args:Array Value):laidMet Tryz.prog Rows.typesPartsUptoRow.laid ((rC os).forCall (fun _ _=>0) ⟨#[],args,[]⟩).memory:=(W8 os args).met
end Go.Proofs.YtijfhoelihclbaaGreatDoor.wit
