/- Seat r5: the call 'lives()'. -/
import Derived.Test.YtijfhoelihclbaaGreatDoorR
namespace Go.Proofs.YtijfhoelihclbaaGreatDoor.live
open Go Go.Abs Go.RowKit
set_option maxRecDepth 100000

def oText1 : List UInt8 := [91, 49, 44, 32, 34, 97, 34, 93]
def oTree1 : Tree := .tup [.agg [.int .u8 0, .str [], .sl [], .sl []], .int .i64 7]
theorem oIs1 (m : Int) : isTree oTree1 (evalF (cfg m) (ext2 m) 300 15 [.t (.str oText1)] []) = true := by kernel_rfl
def oText2 : List UInt8 := [91, 93]
def oTree2 : Tree := .tup [.agg [.int .u8 5, .str [], .sl [.agg [.int .u8 0, .str [], .sl [], .sl []]], .sl []], .int .i64 0]
theorem oIs2 (m : Int) : isTree oTree2 (evalF (cfg m) (ext2 m) 300 15 [.t (.str oText2)] []) = true := by kernel_rfl
def oText3 : List UInt8 := [91, 112, 114, 105, 110, 99, 105, 112, 97, 108, 44, 32, 114, 101, 115, 111, 117, 114, 99, 101, 93]
def oTree3 : Tree := .tup [.agg [.int .u8 5, .str [], .sl [.agg [.int .u8 4, .str [], .sl [], .sl []]], .sl []], .int .i64 0]
theorem oIs3 (m : Int) : isTree oTree3 (evalF (cfg m) (ext2 m) 300 15 [.t (.str oText3)] []) = true := by kernel_rfl
def oText4 : List UInt8 := [112, 114, 105, 110, 99, 105, 112, 97, 108, 46, 97, 103, 101, 32, 43, 32, 49]
def oTree4 : Tree := .tup [.agg [.int .u8 2, .str [], .sl [], .sl []], .int .i64 0]
theorem oIs4 (m : Int) : isTree oTree4 (evalF (cfg m) (ext2 m) 300 15 [.t (.str oText4)] []) = true := by kernel_rfl
def oText5 : List UInt8 := [114, 101, 115, 111, 117, 114, 99, 101, 46, 97, 103, 101]
def oTree5 : Tree := .tup [.agg [.int .u8 0, .str [], .sl [], .sl []], .int .i64 8]
theorem oIs5 (m : Int) : isTree oTree5 (evalF (cfg m) (ext2 m) 300 15 [.t (.str oText5)] []) = true := by kernel_rfl

def ofTab : List (List UInt8 × TV) := [(oText1, .t oTree1), (oText2, .t oTree2), (oText3, .t oTree3), (oText4, .t oTree4), (oText5, .t oTree5)]

theorem sumOf (m : Int) : SumOk (cfg m) 15 (extTab ofTab) :=
  extTab_ok (evalN_ok (orders m) (ext2_ok m) 300) (by
    rw [← evalF_eq]
    intro p hp
    simp only [ofTab, List.mem_cons, List.not_mem_nil, or_false] at hp
    rcases hp with rfl | rfl | rfl | rfl | rfl
    · exact isTree_eq (oIs1 m)
    · exact isTree_eq (oIs2 m)
    · exact isTree_eq (oIs3 m)
    · exact isTree_eq (oIs4 m)
    · exact isTree_eq (oIs5 m))

noncomputable def ext3 (m : Int) : Ext := fun | 15 => some (extTab ofTab) | g => ext2 m g

theorem ext3_ok (m : Int) : ExtOk (cfg m) (ext3 m) := extOk_of (by
  intro g s h
  unfold ext3 at h
  split at h
  · obtain rfl := Option.some.inj h; exact sumOf m
  · exact ext2_ok m _ _ h)

theorem yes6 (m : Int) : isYes (evalF (cfg m) (ext3 m) 300 6 [] []) = true := by kernel_rfl

end Go.Proofs.YtijfhoelihclbaaGreatDoor.live
