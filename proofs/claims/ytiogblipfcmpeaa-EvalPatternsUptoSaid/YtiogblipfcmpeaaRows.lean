/-
  No cell of these rows narrows 'for every input' (looked for: loops, veiled, ifaces, maps, wideKeys, modest, calm, conditions, laid).
  DERIVED. THE GIVEN ROWS OF THIS SEAT. 2 by the template 'for every input the law returns true; each argument reads behind the call as it read before'; 0 by the template 'total and deterministic' (their statements: YtiogblipfcmpeaaTotals.lean).
  GIVEN WITH THE SEED: the statements are not yours to turn. If you find one false, say at which input.
  Laid BY PROGRAM, IN A SANDBOX (cutbox-rows.mjs): the forced cells as the released guide's own fill.sh prints them over the translation d4b106de74f5003e… (all of the seat's roots in one cut). By AI agents, Wed Nov 11 2026. No macro, syntax, notation, axiom, sorry.
-/
import Derived.Test.YtiogblipfcmpeaaChecked
import GoSem.Claim
import GoSem.ClaimJoined
import GoSem.ClaimMapViews
import Derived.JoinedTies
import Derived.KernelRfl
namespace Go.Proofs.Ytiogblipfcmpeaa
/- THE CELL 'sum', in the pinned program and in every row, IS THE sha256 OF THE DUMP (.gsa) THAT YtiogblipfcmpeaaProg.lean LOADS. Nothing in Lean hashes anything: it is a label: what it is worth is what the hold of that sum in a sandbox is worth. -/
noncomputable def Try.pinned : Pinned := { name := "ytiogblipfcmpeaa", sum := "d4b106de74f5003ecd1e5b03a1d95ac918064d8cd33d19ad2ebf4bc0a1897bb6", checked := Try.checked }
namespace Rows
def none {H : Type} : Left H := { results := [], args := [] }

/-- 'lictorlaw18.StoreRegions': WHATEVER THE INPUT: true; the input reads as it did. -/
def storeRegionsSpec : ChangeSpec := { name := "storeRegions", fn := fun _ => fun
  | [d] => { results := [.lit (.bool true)], args := [d] }
  | _ => none }
def storeRegionsRow : OpenClaim := { program := "ytiogblipfcmpeaa", sum := "d4b106de74f5003ecd1e5b03a1d95ac918064d8cd33d19ad2ebf4bc0a1897bb6", func := "lictor/lictorlaw18.StoreRegions", spec := "storeRegions", apart := false }
def StoreRegionsSaid : Prop := storeRegionsRow.holds Try.pinned (OpenSpec.ofChange storeRegionsSpec)

/-- ITS FALSE NEIGHBOUR: 'it returns false'. Refute it at one input. -/
def storeRegionsWrong : ChangeSpec := { name := "storeRegions", fn := fun _ => fun
  | [d] => { results := [.lit (.bool false)], args := [d] }
  | _ => none }
def StoreRegionsWrongFalsely : Prop := storeRegionsRow.holds Try.pinned (OpenSpec.ofChange storeRegionsWrong)

/-- 'lictorlaw12.EvalPatterns': WHATEVER THE INPUT: true; the input reads as it did. -/
def evalPatternsSpec : ChangeSpec := { name := "evalPatterns", fn := fun _ => fun
  | [d1, d2, d3] => { results := [.lit (.bool true)], args := [d1, d2, d3] }
  | _ => none }
def evalPatternsRow : OpenClaim := { program := "ytiogblipfcmpeaa", sum := "d4b106de74f5003ecd1e5b03a1d95ac918064d8cd33d19ad2ebf4bc0a1897bb6", func := "lictor/lictorlaw12.EvalPatterns", spec := "evalPatterns", inPlace := ["internal/bytealg.IndexByteString", "internal/bytealg.IndexString"], named := ["internal/bytealg.MaxLen"], apart := false }
def EvalPatternsSaid : Prop := evalPatternsRow.holds Try.pinned (OpenSpec.ofChange evalPatternsSpec)

/-- ITS FALSE NEIGHBOUR: 'it returns false'. Refute it at one input. -/
def evalPatternsWrong : ChangeSpec := { name := "evalPatterns", fn := fun _ => fun
  | [d1, d2, d3] => { results := [.lit (.bool false)], args := [d1, d2, d3] }
  | _ => none }
def EvalPatternsWrongFalsely : Prop := evalPatternsRow.holds Try.pinned (OpenSpec.ofChange evalPatternsWrong)

/- THE SECOND FORM. 'bulk': how many values and letters a reading holds, each counted each time it is reached (what is shared counts as often as it is met; a slice's spare places count too). A statement '..UptoSaid' is the law's where the arguments, and the package variables that the reading takes, are together of bulk at most 1048576: NARROWER than '..Said'. Prove '..Said' where nothing that the law and all that it calls make is longer than what came in: it says more and counts as full. Else prove '..UptoSaid'. A law counts once. -/
mutual
def uptoBulk {H : Type} : DataW H → Nat
  | .lit (.string bytes) => bytes.length + 1
  | .lit _ => 1
  | .nil => 1
  | .ptr d => uptoBulk d + 1
  | .slice elems spare => uptoBulkAll elems + uptoBulkAll spare + 1
  | .agg parts => uptoBulkAll parts + 1
  | .iface _ d => uptoBulk d + 1
  | .map entries => uptoBulkEntries entries + 1
  | .held _ => 1
def uptoBulkAll {H : Type} : List (DataW H) → Nat
  | [] => 0
  | d :: r => uptoBulk d + uptoBulkAll r
def uptoBulkEntries {H : Type} : List (Lit × DataW H) → Nat
  | [] => 0
  | x :: r => uptoBulkEntry x + uptoBulkEntries r
def uptoBulkEntry {H : Type} : Lit × DataW H → Nat
  | (.string bytes, d) => bytes.length + uptoBulk d + 1
  | (_, d) => uptoBulk d + 1
 end
def uptoSmall : (H : Type) → List (DataW H) → Bool := fun _ ds => decide (uptoBulkAll ds ≤ 1048576)
def OpenSpec.upto (s : _root_.Go.ChangeSpec) : _root_.Go.OpenSpec := { _root_.Go.OpenSpec.ofChange s with cond := some uptoSmall }

/-- 'lictorlaw18.StoreRegions', WHERE WHAT IT READS IS OF BULK AT MOST 1048576: true; the input reads as it did. -/
def storeRegionsUptoRow : OpenClaim := { program := "ytiogblipfcmpeaa", sum := "d4b106de74f5003ecd1e5b03a1d95ac918064d8cd33d19ad2ebf4bc0a1897bb6", func := "lictor/lictorlaw18.StoreRegions", spec := "storeRegions", apart := false, narrowed := true }
def StoreRegionsUptoSaid : Prop := storeRegionsUptoRow.holds Try.pinned (OpenSpec.upto storeRegionsSpec)

/-- 'lictorlaw12.EvalPatterns', WHERE WHAT IT READS IS OF BULK AT MOST 1048576: true; the input reads as it did. -/
def evalPatternsUptoRow : OpenClaim := { program := "ytiogblipfcmpeaa", sum := "d4b106de74f5003ecd1e5b03a1d95ac918064d8cd33d19ad2ebf4bc0a1897bb6", func := "lictor/lictorlaw12.EvalPatterns", spec := "evalPatterns", inPlace := ["internal/bytealg.IndexByteString", "internal/bytealg.IndexString"], named := ["internal/bytealg.MaxLen"], apart := false, narrowed := true }
def EvalPatternsUptoSaid : Prop := evalPatternsUptoRow.holds Try.pinned (OpenSpec.upto evalPatternsSpec)

end Rows
end Go.Proofs.Ytiogblipfcmpeaa
