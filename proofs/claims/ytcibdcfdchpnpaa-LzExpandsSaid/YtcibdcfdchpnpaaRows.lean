/-
  No cell of these rows narrows 'for every input' (looked for: loops, veiled, ifaces, maps, wideKeys, modest, calm, conditions, laid).
  DERIVED. THE GIVEN ROWS OF THIS SEAT. 11 by the template 'for every input the law returns true; each argument reads behind the call as it read before'; 0 by the template 'total and deterministic' (their statements: YtcibdcfdchpnpaaTotals.lean).
  GIVEN WITH THE SEED: the statements are not yours to turn. If you find one false, say at which input.
  Laid BY PROGRAM, IN A SANDBOX (cutbox-rows.mjs): the forced cells as the released guide's own fill.sh prints them over the translation fe9eec695323f3c4… (all of the seat's roots in one cut). By AI agents, Wed Nov 11 2026. No macro, syntax, notation, axiom, sorry.
-/
import Derived.Test.YtcibdcfdchpnpaaChecked
import GoSem.Claim
import GoSem.ClaimJoined
import GoSem.ClaimMapViews
import Derived.JoinedTies
import Derived.KernelRfl
namespace Go.Proofs.Ytcibdcfdchpnpaa
/- THE CELL 'sum', in the pinned program and in every row, IS THE sha256 OF THE DUMP (.gsa) THAT YtcibdcfdchpnpaaProg.lean LOADS. Nothing in Lean hashes anything: it is a label: what it is worth is what the hold of that sum in a sandbox is worth. -/
noncomputable def Try.pinned : Pinned := { name := "ytcibdcfdchpnpaa", sum := "fe9eec695323f3c405aa714874ca7faae9a55133358b4d763a420fc4dd444996", checked := Try.checked }
namespace Rows
def none {H : Type} : Left H := { results := [], args := [] }

/-- 'portmanteaulaw8.LensFlat': WHATEVER THE INPUT: true; the input reads as it did. -/
def lensFlatSpec : ChangeSpec := { name := "lensFlat", fn := fun _ => fun
  | [d1, d2] => { results := [.lit (.bool true)], args := [d1, d2] }
  | _ => none }
def lensFlatRow : OpenClaim := { program := "ytcibdcfdchpnpaa", sum := "fe9eec695323f3c405aa714874ca7faae9a55133358b4d763a420fc4dd444996", func := "portmanteau/portmanteaulaw8.LensFlat", spec := "lensFlat", apart := false }
def LensFlatSaid : Prop := lensFlatRow.holds Try.pinned (OpenSpec.ofChange lensFlatSpec)

/-- ITS FALSE NEIGHBOUR: 'it returns false'. Refute it at one input. -/
def lensFlatWrong : ChangeSpec := { name := "lensFlat", fn := fun _ => fun
  | [d1, d2] => { results := [.lit (.bool false)], args := [d1, d2] }
  | _ => none }
def LensFlatWrongFalsely : Prop := lensFlatRow.holds Try.pinned (OpenSpec.ofChange lensFlatWrong)

/-- 'portmanteaulaw7.MatchRuns': WHATEVER THE INPUT: true; the input reads as it did. -/
def matchRunsSpec : ChangeSpec := { name := "matchRuns", fn := fun _ => fun
  | [d1, d2, d3] => { results := [.lit (.bool true)], args := [d1, d2, d3] }
  | _ => none }
def matchRunsRow : OpenClaim := { program := "ytcibdcfdchpnpaa", sum := "fe9eec695323f3c405aa714874ca7faae9a55133358b4d763a420fc4dd444996", func := "portmanteau/portmanteaulaw7.MatchRuns", spec := "matchRuns", apart := false }
def MatchRunsSaid : Prop := matchRunsRow.holds Try.pinned (OpenSpec.ofChange matchRunsSpec)

/-- ITS FALSE NEIGHBOUR: 'it returns false'. Refute it at one input. -/
def matchRunsWrong : ChangeSpec := { name := "matchRuns", fn := fun _ => fun
  | [d1, d2, d3] => { results := [.lit (.bool false)], args := [d1, d2, d3] }
  | _ => none }
def MatchRunsWrongFalsely : Prop := matchRunsRow.holds Try.pinned (OpenSpec.ofChange matchRunsWrong)

/-- 'portmanteaulaw7.MatchLongest': WHATEVER THE INPUT: true; the input reads as it did. -/
def matchLongestSpec : ChangeSpec := { name := "matchLongest", fn := fun _ => fun
  | [d1, d2, d3] => { results := [.lit (.bool true)], args := [d1, d2, d3] }
  | _ => none }
def matchLongestRow : OpenClaim := { program := "ytcibdcfdchpnpaa", sum := "fe9eec695323f3c405aa714874ca7faae9a55133358b4d763a420fc4dd444996", func := "portmanteau/portmanteaulaw7.MatchLongest", spec := "matchLongest", apart := false }
def MatchLongestSaid : Prop := matchLongestRow.holds Try.pinned (OpenSpec.ofChange matchLongestSpec)

/-- ITS FALSE NEIGHBOUR: 'it returns false'. Refute it at one input. -/
def matchLongestWrong : ChangeSpec := { name := "matchLongest", fn := fun _ => fun
  | [d1, d2, d3] => { results := [.lit (.bool false)], args := [d1, d2, d3] }
  | _ => none }
def MatchLongestWrongFalsely : Prop := matchLongestRow.holds Try.pinned (OpenSpec.ofChange matchLongestWrong)

/-- 'portmanteaulaw7.MatchTells': WHATEVER THE INPUT: true; the input reads as it did. -/
def matchTellsSpec : ChangeSpec := { name := "matchTells", fn := fun _ => fun
  | [d1, d2, d3, d4] => { results := [.lit (.bool true)], args := [d1, d2, d3, d4] }
  | _ => none }
def matchTellsRow : OpenClaim := { program := "ytcibdcfdchpnpaa", sum := "fe9eec695323f3c405aa714874ca7faae9a55133358b4d763a420fc4dd444996", func := "portmanteau/portmanteaulaw7.MatchTells", spec := "matchTells", apart := false }
def MatchTellsSaid : Prop := matchTellsRow.holds Try.pinned (OpenSpec.ofChange matchTellsSpec)

/-- ITS FALSE NEIGHBOUR: 'it returns false'. Refute it at one input. -/
def matchTellsWrong : ChangeSpec := { name := "matchTells", fn := fun _ => fun
  | [d1, d2, d3, d4] => { results := [.lit (.bool false)], args := [d1, d2, d3, d4] }
  | _ => none }
def MatchTellsWrongFalsely : Prop := matchTellsRow.holds Try.pinned (OpenSpec.ofChange matchTellsWrong)

/-- 'portmanteaulaw6.LzParts': WHATEVER THE INPUT: true; the input reads as it did. -/
def lzPartsSpec : ChangeSpec := { name := "lzParts", fn := fun _ => fun
  | [d1, d2] => { results := [.lit (.bool true)], args := [d1, d2] }
  | _ => none }
def lzPartsRow : OpenClaim := { program := "ytcibdcfdchpnpaa", sum := "fe9eec695323f3c405aa714874ca7faae9a55133358b4d763a420fc4dd444996", func := "portmanteau/portmanteaulaw6.LzParts", spec := "lzParts", apart := false }
def LzPartsSaid : Prop := lzPartsRow.holds Try.pinned (OpenSpec.ofChange lzPartsSpec)

/-- ITS FALSE NEIGHBOUR: 'it returns false'. Refute it at one input. -/
def lzPartsWrong : ChangeSpec := { name := "lzParts", fn := fun _ => fun
  | [d1, d2] => { results := [.lit (.bool false)], args := [d1, d2] }
  | _ => none }
def LzPartsWrongFalsely : Prop := lzPartsRow.holds Try.pinned (OpenSpec.ofChange lzPartsWrong)

/-- 'portmanteaulaw6.LzExpands': WHATEVER THE INPUT: true; the input reads as it did. -/
def lzExpandsSpec : ChangeSpec := { name := "lzExpands", fn := fun _ => fun
  | [d1, d2] => { results := [.lit (.bool true)], args := [d1, d2] }
  | _ => none }
def lzExpandsRow : OpenClaim := { program := "ytcibdcfdchpnpaa", sum := "fe9eec695323f3c405aa714874ca7faae9a55133358b4d763a420fc4dd444996", func := "portmanteau/portmanteaulaw6.LzExpands", spec := "lzExpands", apart := false }
def LzExpandsSaid : Prop := lzExpandsRow.holds Try.pinned (OpenSpec.ofChange lzExpandsSpec)

/-- ITS FALSE NEIGHBOUR: 'it returns false'. Refute it at one input. -/
def lzExpandsWrong : ChangeSpec := { name := "lzExpands", fn := fun _ => fun
  | [d1, d2] => { results := [.lit (.bool false)], args := [d1, d2] }
  | _ => none }
def LzExpandsWrongFalsely : Prop := lzExpandsRow.holds Try.pinned (OpenSpec.ofChange lzExpandsWrong)

/-- 'portmanteaulaw6.LzCopies': WHATEVER THE INPUT: true; the input reads as it did. -/
def lzCopiesSpec : ChangeSpec := { name := "lzCopies", fn := fun _ => fun
  | [d1, d2, d3] => { results := [.lit (.bool true)], args := [d1, d2, d3] }
  | _ => none }
def lzCopiesRow : OpenClaim := { program := "ytcibdcfdchpnpaa", sum := "fe9eec695323f3c405aa714874ca7faae9a55133358b4d763a420fc4dd444996", func := "portmanteau/portmanteaulaw6.LzCopies", spec := "lzCopies", apart := false }
def LzCopiesSaid : Prop := lzCopiesRow.holds Try.pinned (OpenSpec.ofChange lzCopiesSpec)

/-- ITS FALSE NEIGHBOUR: 'it returns false'. Refute it at one input. -/
def lzCopiesWrong : ChangeSpec := { name := "lzCopies", fn := fun _ => fun
  | [d1, d2, d3] => { results := [.lit (.bool false)], args := [d1, d2, d3] }
  | _ => none }
def LzCopiesWrongFalsely : Prop := lzCopiesRow.holds Try.pinned (OpenSpec.ofChange lzCopiesWrong)

/-- 'portmanteaulaw6.LzSymbols': WHATEVER THE INPUT: true; the input reads as it did. -/
def lzSymbolsSpec : ChangeSpec := { name := "lzSymbols", fn := fun _ => fun
  | [d1, d2] => { results := [.lit (.bool true)], args := [d1, d2] }
  | _ => none }
def lzSymbolsRow : OpenClaim := { program := "ytcibdcfdchpnpaa", sum := "fe9eec695323f3c405aa714874ca7faae9a55133358b4d763a420fc4dd444996", func := "portmanteau/portmanteaulaw6.LzSymbols", spec := "lzSymbols", apart := false }
def LzSymbolsSaid : Prop := lzSymbolsRow.holds Try.pinned (OpenSpec.ofChange lzSymbolsSpec)

/-- ITS FALSE NEIGHBOUR: 'it returns false'. Refute it at one input. -/
def lzSymbolsWrong : ChangeSpec := { name := "lzSymbols", fn := fun _ => fun
  | [d1, d2] => { results := [.lit (.bool false)], args := [d1, d2] }
  | _ => none }
def LzSymbolsWrongFalsely : Prop := lzSymbolsRow.holds Try.pinned (OpenSpec.ofChange lzSymbolsWrong)

/-- 'portmanteaulaw7.MatchBack': WHATEVER THE INPUT: true; the input reads as it did. -/
def matchBackSpec : ChangeSpec := { name := "matchBack", fn := fun _ => fun
  | [d1, d2, d3] => { results := [.lit (.bool true)], args := [d1, d2, d3] }
  | _ => none }
def matchBackRow : OpenClaim := { program := "ytcibdcfdchpnpaa", sum := "fe9eec695323f3c405aa714874ca7faae9a55133358b4d763a420fc4dd444996", func := "portmanteau/portmanteaulaw7.MatchBack", spec := "matchBack", apart := false }
def MatchBackSaid : Prop := matchBackRow.holds Try.pinned (OpenSpec.ofChange matchBackSpec)

/-- ITS FALSE NEIGHBOUR: 'it returns false'. Refute it at one input. -/
def matchBackWrong : ChangeSpec := { name := "matchBack", fn := fun _ => fun
  | [d1, d2, d3] => { results := [.lit (.bool false)], args := [d1, d2, d3] }
  | _ => none }
def MatchBackWrongFalsely : Prop := matchBackRow.holds Try.pinned (OpenSpec.ofChange matchBackWrong)

/-- 'portmanteaulaw8.LensLong': WHATEVER THE INPUT: true; the input reads as it did. -/
def lensLongSpec : ChangeSpec := { name := "lensLong", fn := fun _ => fun
  | [d1, d2] => { results := [.lit (.bool true)], args := [d1, d2] }
  | _ => none }
def lensLongRow : OpenClaim := { program := "ytcibdcfdchpnpaa", sum := "fe9eec695323f3c405aa714874ca7faae9a55133358b4d763a420fc4dd444996", func := "portmanteau/portmanteaulaw8.LensLong", spec := "lensLong", unfollowed := true, recurses := true, apart := false }
def LensLongSaid : Prop := lensLongRow.holds Try.pinned (OpenSpec.ofChange lensLongSpec)

/-- ITS FALSE NEIGHBOUR: 'it returns false'. Refute it at one input. -/
def lensLongWrong : ChangeSpec := { name := "lensLong", fn := fun _ => fun
  | [d1, d2] => { results := [.lit (.bool false)], args := [d1, d2] }
  | _ => none }
def LensLongWrongFalsely : Prop := lensLongRow.holds Try.pinned (OpenSpec.ofChange lensLongWrong)

/-- 'portmanteaulaw8.LensRuns': WHATEVER THE INPUT: true; the input reads as it did. -/
def lensRunsSpec : ChangeSpec := { name := "lensRuns", fn := fun _ => fun
  | [d1, d2] => { results := [.lit (.bool true)], args := [d1, d2] }
  | _ => none }
def lensRunsRow : OpenClaim := { program := "ytcibdcfdchpnpaa", sum := "fe9eec695323f3c405aa714874ca7faae9a55133358b4d763a420fc4dd444996", func := "portmanteau/portmanteaulaw8.LensRuns", spec := "lensRuns", unfollowed := true, recurses := true, apart := false }
def LensRunsSaid : Prop := lensRunsRow.holds Try.pinned (OpenSpec.ofChange lensRunsSpec)

/-- ITS FALSE NEIGHBOUR: 'it returns false'. Refute it at one input. -/
def lensRunsWrong : ChangeSpec := { name := "lensRuns", fn := fun _ => fun
  | [d1, d2] => { results := [.lit (.bool false)], args := [d1, d2] }
  | _ => none }
def LensRunsWrongFalsely : Prop := lensRunsRow.holds Try.pinned (OpenSpec.ofChange lensRunsWrong)

/- THE SECOND FORM. 'bulk': how many values and letters a reading holds, each counted each time it is reached (what is shared counts as often as it is met; a slice's spare places count too). A statement '..UptoSaid' is the law's where the arguments, and the package variables that the reading takes, are together of bulk at most 1048576: NARROWER than '..Said'. Prove '..Said' where nothing that the law and all that it calls make is longer than what came in: it says more and counts as full. Else prove '..UptoSaid'. A law counts once. -/
mutual
def uptoBulk {H : Type} : DataW H → Nat
  | .lit (.string bytes) => bytes.length + 1
  | .lit _ => 1
  | .nil => 1
  | .ptr d => uptoBulk d + 1
  | .slice elems spare => uptoBulkAll elems + uptoBulkAll spare + 1
  | .agg parts => uptoBulkAll parts + 1
  | .iface _ d => uptoBulk d + 1
  | .map entries => uptoBulkEntries entries + 1
  | .held _ => 1
def uptoBulkAll {H : Type} : List (DataW H) → Nat
  | [] => 0
  | d :: r => uptoBulk d + uptoBulkAll r
def uptoBulkEntries {H : Type} : List (Lit × DataW H) → Nat
  | [] => 0
  | x :: r => uptoBulkEntry x + uptoBulkEntries r
def uptoBulkEntry {H : Type} : Lit × DataW H → Nat
  | (.string bytes, d) => bytes.length + uptoBulk d + 1
  | (_, d) => uptoBulk d + 1
 end
def uptoSmall : (H : Type) → List (DataW H) → Bool := fun _ ds => decide (uptoBulkAll ds ≤ 1048576)
def OpenSpec.upto (s : _root_.Go.ChangeSpec) : _root_.Go.OpenSpec := { _root_.Go.OpenSpec.ofChange s with cond := some uptoSmall }

/-- 'portmanteaulaw8.LensFlat', WHERE WHAT IT READS IS OF BULK AT MOST 1048576: true; the input reads as it did. -/
def lensFlatUptoRow : OpenClaim := { program := "ytcibdcfdchpnpaa", sum := "fe9eec695323f3c405aa714874ca7faae9a55133358b4d763a420fc4dd444996", func := "portmanteau/portmanteaulaw8.LensFlat", spec := "lensFlat", apart := false, narrowed := true }
def LensFlatUptoSaid : Prop := lensFlatUptoRow.holds Try.pinned (OpenSpec.upto lensFlatSpec)

/-- 'portmanteaulaw7.MatchRuns', WHERE WHAT IT READS IS OF BULK AT MOST 1048576: true; the input reads as it did. -/
def matchRunsUptoRow : OpenClaim := { program := "ytcibdcfdchpnpaa", sum := "fe9eec695323f3c405aa714874ca7faae9a55133358b4d763a420fc4dd444996", func := "portmanteau/portmanteaulaw7.MatchRuns", spec := "matchRuns", apart := false, narrowed := true }
def MatchRunsUptoSaid : Prop := matchRunsUptoRow.holds Try.pinned (OpenSpec.upto matchRunsSpec)

/-- 'portmanteaulaw7.MatchLongest', WHERE WHAT IT READS IS OF BULK AT MOST 1048576: true; the input reads as it did. -/
def matchLongestUptoRow : OpenClaim := { program := "ytcibdcfdchpnpaa", sum := "fe9eec695323f3c405aa714874ca7faae9a55133358b4d763a420fc4dd444996", func := "portmanteau/portmanteaulaw7.MatchLongest", spec := "matchLongest", apart := false, narrowed := true }
def MatchLongestUptoSaid : Prop := matchLongestUptoRow.holds Try.pinned (OpenSpec.upto matchLongestSpec)

/-- 'portmanteaulaw7.MatchTells', WHERE WHAT IT READS IS OF BULK AT MOST 1048576: true; the input reads as it did. -/
def matchTellsUptoRow : OpenClaim := { program := "ytcibdcfdchpnpaa", sum := "fe9eec695323f3c405aa714874ca7faae9a55133358b4d763a420fc4dd444996", func := "portmanteau/portmanteaulaw7.MatchTells", spec := "matchTells", apart := false, narrowed := true }
def MatchTellsUptoSaid : Prop := matchTellsUptoRow.holds Try.pinned (OpenSpec.upto matchTellsSpec)

/-- 'portmanteaulaw6.LzParts', WHERE WHAT IT READS IS OF BULK AT MOST 1048576: true; the input reads as it did. -/
def lzPartsUptoRow : OpenClaim := { program := "ytcibdcfdchpnpaa", sum := "fe9eec695323f3c405aa714874ca7faae9a55133358b4d763a420fc4dd444996", func := "portmanteau/portmanteaulaw6.LzParts", spec := "lzParts", apart := false, narrowed := true }
def LzPartsUptoSaid : Prop := lzPartsUptoRow.holds Try.pinned (OpenSpec.upto lzPartsSpec)

/-- 'portmanteaulaw6.LzExpands', WHERE WHAT IT READS IS OF BULK AT MOST 1048576: true; the input reads as it did. -/
def lzExpandsUptoRow : OpenClaim := { program := "ytcibdcfdchpnpaa", sum := "fe9eec695323f3c405aa714874ca7faae9a55133358b4d763a420fc4dd444996", func := "portmanteau/portmanteaulaw6.LzExpands", spec := "lzExpands", apart := false, narrowed := true }
def LzExpandsUptoSaid : Prop := lzExpandsUptoRow.holds Try.pinned (OpenSpec.upto lzExpandsSpec)

/-- 'portmanteaulaw6.LzCopies', WHERE WHAT IT READS IS OF BULK AT MOST 1048576: true; the input reads as it did. -/
def lzCopiesUptoRow : OpenClaim := { program := "ytcibdcfdchpnpaa", sum := "fe9eec695323f3c405aa714874ca7faae9a55133358b4d763a420fc4dd444996", func := "portmanteau/portmanteaulaw6.LzCopies", spec := "lzCopies", apart := false, narrowed := true }
def LzCopiesUptoSaid : Prop := lzCopiesUptoRow.holds Try.pinned (OpenSpec.upto lzCopiesSpec)

/-- 'portmanteaulaw6.LzSymbols', WHERE WHAT IT READS IS OF BULK AT MOST 1048576: true; the input reads as it did. -/
def lzSymbolsUptoRow : OpenClaim := { program := "ytcibdcfdchpnpaa", sum := "fe9eec695323f3c405aa714874ca7faae9a55133358b4d763a420fc4dd444996", func := "portmanteau/portmanteaulaw6.LzSymbols", spec := "lzSymbols", apart := false, narrowed := true }
def LzSymbolsUptoSaid : Prop := lzSymbolsUptoRow.holds Try.pinned (OpenSpec.upto lzSymbolsSpec)

/-- 'portmanteaulaw7.MatchBack', WHERE WHAT IT READS IS OF BULK AT MOST 1048576: true; the input reads as it did. -/
def matchBackUptoRow : OpenClaim := { program := "ytcibdcfdchpnpaa", sum := "fe9eec695323f3c405aa714874ca7faae9a55133358b4d763a420fc4dd444996", func := "portmanteau/portmanteaulaw7.MatchBack", spec := "matchBack", apart := false, narrowed := true }
def MatchBackUptoSaid : Prop := matchBackUptoRow.holds Try.pinned (OpenSpec.upto matchBackSpec)

/-- 'portmanteaulaw8.LensLong', WHERE WHAT IT READS IS OF BULK AT MOST 1048576: true; the input reads as it did. -/
def lensLongUptoRow : OpenClaim := { program := "ytcibdcfdchpnpaa", sum := "fe9eec695323f3c405aa714874ca7faae9a55133358b4d763a420fc4dd444996", func := "portmanteau/portmanteaulaw8.LensLong", spec := "lensLong", unfollowed := true, recurses := true, apart := false, narrowed := true }
def LensLongUptoSaid : Prop := lensLongUptoRow.holds Try.pinned (OpenSpec.upto lensLongSpec)

/-- 'portmanteaulaw8.LensRuns', WHERE WHAT IT READS IS OF BULK AT MOST 1048576: true; the input reads as it did. -/
def lensRunsUptoRow : OpenClaim := { program := "ytcibdcfdchpnpaa", sum := "fe9eec695323f3c405aa714874ca7faae9a55133358b4d763a420fc4dd444996", func := "portmanteau/portmanteaulaw8.LensRuns", spec := "lensRuns", unfollowed := true, recurses := true, apart := false, narrowed := true }
def LensRunsUptoSaid : Prop := lensRunsUptoRow.holds Try.pinned (OpenSpec.upto lensRunsSpec)

end Rows
end Go.Proofs.Ytcibdcfdchpnpaa
