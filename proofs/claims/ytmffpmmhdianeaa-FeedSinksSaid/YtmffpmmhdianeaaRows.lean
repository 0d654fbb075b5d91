/-
  No cell of these rows narrows 'for every input' (looked for: loops, veiled, ifaces, maps, wideKeys, modest, calm, conditions, laid).
  DERIVED. THE GIVEN ROWS OF THIS SEAT. 12 by the template 'for every input the law returns true; each argument reads behind the call as it read before'; 0 by the template 'total and deterministic' (their statements: YtmffpmmhdianeaaTotals.lean).
  GIVEN WITH THE SEED: the statements are not yours to turn. If you find one false, say at which input.
  Laid BY PROGRAM, IN A SANDBOX (cutbox-rows.mjs): the forced cells as the released guide's own fill.sh prints them over the translation 7c2b4808b60abc1e… (all of the seat's roots in one cut). By AI agents, Wed Nov 11 2026. No macro, syntax, notation, axiom, sorry.
-/
import Derived.Test.YtmffpmmhdianeaaChecked
import GoSem.Claim
import GoSem.ClaimJoined
import GoSem.ClaimMapViews
import Derived.JoinedTies
import Derived.KernelRfl
namespace Go.Proofs.Ytmffpmmhdianeaa
/- THE CELL 'sum', in the pinned program and in every row, IS THE sha256 OF THE DUMP (.gsa) THAT YtmffpmmhdianeaaProg.lean LOADS. Nothing in Lean hashes anything: it is a label: what it is worth is what the hold of that sum in a sandbox is worth. -/
noncomputable def Try.pinned : Pinned := { name := "ytmffpmmhdianeaa", sum := "7c2b4808b60abc1ee8cc75217198ceff44775149f23ee44a6035a1b3dd058d98", checked := Try.checked }
namespace Rows
def none {H : Type} : Left H := { results := [], args := [] }

/-- 'portmanteaulaw2.CrcSums': WHATEVER THE INPUT: true; the input reads as it did. -/
def crcSumsSpec : ChangeSpec := { name := "crcSums", fn := fun _ => fun
  | [d1, d2] => { results := [.lit (.bool true)], args := [d1, d2] }
  | _ => none }
def crcSumsRow : OpenClaim := { program := "ytmffpmmhdianeaa", sum := "7c2b4808b60abc1ee8cc75217198ceff44775149f23ee44a6035a1b3dd058d98", func := "portmanteau/portmanteaulaw2.CrcSums", spec := "crcSums", apart := false }
def CrcSumsSaid : Prop := crcSumsRow.holds Try.pinned (OpenSpec.ofChange crcSumsSpec)

/-- ITS FALSE NEIGHBOUR: 'it returns false'. Refute it at one input. -/
def crcSumsWrong : ChangeSpec := { name := "crcSums", fn := fun _ => fun
  | [d1, d2] => { results := [.lit (.bool false)], args := [d1, d2] }
  | _ => none }
def CrcSumsWrongFalsely : Prop := crcSumsRow.holds Try.pinned (OpenSpec.ofChange crcSumsWrong)

/-- 'portmanteaulaw2.CrcParts': WHATEVER THE INPUT: true; the input reads as it did. -/
def crcPartsSpec : ChangeSpec := { name := "crcParts", fn := fun _ => fun
  | [d] => { results := [.lit (.bool true)], args := [d] }
  | _ => none }
def crcPartsRow : OpenClaim := { program := "ytmffpmmhdianeaa", sum := "7c2b4808b60abc1ee8cc75217198ceff44775149f23ee44a6035a1b3dd058d98", func := "portmanteau/portmanteaulaw2.CrcParts", spec := "crcParts", apart := false }
def CrcPartsSaid : Prop := crcPartsRow.holds Try.pinned (OpenSpec.ofChange crcPartsSpec)

/-- ITS FALSE NEIGHBOUR: 'it returns false'. Refute it at one input. -/
def crcPartsWrong : ChangeSpec := { name := "crcParts", fn := fun _ => fun
  | [d] => { results := [.lit (.bool false)], args := [d] }
  | _ => none }
def CrcPartsWrongFalsely : Prop := crcPartsRow.holds Try.pinned (OpenSpec.ofChange crcPartsWrong)

/-- 'portmanteaulaw2.CrcTells': WHATEVER THE INPUT: true; the input reads as it did. -/
def crcTellsSpec : ChangeSpec := { name := "crcTells", fn := fun _ => fun
  | [d1, d2, d3] => { results := [.lit (.bool true)], args := [d1, d2, d3] }
  | _ => none }
def crcTellsRow : OpenClaim := { program := "ytmffpmmhdianeaa", sum := "7c2b4808b60abc1ee8cc75217198ceff44775149f23ee44a6035a1b3dd058d98", func := "portmanteau/portmanteaulaw2.CrcTells", spec := "crcTells", apart := false }
def CrcTellsSaid : Prop := crcTellsRow.holds Try.pinned (OpenSpec.ofChange crcTellsSpec)

/-- ITS FALSE NEIGHBOUR: 'it returns false'. Refute it at one input. -/
def crcTellsWrong : ChangeSpec := { name := "crcTells", fn := fun _ => fun
  | [d1, d2, d3] => { results := [.lit (.bool false)], args := [d1, d2, d3] }
  | _ => none }
def CrcTellsWrongFalsely : Prop := crcTellsRow.holds Try.pinned (OpenSpec.ofChange crcTellsWrong)

/-- 'portmanteaulaw2.CrcBits': WHATEVER THE INPUT: true; the input reads as it did. -/
def crcBitsSpec : ChangeSpec := { name := "crcBits", fn := fun _ => fun
  | [d1, d2, d3] => { results := [.lit (.bool true)], args := [d1, d2, d3] }
  | _ => none }
def crcBitsRow : OpenClaim := { program := "ytmffpmmhdianeaa", sum := "7c2b4808b60abc1ee8cc75217198ceff44775149f23ee44a6035a1b3dd058d98", func := "portmanteau/portmanteaulaw2.CrcBits", spec := "crcBits", apart := false }
def CrcBitsSaid : Prop := crcBitsRow.holds Try.pinned (OpenSpec.ofChange crcBitsSpec)

/-- ITS FALSE NEIGHBOUR: 'it returns false'. Refute it at one input. -/
def crcBitsWrong : ChangeSpec := { name := "crcBits", fn := fun _ => fun
  | [d1, d2, d3] => { results := [.lit (.bool false)], args := [d1, d2, d3] }
  | _ => none }
def CrcBitsWrongFalsely : Prop := crcBitsRow.holds Try.pinned (OpenSpec.ofChange crcBitsWrong)

/-- 'portmanteaulaw3.FeedJoin': WHATEVER THE INPUT: true; the input reads as it did. -/
def feedJoinSpec : ChangeSpec := { name := "feedJoin", fn := fun _ => fun
  | [d1, d2, d3] => { results := [.lit (.bool true)], args := [d1, d2, d3] }
  | _ => none }
def feedJoinRow : OpenClaim := { program := "ytmffpmmhdianeaa", sum := "7c2b4808b60abc1ee8cc75217198ceff44775149f23ee44a6035a1b3dd058d98", func := "portmanteau/portmanteaulaw3.FeedJoin", spec := "feedJoin", apart := false }
def FeedJoinSaid : Prop := feedJoinRow.holds Try.pinned (OpenSpec.ofChange feedJoinSpec)

/-- ITS FALSE NEIGHBOUR: 'it returns false'. Refute it at one input. -/
def feedJoinWrong : ChangeSpec := { name := "feedJoin", fn := fun _ => fun
  | [d1, d2, d3] => { results := [.lit (.bool false)], args := [d1, d2, d3] }
  | _ => none }
def FeedJoinWrongFalsely : Prop := feedJoinRow.holds Try.pinned (OpenSpec.ofChange feedJoinWrong)

/-- 'portmanteaulaw3.FeedPieces': WHATEVER THE INPUT: true; the input reads as it did. -/
def feedPiecesSpec : ChangeSpec := { name := "feedPieces", fn := fun _ => fun
  | [d1, d2] => { results := [.lit (.bool true)], args := [d1, d2] }
  | _ => none }
def feedPiecesRow : OpenClaim := { program := "ytmffpmmhdianeaa", sum := "7c2b4808b60abc1ee8cc75217198ceff44775149f23ee44a6035a1b3dd058d98", func := "portmanteau/portmanteaulaw3.FeedPieces", spec := "feedPieces", apart := false }
def FeedPiecesSaid : Prop := feedPiecesRow.holds Try.pinned (OpenSpec.ofChange feedPiecesSpec)

/-- ITS FALSE NEIGHBOUR: 'it returns false'. Refute it at one input. -/
def feedPiecesWrong : ChangeSpec := { name := "feedPieces", fn := fun _ => fun
  | [d1, d2] => { results := [.lit (.bool false)], args := [d1, d2] }
  | _ => none }
def FeedPiecesWrongFalsely : Prop := feedPiecesRow.holds Try.pinned (OpenSpec.ofChange feedPiecesWrong)

/-- 'portmanteaulaw1.BitsPeek': WHATEVER THE INPUT: true; the input reads as it did. -/
def bitsPeekSpec : ChangeSpec := { name := "bitsPeek", fn := fun _ => fun
  | [d1, d2, d3] => { results := [.lit (.bool true)], args := [d1, d2, d3] }
  | _ => none }
def bitsPeekRow : OpenClaim := { program := "ytmffpmmhdianeaa", sum := "7c2b4808b60abc1ee8cc75217198ceff44775149f23ee44a6035a1b3dd058d98", func := "portmanteau/portmanteaulaw1.BitsPeek", spec := "bitsPeek", apart := false }
def BitsPeekSaid : Prop := bitsPeekRow.holds Try.pinned (OpenSpec.ofChange bitsPeekSpec)

/-- ITS FALSE NEIGHBOUR: 'it returns false'. Refute it at one input. -/
def bitsPeekWrong : ChangeSpec := { name := "bitsPeek", fn := fun _ => fun
  | [d1, d2, d3] => { results := [.lit (.bool false)], args := [d1, d2, d3] }
  | _ => none }
def BitsPeekWrongFalsely : Prop := bitsPeekRow.holds Try.pinned (OpenSpec.ofChange bitsPeekWrong)

/-- 'portmanteaulaw1.BitsBack': WHATEVER THE INPUT: true; the input reads as it did. -/
def bitsBackSpec : ChangeSpec := { name := "bitsBack", fn := fun _ => fun
  | [d] => { results := [.lit (.bool true)], args := [d] }
  | _ => none }
def bitsBackRow : OpenClaim := { program := "ytmffpmmhdianeaa", sum := "7c2b4808b60abc1ee8cc75217198ceff44775149f23ee44a6035a1b3dd058d98", func := "portmanteau/portmanteaulaw1.BitsBack", spec := "bitsBack", apart := false }
def BitsBackSaid : Prop := bitsBackRow.holds Try.pinned (OpenSpec.ofChange bitsBackSpec)

/-- ITS FALSE NEIGHBOUR: 'it returns false'. Refute it at one input. -/
def bitsBackWrong : ChangeSpec := { name := "bitsBack", fn := fun _ => fun
  | [d] => { results := [.lit (.bool false)], args := [d] }
  | _ => none }
def BitsBackWrongFalsely : Prop := bitsBackRow.holds Try.pinned (OpenSpec.ofChange bitsBackWrong)

/-- 'portmanteaulaw1.BitsParts': WHATEVER THE INPUT: true; the input reads as it did. -/
def bitsPartsSpec : ChangeSpec := { name := "bitsParts", fn := fun _ => fun
  | [d1, d2, d3, d4] => { results := [.lit (.bool true)], args := [d1, d2, d3, d4] }
  | _ => none }
def bitsPartsRow : OpenClaim := { program := "ytmffpmmhdianeaa", sum := "7c2b4808b60abc1ee8cc75217198ceff44775149f23ee44a6035a1b3dd058d98", func := "portmanteau/portmanteaulaw1.BitsParts", spec := "bitsParts", apart := false }
def BitsPartsSaid : Prop := bitsPartsRow.holds Try.pinned (OpenSpec.ofChange bitsPartsSpec)

/-- ITS FALSE NEIGHBOUR: 'it returns false'. Refute it at one input. -/
def bitsPartsWrong : ChangeSpec := { name := "bitsParts", fn := fun _ => fun
  | [d1, d2, d3, d4] => { results := [.lit (.bool false)], args := [d1, d2, d3, d4] }
  | _ => none }
def BitsPartsWrongFalsely : Prop := bitsPartsRow.holds Try.pinned (OpenSpec.ofChange bitsPartsWrong)

/-- 'portmanteaulaw3.FeedSinks': WHATEVER THE INPUT: true; the input reads as it did. -/
def feedSinksSpec : ChangeSpec := { name := "feedSinks", fn := fun _ => fun
  | [d1, d2] => { results := [.lit (.bool true)], args := [d1, d2] }
  | _ => none }
def feedSinksRow : OpenClaim := { program := "ytmffpmmhdianeaa", sum := "7c2b4808b60abc1ee8cc75217198ceff44775149f23ee44a6035a1b3dd058d98", func := "portmanteau/portmanteaulaw3.FeedSinks", spec := "feedSinks", unfollowed := true, recurses := true, apart := false }
def FeedSinksSaid : Prop := feedSinksRow.holds Try.pinned (OpenSpec.ofChange feedSinksSpec)

/-- ITS FALSE NEIGHBOUR: 'it returns false'. Refute it at one input. -/
def feedSinksWrong : ChangeSpec := { name := "feedSinks", fn := fun _ => fun
  | [d1, d2] => { results := [.lit (.bool false)], args := [d1, d2] }
  | _ => none }
def FeedSinksWrongFalsely : Prop := feedSinksRow.holds Try.pinned (OpenSpec.ofChange feedSinksWrong)

/-- 'portmanteaulaw1.BitsWrite': WHATEVER THE INPUT: true; the input reads as it did. -/
def bitsWriteSpec : ChangeSpec := { name := "bitsWrite", fn := fun _ => fun
  | [d] => { results := [.lit (.bool true)], args := [d] }
  | _ => none }
def bitsWriteRow : OpenClaim := { program := "ytmffpmmhdianeaa", sum := "7c2b4808b60abc1ee8cc75217198ceff44775149f23ee44a6035a1b3dd058d98", func := "portmanteau/portmanteaulaw1.BitsWrite", spec := "bitsWrite", apart := false }
def BitsWriteSaid : Prop := bitsWriteRow.holds Try.pinned (OpenSpec.ofChange bitsWriteSpec)

/-- ITS FALSE NEIGHBOUR: 'it returns false'. Refute it at one input. -/
def bitsWriteWrong : ChangeSpec := { name := "bitsWrite", fn := fun _ => fun
  | [d] => { results := [.lit (.bool false)], args := [d] }
  | _ => none }
def BitsWriteWrongFalsely : Prop := bitsWriteRow.holds Try.pinned (OpenSpec.ofChange bitsWriteWrong)

/-- 'portmanteaulaw1.BitsRead': WHATEVER THE INPUT: true; the input reads as it did. -/
def bitsReadSpec : ChangeSpec := { name := "bitsRead", fn := fun _ => fun
  | [d1, d2] => { results := [.lit (.bool true)], args := [d1, d2] }
  | _ => none }
def bitsReadRow : OpenClaim := { program := "ytmffpmmhdianeaa", sum := "7c2b4808b60abc1ee8cc75217198ceff44775149f23ee44a6035a1b3dd058d98", func := "portmanteau/portmanteaulaw1.BitsRead", spec := "bitsRead", apart := false }
def BitsReadSaid : Prop := bitsReadRow.holds Try.pinned (OpenSpec.ofChange bitsReadSpec)

/-- ITS FALSE NEIGHBOUR: 'it returns false'. Refute it at one input. -/
def bitsReadWrong : ChangeSpec := { name := "bitsRead", fn := fun _ => fun
  | [d1, d2] => { results := [.lit (.bool false)], args := [d1, d2] }
  | _ => none }
def BitsReadWrongFalsely : Prop := bitsReadRow.holds Try.pinned (OpenSpec.ofChange bitsReadWrong)

/- THE SECOND FORM. 'bulk': how many values and letters a reading holds, each counted each time it is reached (what is shared counts as often as it is met; a slice's spare places count too). A statement '..UptoSaid' is the law's where the arguments, and the package variables that the reading takes, are together of bulk at most 1048576: NARROWER than '..Said'. Prove '..Said' where nothing that the law and all that it calls make is longer than what came in: it says more and counts as full. Else prove '..UptoSaid'. A law counts once. -/
mutual
def uptoBulk {H : Type} : DataW H → Nat
  | .lit (.string bytes) => bytes.length + 1
  | .lit _ => 1
  | .nil => 1
  | .ptr d => uptoBulk d + 1
  | .slice elems spare => uptoBulkAll elems + uptoBulkAll spare + 1
  | .agg parts => uptoBulkAll parts + 1
  | .iface _ d => uptoBulk d + 1
  | .map entries => uptoBulkEntries entries + 1
  | .held _ => 1
def uptoBulkAll {H : Type} : List (DataW H) → Nat
  | [] => 0
  | d :: r => uptoBulk d + uptoBulkAll r
def uptoBulkEntries {H : Type} : List (Lit × DataW H) → Nat
  | [] => 0
  | x :: r => uptoBulkEntry x + uptoBulkEntries r
def uptoBulkEntry {H : Type} : Lit × DataW H → Nat
  | (.string bytes, d) => bytes.length + uptoBulk d + 1
  | (_, d) => uptoBulk d + 1
 end
def uptoSmall : (H : Type) → List (DataW H) → Bool := fun _ ds => decide (uptoBulkAll ds ≤ 1048576)
def OpenSpec.upto (s : _root_.Go.ChangeSpec) : _root_.Go.OpenSpec := { _root_.Go.OpenSpec.ofChange s with cond := some uptoSmall }

/-- 'portmanteaulaw2.CrcSums', WHERE WHAT IT READS IS OF BULK AT MOST 1048576: true; the input reads as it did. -/
def crcSumsUptoRow : OpenClaim := { program := "ytmffpmmhdianeaa", sum := "7c2b4808b60abc1ee8cc75217198ceff44775149f23ee44a6035a1b3dd058d98", func := "portmanteau/portmanteaulaw2.CrcSums", spec := "crcSums", apart := false, narrowed := true }
def CrcSumsUptoSaid : Prop := crcSumsUptoRow.holds Try.pinned (OpenSpec.upto crcSumsSpec)

/-- 'portmanteaulaw2.CrcParts', WHERE WHAT IT READS IS OF BULK AT MOST 1048576: true; the input reads as it did. -/
def crcPartsUptoRow : OpenClaim := { program := "ytmffpmmhdianeaa", sum := "7c2b4808b60abc1ee8cc75217198ceff44775149f23ee44a6035a1b3dd058d98", func := "portmanteau/portmanteaulaw2.CrcParts", spec := "crcParts", apart := false, narrowed := true }
def CrcPartsUptoSaid : Prop := crcPartsUptoRow.holds Try.pinned (OpenSpec.upto crcPartsSpec)

/-- 'portmanteaulaw2.CrcTells', WHERE WHAT IT READS IS OF BULK AT MOST 1048576: true; the input reads as it did. -/
def crcTellsUptoRow : OpenClaim := { program := "ytmffpmmhdianeaa", sum := "7c2b4808b60abc1ee8cc75217198ceff44775149f23ee44a6035a1b3dd058d98", func := "portmanteau/portmanteaulaw2.CrcTells", spec := "crcTells", apart := false, narrowed := true }
def CrcTellsUptoSaid : Prop := crcTellsUptoRow.holds Try.pinned (OpenSpec.upto crcTellsSpec)

/-- 'portmanteaulaw2.CrcBits', WHERE WHAT IT READS IS OF BULK AT MOST 1048576: true; the input reads as it did. -/
def crcBitsUptoRow : OpenClaim := { program := "ytmffpmmhdianeaa", sum := "7c2b4808b60abc1ee8cc75217198ceff44775149f23ee44a6035a1b3dd058d98", func := "portmanteau/portmanteaulaw2.CrcBits", spec := "crcBits", apart := false, narrowed := true }
def CrcBitsUptoSaid : Prop := crcBitsUptoRow.holds Try.pinned (OpenSpec.upto crcBitsSpec)

/-- 'portmanteaulaw3.FeedJoin', WHERE WHAT IT READS IS OF BULK AT MOST 1048576: true; the input reads as it did. -/
def feedJoinUptoRow : OpenClaim := { program := "ytmffpmmhdianeaa", sum := "7c2b4808b60abc1ee8cc75217198ceff44775149f23ee44a6035a1b3dd058d98", func := "portmanteau/portmanteaulaw3.FeedJoin", spec := "feedJoin", apart := false, narrowed := true }
def FeedJoinUptoSaid : Prop := feedJoinUptoRow.holds Try.pinned (OpenSpec.upto feedJoinSpec)

/-- 'portmanteaulaw3.FeedPieces', WHERE WHAT IT READS IS OF BULK AT MOST 1048576: true; the input reads as it did. -/
def feedPiecesUptoRow : OpenClaim := { program := "ytmffpmmhdianeaa", sum := "7c2b4808b60abc1ee8cc75217198ceff44775149f23ee44a6035a1b3dd058d98", func := "portmanteau/portmanteaulaw3.FeedPieces", spec := "feedPieces", apart := false, narrowed := true }
def FeedPiecesUptoSaid : Prop := feedPiecesUptoRow.holds Try.pinned (OpenSpec.upto feedPiecesSpec)

/-- 'portmanteaulaw1.BitsPeek', WHERE WHAT IT READS IS OF BULK AT MOST 1048576: true; the input reads as it did. -/
def bitsPeekUptoRow : OpenClaim := { program := "ytmffpmmhdianeaa", sum := "7c2b4808b60abc1ee8cc75217198ceff44775149f23ee44a6035a1b3dd058d98", func := "portmanteau/portmanteaulaw1.BitsPeek", spec := "bitsPeek", apart := false, narrowed := true }
def BitsPeekUptoSaid : Prop := bitsPeekUptoRow.holds Try.pinned (OpenSpec.upto bitsPeekSpec)

/-- 'portmanteaulaw1.BitsBack', WHERE WHAT IT READS IS OF BULK AT MOST 1048576: true; the input reads as it did. -/
def bitsBackUptoRow : OpenClaim := { program := "ytmffpmmhdianeaa", sum := "7c2b4808b60abc1ee8cc75217198ceff44775149f23ee44a6035a1b3dd058d98", func := "portmanteau/portmanteaulaw1.BitsBack", spec := "bitsBack", apart := false, narrowed := true }
def BitsBackUptoSaid : Prop := bitsBackUptoRow.holds Try.pinned (OpenSpec.upto bitsBackSpec)

/-- 'portmanteaulaw1.BitsParts', WHERE WHAT IT READS IS OF BULK AT MOST 1048576: true; the input reads as it did. -/
def bitsPartsUptoRow : OpenClaim := { program := "ytmffpmmhdianeaa", sum := "7c2b4808b60abc1ee8cc75217198ceff44775149f23ee44a6035a1b3dd058d98", func := "portmanteau/portmanteaulaw1.BitsParts", spec := "bitsParts", apart := false, narrowed := true }
def BitsPartsUptoSaid : Prop := bitsPartsUptoRow.holds Try.pinned (OpenSpec.upto bitsPartsSpec)

/-- 'portmanteaulaw3.FeedSinks', WHERE WHAT IT READS IS OF BULK AT MOST 1048576: true; the input reads as it did. -/
def feedSinksUptoRow : OpenClaim := { program := "ytmffpmmhdianeaa", sum := "7c2b4808b60abc1ee8cc75217198ceff44775149f23ee44a6035a1b3dd058d98", func := "portmanteau/portmanteaulaw3.FeedSinks", spec := "feedSinks", unfollowed := true, recurses := true, apart := false, narrowed := true }
def FeedSinksUptoSaid : Prop := feedSinksUptoRow.holds Try.pinned (OpenSpec.upto feedSinksSpec)

/-- 'portmanteaulaw1.BitsWrite', WHERE WHAT IT READS IS OF BULK AT MOST 1048576: true; the input reads as it did. -/
def bitsWriteUptoRow : OpenClaim := { program := "ytmffpmmhdianeaa", sum := "7c2b4808b60abc1ee8cc75217198ceff44775149f23ee44a6035a1b3dd058d98", func := "portmanteau/portmanteaulaw1.BitsWrite", spec := "bitsWrite", apart := false, narrowed := true }
def BitsWriteUptoSaid : Prop := bitsWriteUptoRow.holds Try.pinned (OpenSpec.upto bitsWriteSpec)

/-- 'portmanteaulaw1.BitsRead', WHERE WHAT IT READS IS OF BULK AT MOST 1048576: true; the input reads as it did. -/
def bitsReadUptoRow : OpenClaim := { program := "ytmffpmmhdianeaa", sum := "7c2b4808b60abc1ee8cc75217198ceff44775149f23ee44a6035a1b3dd058d98", func := "portmanteau/portmanteaulaw1.BitsRead", spec := "bitsRead", apart := false, narrowed := true }
def BitsReadUptoSaid : Prop := bitsReadUptoRow.holds Try.pinned (OpenSpec.upto bitsReadSpec)

end Rows
end Go.Proofs.Ytmffpmmhdianeaa
