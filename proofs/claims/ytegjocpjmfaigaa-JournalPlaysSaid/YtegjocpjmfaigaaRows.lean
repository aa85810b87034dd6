/-
  No cell of these rows narrows 'for every input' (looked for: loops, veiled, ifaces, maps, wideKeys, modest, calm, conditions, laid).
  DERIVED. THE GIVEN ROWS OF THIS SEAT. 14 by the template 'for every input the law returns true; each argument reads behind the call as it read before'; 0 by the template 'total and deterministic' (their statements: YtegjocpjmfaigaaTotals.lean).
  GIVEN WITH THE SEED: the statements are not yours to turn. If you find one false, say at which input.
  Laid BY PROGRAM, IN A SANDBOX (cutbox-rows.mjs): the forced cells as the released guide's own fill.sh prints them over the translation cd23ab88533be8e7… (all of the seat's roots in one cut). By AI agents, Wed Nov 11 2026. No macro, syntax, notation, axiom, sorry.
-/
import Derived.Test.YtegjocpjmfaigaaChecked
import GoSem.Claim
import GoSem.ClaimJoined
import GoSem.ClaimMapViews
import Derived.JoinedTies
import Derived.KernelRfl
namespace Go.Proofs.Ytegjocpjmfaigaa
/- THE CELL 'sum', in the pinned program and in every row, IS THE sha256 OF THE DUMP (.gsa) THAT YtegjocpjmfaigaaProg.lean LOADS. Nothing in Lean hashes anything: it is a label: what it is worth is what the hold of that sum in a sandbox is worth. -/
noncomputable def Try.pinned : Pinned := { name := "ytegjocpjmfaigaa", sum := "cd23ab88533be8e710b36442dfac89c538795910f4e1372d9058f6ef537f99e1", checked := Try.checked }
namespace Rows
def none {H : Type} : Left H := { results := [], args := [] }

/-- 'marsheslaw14.BlockPlays': WHATEVER THE INPUT: true; the input reads as it did. -/
def blockPlaysSpec : ChangeSpec := { name := "blockPlays", fn := fun _ => fun
  | [d1, d2] => { results := [.lit (.bool true)], args := [d1, d2] }
  | _ => none }
def blockPlaysRow : OpenClaim := { program := "ytegjocpjmfaigaa", sum := "cd23ab88533be8e710b36442dfac89c538795910f4e1372d9058f6ef537f99e1", func := "marshes/marsheslaw14.BlockPlays", spec := "blockPlays", unfollowed := true, recurses := true, apart := false }
def BlockPlaysSaid : Prop := blockPlaysRow.holds Try.pinned (OpenSpec.ofChange blockPlaysSpec)

/-- ITS FALSE NEIGHBOUR: 'it returns false'. Refute it at one input. -/
def blockPlaysWrong : ChangeSpec := { name := "blockPlays", fn := fun _ => fun
  | [d1, d2] => { results := [.lit (.bool false)], args := [d1, d2] }
  | _ => none }
def BlockPlaysWrongFalsely : Prop := blockPlaysRow.holds Try.pinned (OpenSpec.ofChange blockPlaysWrong)

/-- 'marsheslaw14.BlockKeeps': WHATEVER THE INPUT: true; the input reads as it did. -/
def blockKeepsSpec : ChangeSpec := { name := "blockKeeps", fn := fun _ => fun
  | [d1, d2, d3, d4] => { results := [.lit (.bool true)], args := [d1, d2, d3, d4] }
  | _ => none }
def blockKeepsRow : OpenClaim := { program := "ytegjocpjmfaigaa", sum := "cd23ab88533be8e710b36442dfac89c538795910f4e1372d9058f6ef537f99e1", func := "marshes/marsheslaw14.BlockKeeps", spec := "blockKeeps", inPlace := ["internal/abi.NoEscape", "internal/bytealg.MakeNoZero"], unfollowed := true, recurses := true, apart := false }
def BlockKeepsSaid : Prop := blockKeepsRow.holds Try.pinned (OpenSpec.ofChange blockKeepsSpec)

/-- ITS FALSE NEIGHBOUR: 'it returns false'. Refute it at one input. -/
def blockKeepsWrong : ChangeSpec := { name := "blockKeeps", fn := fun _ => fun
  | [d1, d2, d3, d4] => { results := [.lit (.bool false)], args := [d1, d2, d3, d4] }
  | _ => none }
def BlockKeepsWrongFalsely : Prop := blockKeepsRow.holds Try.pinned (OpenSpec.ofChange blockKeepsWrong)

/-- 'marsheslaw14.BlockReads': WHATEVER THE INPUT: true; the input reads as it did. -/
def blockReadsSpec : ChangeSpec := { name := "blockReads", fn := fun _ => fun
  | [d1, d2] => { results := [.lit (.bool true)], args := [d1, d2] }
  | _ => none }
def blockReadsRow : OpenClaim := { program := "ytegjocpjmfaigaa", sum := "cd23ab88533be8e710b36442dfac89c538795910f4e1372d9058f6ef537f99e1", func := "marshes/marsheslaw14.BlockReads", spec := "blockReads", inPlace := ["internal/abi.NoEscape", "internal/bytealg.MakeNoZero"], unfollowed := true, recurses := true, apart := false }
def BlockReadsSaid : Prop := blockReadsRow.holds Try.pinned (OpenSpec.ofChange blockReadsSpec)

/-- ITS FALSE NEIGHBOUR: 'it returns false'. Refute it at one input. -/
def blockReadsWrong : ChangeSpec := { name := "blockReads", fn := fun _ => fun
  | [d1, d2] => { results := [.lit (.bool false)], args := [d1, d2] }
  | _ => none }
def BlockReadsWrongFalsely : Prop := blockReadsRow.holds Try.pinned (OpenSpec.ofChange blockReadsWrong)

/-- 'marsheslaw14.BlockArmed': WHATEVER THE INPUT: true; the input reads as it did. -/
def blockArmedSpec : ChangeSpec := { name := "blockArmed", fn := fun _ => fun
  | [d1, d2, d3] => { results := [.lit (.bool true)], args := [d1, d2, d3] }
  | _ => none }
def blockArmedRow : OpenClaim := { program := "ytegjocpjmfaigaa", sum := "cd23ab88533be8e710b36442dfac89c538795910f4e1372d9058f6ef537f99e1", func := "marshes/marsheslaw14.BlockArmed", spec := "blockArmed", inPlace := ["internal/abi.NoEscape", "internal/bytealg.MakeNoZero"], unfollowed := true, recurses := true, apart := false }
def BlockArmedSaid : Prop := blockArmedRow.holds Try.pinned (OpenSpec.ofChange blockArmedSpec)

/-- ITS FALSE NEIGHBOUR: 'it returns false'. Refute it at one input. -/
def blockArmedWrong : ChangeSpec := { name := "blockArmed", fn := fun _ => fun
  | [d1, d2, d3] => { results := [.lit (.bool false)], args := [d1, d2, d3] }
  | _ => none }
def BlockArmedWrongFalsely : Prop := blockArmedRow.holds Try.pinned (OpenSpec.ofChange blockArmedWrong)

/-- 'marsheslaw14.BlockNames': WHATEVER THE INPUT: true; the input reads as it did. -/
def blockNamesSpec : ChangeSpec := { name := "blockNames", fn := fun _ => fun
  | [] => { results := [.lit (.bool true)], args := [] }
  | _ => none }
def blockNamesRow : OpenClaim := { program := "ytegjocpjmfaigaa", sum := "cd23ab88533be8e710b36442dfac89c538795910f4e1372d9058f6ef537f99e1", func := "marshes/marsheslaw14.BlockNames", spec := "blockNames", inPlace := ["internal/abi.NoEscape", "internal/bytealg.MakeNoZero"], unfollowed := true, recurses := true, apart := false }
def BlockNamesSaid : Prop := blockNamesRow.holds Try.pinned (OpenSpec.ofChange blockNamesSpec)

/-- ITS FALSE NEIGHBOUR: 'it returns false'. Refute it at one input. -/
def blockNamesWrong : ChangeSpec := { name := "blockNames", fn := fun _ => fun
  | [] => { results := [.lit (.bool false)], args := [] }
  | _ => none }
def BlockNamesWrongFalsely : Prop := blockNamesRow.holds Try.pinned (OpenSpec.ofChange blockNamesWrong)

/-- 'marsheslaw15.JournalFits': WHATEVER THE INPUT: true; the input reads as it did. -/
def journalFitsSpec : ChangeSpec := { name := "journalFits", fn := fun _ => fun
  | [d1, d2] => { results := [.lit (.bool true)], args := [d1, d2] }
  | _ => none }
def journalFitsRow : OpenClaim := { program := "ytegjocpjmfaigaa", sum := "cd23ab88533be8e710b36442dfac89c538795910f4e1372d9058f6ef537f99e1", func := "marshes/marsheslaw15.JournalFits", spec := "journalFits", unfollowed := true, recurses := true, apart := false }
def JournalFitsSaid : Prop := journalFitsRow.holds Try.pinned (OpenSpec.ofChange journalFitsSpec)

/-- ITS FALSE NEIGHBOUR: 'it returns false'. Refute it at one input. -/
def journalFitsWrong : ChangeSpec := { name := "journalFits", fn := fun _ => fun
  | [d1, d2] => { results := [.lit (.bool false)], args := [d1, d2] }
  | _ => none }
def JournalFitsWrongFalsely : Prop := journalFitsRow.holds Try.pinned (OpenSpec.ofChange journalFitsWrong)

/-- 'marsheslaw15.JournalAnew': WHATEVER THE INPUT: true; the input reads as it did. -/
def journalAnewSpec : ChangeSpec := { name := "journalAnew", fn := fun _ => fun
  | [d1, d2, d3, d4] => { results := [.lit (.bool true)], args := [d1, d2, d3, d4] }
  | _ => none }
def journalAnewRow : OpenClaim := { program := "ytegjocpjmfaigaa", sum := "cd23ab88533be8e710b36442dfac89c538795910f4e1372d9058f6ef537f99e1", func := "marshes/marsheslaw15.JournalAnew", spec := "journalAnew", unfollowed := true, recurses := true, apart := false }
def JournalAnewSaid : Prop := journalAnewRow.holds Try.pinned (OpenSpec.ofChange journalAnewSpec)

/-- ITS FALSE NEIGHBOUR: 'it returns false'. Refute it at one input. -/
def journalAnewWrong : ChangeSpec := { name := "journalAnew", fn := fun _ => fun
  | [d1, d2, d3, d4] => { results := [.lit (.bool false)], args := [d1, d2, d3, d4] }
  | _ => none }
def JournalAnewWrongFalsely : Prop := journalAnewRow.holds Try.pinned (OpenSpec.ofChange journalAnewWrong)

/-- 'marsheslaw15.JournalSafe': WHATEVER THE INPUT: true; the input reads as it did. -/
def journalSafeSpec : ChangeSpec := { name := "journalSafe", fn := fun _ => fun
  | [d1, d2] => { results := [.lit (.bool true)], args := [d1, d2] }
  | _ => none }
def journalSafeRow : OpenClaim := { program := "ytegjocpjmfaigaa", sum := "cd23ab88533be8e710b36442dfac89c538795910f4e1372d9058f6ef537f99e1", func := "marshes/marsheslaw15.JournalSafe", spec := "journalSafe", unfollowed := true, recurses := true, apart := false }
def JournalSafeSaid : Prop := journalSafeRow.holds Try.pinned (OpenSpec.ofChange journalSafeSpec)

/-- ITS FALSE NEIGHBOUR: 'it returns false'. Refute it at one input. -/
def journalSafeWrong : ChangeSpec := { name := "journalSafe", fn := fun _ => fun
  | [d1, d2] => { results := [.lit (.bool false)], args := [d1, d2] }
  | _ => none }
def JournalSafeWrongFalsely : Prop := journalSafeRow.holds Try.pinned (OpenSpec.ofChange journalSafeWrong)

/-- 'marsheslaw15.JournalPlays': WHATEVER THE INPUT: true; the input reads as it did. -/
def journalPlaysSpec : ChangeSpec := { name := "journalPlays", fn := fun _ => fun
  | [d1, d2, d3, d4, d5] => { results := [.lit (.bool true)], args := [d1, d2, d3, d4, d5] }
  | _ => none }
def journalPlaysRow : OpenClaim := { program := "ytegjocpjmfaigaa", sum := "cd23ab88533be8e710b36442dfac89c538795910f4e1372d9058f6ef537f99e1", func := "marshes/marsheslaw15.JournalPlays", spec := "journalPlays", unfollowed := true, recurses := true, apart := false }
def JournalPlaysSaid : Prop := journalPlaysRow.holds Try.pinned (OpenSpec.ofChange journalPlaysSpec)

/-- ITS FALSE NEIGHBOUR: 'it returns false'. Refute it at one input. -/
def journalPlaysWrong : ChangeSpec := { name := "journalPlays", fn := fun _ => fun
  | [d1, d2, d3, d4, d5] => { results := [.lit (.bool false)], args := [d1, d2, d3, d4, d5] }
  | _ => none }
def JournalPlaysWrongFalsely : Prop := journalPlaysRow.holds Try.pinned (OpenSpec.ofChange journalPlaysWrong)

/-- 'marsheslaw15.JournalNames': WHATEVER THE INPUT: true; the input reads as it did. -/
def journalNamesSpec : ChangeSpec := { name := "journalNames", fn := fun _ => fun
  | [] => { results := [.lit (.bool true)], args := [] }
  | _ => none }
def journalNamesRow : OpenClaim := { program := "ytegjocpjmfaigaa", sum := "cd23ab88533be8e710b36442dfac89c538795910f4e1372d9058f6ef537f99e1", func := "marshes/marsheslaw15.JournalNames", spec := "journalNames", unfollowed := true, recurses := true, apart := false }
def JournalNamesSaid : Prop := journalNamesRow.holds Try.pinned (OpenSpec.ofChange journalNamesSpec)

/-- ITS FALSE NEIGHBOUR: 'it returns false'. Refute it at one input. -/
def journalNamesWrong : ChangeSpec := { name := "journalNames", fn := fun _ => fun
  | [] => { results := [.lit (.bool false)], args := [] }
  | _ => none }
def JournalNamesWrongFalsely : Prop := journalNamesRow.holds Try.pinned (OpenSpec.ofChange journalNamesWrong)

/-- 'marsheslaw16.DepotNumbers': WHATEVER THE INPUT: true; the input reads as it did. -/
def depotNumbersSpec : ChangeSpec := { name := "depotNumbers", fn := fun _ => fun
  | [d1, d2] => { results := [.lit (.bool true)], args := [d1, d2] }
  | _ => none }
def depotNumbersRow : OpenClaim := { program := "ytegjocpjmfaigaa", sum := "cd23ab88533be8e710b36442dfac89c538795910f4e1372d9058f6ef537f99e1", func := "marshes/marsheslaw16.DepotNumbers", spec := "depotNumbers", unfollowed := true, recurses := true, apart := false }
def DepotNumbersSaid : Prop := depotNumbersRow.holds Try.pinned (OpenSpec.ofChange depotNumbersSpec)

/-- ITS FALSE NEIGHBOUR: 'it returns false'. Refute it at one input. -/
def depotNumbersWrong : ChangeSpec := { name := "depotNumbers", fn := fun _ => fun
  | [d1, d2] => { results := [.lit (.bool false)], args := [d1, d2] }
  | _ => none }
def DepotNumbersWrongFalsely : Prop := depotNumbersRow.holds Try.pinned (OpenSpec.ofChange depotNumbersWrong)

/-- 'marsheslaw16.DepotAgain': WHATEVER THE INPUT: true; the input reads as it did. -/
def depotAgainSpec : ChangeSpec := { name := "depotAgain", fn := fun _ => fun
  | [d1, d2] => { results := [.lit (.bool true)], args := [d1, d2] }
  | _ => none }
def depotAgainRow : OpenClaim := { program := "ytegjocpjmfaigaa", sum := "cd23ab88533be8e710b36442dfac89c538795910f4e1372d9058f6ef537f99e1", func := "marshes/marsheslaw16.DepotAgain", spec := "depotAgain", unfollowed := true, recurses := true, apart := false }
def DepotAgainSaid : Prop := depotAgainRow.holds Try.pinned (OpenSpec.ofChange depotAgainSpec)

/-- ITS FALSE NEIGHBOUR: 'it returns false'. Refute it at one input. -/
def depotAgainWrong : ChangeSpec := { name := "depotAgain", fn := fun _ => fun
  | [d1, d2] => { results := [.lit (.bool false)], args := [d1, d2] }
  | _ => none }
def DepotAgainWrongFalsely : Prop := depotAgainRow.holds Try.pinned (OpenSpec.ofChange depotAgainWrong)

/-- 'marsheslaw16.DepotNames': WHATEVER THE INPUT: true; the input reads as it did. -/
def depotNamesSpec : ChangeSpec := { name := "depotNames", fn := fun _ => fun
  | [] => { results := [.lit (.bool true)], args := [] }
  | _ => none }
def depotNamesRow : OpenClaim := { program := "ytegjocpjmfaigaa", sum := "cd23ab88533be8e710b36442dfac89c538795910f4e1372d9058f6ef537f99e1", func := "marshes/marsheslaw16.DepotNames", spec := "depotNames", unfollowed := true, recurses := true, apart := false }
def DepotNamesSaid : Prop := depotNamesRow.holds Try.pinned (OpenSpec.ofChange depotNamesSpec)

/-- ITS FALSE NEIGHBOUR: 'it returns false'. Refute it at one input. -/
def depotNamesWrong : ChangeSpec := { name := "depotNames", fn := fun _ => fun
  | [] => { results := [.lit (.bool false)], args := [] }
  | _ => none }
def DepotNamesWrongFalsely : Prop := depotNamesRow.holds Try.pinned (OpenSpec.ofChange depotNamesWrong)

/-- 'marsheslaw16.DepotSafe': WHATEVER THE INPUT: true; the input reads as it did. -/
def depotSafeSpec : ChangeSpec := { name := "depotSafe", fn := fun _ => fun
  | [d1, d2] => { results := [.lit (.bool true)], args := [d1, d2] }
  | _ => none }
def depotSafeRow : OpenClaim := { program := "ytegjocpjmfaigaa", sum := "cd23ab88533be8e710b36442dfac89c538795910f4e1372d9058f6ef537f99e1", func := "marshes/marsheslaw16.DepotSafe", spec := "depotSafe", unfollowed := true, recurses := true, apart := false }
def DepotSafeSaid : Prop := depotSafeRow.holds Try.pinned (OpenSpec.ofChange depotSafeSpec)

/-- ITS FALSE NEIGHBOUR: 'it returns false'. Refute it at one input. -/
def depotSafeWrong : ChangeSpec := { name := "depotSafe", fn := fun _ => fun
  | [d1, d2] => { results := [.lit (.bool false)], args := [d1, d2] }
  | _ => none }
def DepotSafeWrongFalsely : Prop := depotSafeRow.holds Try.pinned (OpenSpec.ofChange depotSafeWrong)

/- THE SECOND FORM. 'bulk': how many values and letters a reading holds, each counted each time it is reached (what is shared counts as often as it is met; a slice's spare places count too). A statement '..UptoSaid' is the law's where the arguments, and the package variables that the reading takes, are together of bulk at most 1048576: NARROWER than '..Said'. Prove '..Said' where nothing that the law and all that it calls make is longer than what came in: it says more and counts as full. Else prove '..UptoSaid'. A law counts once. -/
mutual
def uptoBulk {H : Type} : DataW H → Nat
  | .lit (.string bytes) => bytes.length + 1
  | .lit _ => 1
  | .nil => 1
  | .ptr d => uptoBulk d + 1
  | .slice elems spare => uptoBulkAll elems + uptoBulkAll spare + 1
  | .agg parts => uptoBulkAll parts + 1
  | .iface _ d => uptoBulk d + 1
  | .map entries => uptoBulkEntries entries + 1
  | .held _ => 1
def uptoBulkAll {H : Type} : List (DataW H) → Nat
  | [] => 0
  | d :: r => uptoBulk d + uptoBulkAll r
def uptoBulkEntries {H : Type} : List (Lit × DataW H) → Nat
  | [] => 0
  | x :: r => uptoBulkEntry x + uptoBulkEntries r
def uptoBulkEntry {H : Type} : Lit × DataW H → Nat
  | (.string bytes, d) => bytes.length + uptoBulk d + 1
  | (_, d) => uptoBulk d + 1
 end
def uptoSmall : (H : Type) → List (DataW H) → Bool := fun _ ds => decide (uptoBulkAll ds ≤ 1048576)
def OpenSpec.upto (s : _root_.Go.ChangeSpec) : _root_.Go.OpenSpec := { _root_.Go.OpenSpec.ofChange s with cond := some uptoSmall }

/-- 'marsheslaw14.BlockPlays', WHERE WHAT IT READS IS OF BULK AT MOST 1048576: true; the input reads as it did. -/
def blockPlaysUptoRow : OpenClaim := { program := "ytegjocpjmfaigaa", sum := "cd23ab88533be8e710b36442dfac89c538795910f4e1372d9058f6ef537f99e1", func := "marshes/marsheslaw14.BlockPlays", spec := "blockPlays", unfollowed := true, recurses := true, apart := false, narrowed := true }
def BlockPlaysUptoSaid : Prop := blockPlaysUptoRow.holds Try.pinned (OpenSpec.upto blockPlaysSpec)

/-- 'marsheslaw14.BlockKeeps', WHERE WHAT IT READS IS OF BULK AT MOST 1048576: true; the input reads as it did. -/
def blockKeepsUptoRow : OpenClaim := { program := "ytegjocpjmfaigaa", sum := "cd23ab88533be8e710b36442dfac89c538795910f4e1372d9058f6ef537f99e1", func := "marshes/marsheslaw14.BlockKeeps", spec := "blockKeeps", inPlace := ["internal/abi.NoEscape", "internal/bytealg.MakeNoZero"], unfollowed := true, recurses := true, apart := false, narrowed := true }
def BlockKeepsUptoSaid : Prop := blockKeepsUptoRow.holds Try.pinned (OpenSpec.upto blockKeepsSpec)

/-- 'marsheslaw14.BlockReads', WHERE WHAT IT READS IS OF BULK AT MOST 1048576: true; the input reads as it did. -/
def blockReadsUptoRow : OpenClaim := { program := "ytegjocpjmfaigaa", sum := "cd23ab88533be8e710b36442dfac89c538795910f4e1372d9058f6ef537f99e1", func := "marshes/marsheslaw14.BlockReads", spec := "blockReads", inPlace := ["internal/abi.NoEscape", "internal/bytealg.MakeNoZero"], unfollowed := true, recurses := true, apart := false, narrowed := true }
def BlockReadsUptoSaid : Prop := blockReadsUptoRow.holds Try.pinned (OpenSpec.upto blockReadsSpec)

/-- 'marsheslaw14.BlockArmed', WHERE WHAT IT READS IS OF BULK AT MOST 1048576: true; the input reads as it did. -/
def blockArmedUptoRow : OpenClaim := { program := "ytegjocpjmfaigaa", sum := "cd23ab88533be8e710b36442dfac89c538795910f4e1372d9058f6ef537f99e1", func := "marshes/marsheslaw14.BlockArmed", spec := "blockArmed", inPlace := ["internal/abi.NoEscape", "internal/bytealg.MakeNoZero"], unfollowed := true, recurses := true, apart := false, narrowed := true }
def BlockArmedUptoSaid : Prop := blockArmedUptoRow.holds Try.pinned (OpenSpec.upto blockArmedSpec)

/-- 'marsheslaw14.BlockNames', WHERE WHAT IT READS IS OF BULK AT MOST 1048576: true; the input reads as it did. -/
def blockNamesUptoRow : OpenClaim := { program := "ytegjocpjmfaigaa", sum := "cd23ab88533be8e710b36442dfac89c538795910f4e1372d9058f6ef537f99e1", func := "marshes/marsheslaw14.BlockNames", spec := "blockNames", inPlace := ["internal/abi.NoEscape", "internal/bytealg.MakeNoZero"], unfollowed := true, recurses := true, apart := false, narrowed := true }
def BlockNamesUptoSaid : Prop := blockNamesUptoRow.holds Try.pinned (OpenSpec.upto blockNamesSpec)

/-- 'marsheslaw15.JournalFits', WHERE WHAT IT READS IS OF BULK AT MOST 1048576: true; the input reads as it did. -/
def journalFitsUptoRow : OpenClaim := { program := "ytegjocpjmfaigaa", sum := "cd23ab88533be8e710b36442dfac89c538795910f4e1372d9058f6ef537f99e1", func := "marshes/marsheslaw15.JournalFits", spec := "journalFits", unfollowed := true, recurses := true, apart := false, narrowed := true }
def JournalFitsUptoSaid : Prop := journalFitsUptoRow.holds Try.pinned (OpenSpec.upto journalFitsSpec)

/-- 'marsheslaw15.JournalAnew', WHERE WHAT IT READS IS OF BULK AT MOST 1048576: true; the input reads as it did. -/
def journalAnewUptoRow : OpenClaim := { program := "ytegjocpjmfaigaa", sum := "cd23ab88533be8e710b36442dfac89c538795910f4e1372d9058f6ef537f99e1", func := "marshes/marsheslaw15.JournalAnew", spec := "journalAnew", unfollowed := true, recurses := true, apart := false, narrowed := true }
def JournalAnewUptoSaid : Prop := journalAnewUptoRow.holds Try.pinned (OpenSpec.upto journalAnewSpec)

/-- 'marsheslaw15.JournalSafe', WHERE WHAT IT READS IS OF BULK AT MOST 1048576: true; the input reads as it did. -/
def journalSafeUptoRow : OpenClaim := { program := "ytegjocpjmfaigaa", sum := "cd23ab88533be8e710b36442dfac89c538795910f4e1372d9058f6ef537f99e1", func := "marshes/marsheslaw15.JournalSafe", spec := "journalSafe", unfollowed := true, recurses := true, apart := false, narrowed := true }
def JournalSafeUptoSaid : Prop := journalSafeUptoRow.holds Try.pinned (OpenSpec.upto journalSafeSpec)

/-- 'marsheslaw15.JournalPlays', WHERE WHAT IT READS IS OF BULK AT MOST 1048576: true; the input reads as it did. -/
def journalPlaysUptoRow : OpenClaim := { program := "ytegjocpjmfaigaa", sum := "cd23ab88533be8e710b36442dfac89c538795910f4e1372d9058f6ef537f99e1", func := "marshes/marsheslaw15.JournalPlays", spec := "journalPlays", unfollowed := true, recurses := true, apart := false, narrowed := true }
def JournalPlaysUptoSaid : Prop := journalPlaysUptoRow.holds Try.pinned (OpenSpec.upto journalPlaysSpec)

/-- 'marsheslaw15.JournalNames', WHERE WHAT IT READS IS OF BULK AT MOST 1048576: true; the input reads as it did. -/
def journalNamesUptoRow : OpenClaim := { program := "ytegjocpjmfaigaa", sum := "cd23ab88533be8e710b36442dfac89c538795910f4e1372d9058f6ef537f99e1", func := "marshes/marsheslaw15.JournalNames", spec := "journalNames", unfollowed := true, recurses := true, apart := false, narrowed := true }
def JournalNamesUptoSaid : Prop := journalNamesUptoRow.holds Try.pinned (OpenSpec.upto journalNamesSpec)

/-- 'marsheslaw16.DepotNumbers', WHERE WHAT IT READS IS OF BULK AT MOST 1048576: true; the input reads as it did. -/
def depotNumbersUptoRow : OpenClaim := { program := "ytegjocpjmfaigaa", sum := "cd23ab88533be8e710b36442dfac89c538795910f4e1372d9058f6ef537f99e1", func := "marshes/marsheslaw16.DepotNumbers", spec := "depotNumbers", unfollowed := true, recurses := true, apart := false, narrowed := true }
def DepotNumbersUptoSaid : Prop := depotNumbersUptoRow.holds Try.pinned (OpenSpec.upto depotNumbersSpec)

/-- 'marsheslaw16.DepotAgain', WHERE WHAT IT READS IS OF BULK AT MOST 1048576: true; the input reads as it did. -/
def depotAgainUptoRow : OpenClaim := { program := "ytegjocpjmfaigaa", sum := "cd23ab88533be8e710b36442dfac89c538795910f4e1372d9058f6ef537f99e1", func := "marshes/marsheslaw16.DepotAgain", spec := "depotAgain", unfollowed := true, recurses := true, apart := false, narrowed := true }
def DepotAgainUptoSaid : Prop := depotAgainUptoRow.holds Try.pinned (OpenSpec.upto depotAgainSpec)

/-- 'marsheslaw16.DepotNames', WHERE WHAT IT READS IS OF BULK AT MOST 1048576: true; the input reads as it did. -/
def depotNamesUptoRow : OpenClaim := { program := "ytegjocpjmfaigaa", sum := "cd23ab88533be8e710b36442dfac89c538795910f4e1372d9058f6ef537f99e1", func := "marshes/marsheslaw16.DepotNames", spec := "depotNames", unfollowed := true, recurses := true, apart := false, narrowed := true }
def DepotNamesUptoSaid : Prop := depotNamesUptoRow.holds Try.pinned (OpenSpec.upto depotNamesSpec)

/-- 'marsheslaw16.DepotSafe', WHERE WHAT IT READS IS OF BULK AT MOST 1048576: true; the input reads as it did. -/
def depotSafeUptoRow : OpenClaim := { program := "ytegjocpjmfaigaa", sum := "cd23ab88533be8e710b36442dfac89c538795910f4e1372d9058f6ef537f99e1", func := "marshes/marsheslaw16.DepotSafe", spec := "depotSafe", unfollowed := true, recurses := true, apart := false, narrowed := true }
def DepotSafeUptoSaid : Prop := depotSafeUptoRow.holds Try.pinned (OpenSpec.upto depotSafeSpec)

end Rows
end Go.Proofs.Ytegjocpjmfaigaa
