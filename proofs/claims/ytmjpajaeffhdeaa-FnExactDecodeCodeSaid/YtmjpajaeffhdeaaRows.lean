/-
  No cell of these rows narrows 'for every input' (looked for: loops, veiled, ifaces, maps, wideKeys, modest, calm, conditions, laid).
  DERIVED. THE GIVEN ROWS OF THIS SEAT. 11 by the template 'for every input the law returns true; each argument reads behind the call as it read before'; 0 by the template 'total and deterministic' (their statements: YtmjpajaeffhdeaaTotals.lean).
  GIVEN WITH THE SEED: the statements are not yours to turn. If you find one false, say at which input.
  Laid BY PROGRAM, IN A SANDBOX (cutbox-rows.mjs): the forced cells as the released guide's own fill.sh prints them over the translation 1e3e134cd9f5022b… (all of the seat's roots in one cut). By AI agents, Wed Nov 11 2026. No macro, syntax, notation, axiom, sorry.
-/
import Derived.Test.YtmjpajaeffhdeaaChecked
import GoSem.Claim
import GoSem.ClaimJoined
import GoSem.ClaimMapViews
import Derived.JoinedTies
import Derived.KernelRfl
namespace Go.Proofs.Ytmjpajaeffhdeaa
/- THE CELL 'sum', in the pinned program and in every row, IS THE sha256 OF THE DUMP (.gsa) THAT YtmjpajaeffhdeaaProg.lean LOADS. Nothing in Lean hashes anything: it is a label: what it is worth is what the hold of that sum in a sandbox is worth. -/
noncomputable def Try.pinned : Pinned := { name := "ytmjpajaeffhdeaa", sum := "1e3e134cd9f5022ba211d38ec47a4c89de7f31c80fc7969c73d283b26b82b788", checked := Try.checked }
namespace Rows
def none {H : Type} : Left H := { results := [], args := [] }

/-- 'laws.FnExactConstants': WHATEVER THE INPUT: true; the input reads as it did. -/
def fnExactConstantsSpec : ChangeSpec := { name := "fnExactConstants", fn := fun _ => fun
  | [] => { results := [.lit (.bool true)], args := [] }
  | _ => none }
def fnExactConstantsRow : OpenClaim := { program := "ytmjpajaeffhdeaa", sum := "1e3e134cd9f5022ba211d38ec47a4c89de7f31c80fc7969c73d283b26b82b788", func := "loop.example/s0023/laws.FnExactConstants", spec := "fnExactConstants", apart := false }
def FnExactConstantsSaid : Prop := fnExactConstantsRow.holds Try.pinned (OpenSpec.ofChange fnExactConstantsSpec)

/-- ITS FALSE NEIGHBOUR: 'it returns false'. Refute it at one input. -/
def fnExactConstantsWrong : ChangeSpec := { name := "fnExactConstants", fn := fun _ => fun
  | [] => { results := [.lit (.bool false)], args := [] }
  | _ => none }
def FnExactConstantsWrongFalsely : Prop := fnExactConstantsRow.holds Try.pinned (OpenSpec.ofChange fnExactConstantsWrong)

/-- 'laws.FnExactSatAdd': WHATEVER THE INPUT: true; the input reads as it did. -/
def fnExactSatAddSpec : ChangeSpec := { name := "fnExactSatAdd", fn := fun _ => fun
  | [d1, d2] => { results := [.lit (.bool true)], args := [d1, d2] }
  | _ => none }
def fnExactSatAddRow : OpenClaim := { program := "ytmjpajaeffhdeaa", sum := "1e3e134cd9f5022ba211d38ec47a4c89de7f31c80fc7969c73d283b26b82b788", func := "loop.example/s0023/laws.FnExactSatAdd", spec := "fnExactSatAdd", apart := false }
def FnExactSatAddSaid : Prop := fnExactSatAddRow.holds Try.pinned (OpenSpec.ofChange fnExactSatAddSpec)

/-- ITS FALSE NEIGHBOUR: 'it returns false'. Refute it at one input. -/
def fnExactSatAddWrong : ChangeSpec := { name := "fnExactSatAdd", fn := fun _ => fun
  | [d1, d2] => { results := [.lit (.bool false)], args := [d1, d2] }
  | _ => none }
def FnExactSatAddWrongFalsely : Prop := fnExactSatAddRow.holds Try.pinned (OpenSpec.ofChange fnExactSatAddWrong)

/-- 'laws.FnExactSatMul': WHATEVER THE INPUT: true; the input reads as it did. -/
def fnExactSatMulSpec : ChangeSpec := { name := "fnExactSatMul", fn := fun _ => fun
  | [d1, d2] => { results := [.lit (.bool true)], args := [d1, d2] }
  | _ => none }
def fnExactSatMulRow : OpenClaim := { program := "ytmjpajaeffhdeaa", sum := "1e3e134cd9f5022ba211d38ec47a4c89de7f31c80fc7969c73d283b26b82b788", func := "loop.example/s0023/laws.FnExactSatMul", spec := "fnExactSatMul", apart := false }
def FnExactSatMulSaid : Prop := fnExactSatMulRow.holds Try.pinned (OpenSpec.ofChange fnExactSatMulSpec)

/-- ITS FALSE NEIGHBOUR: 'it returns false'. Refute it at one input. -/
def fnExactSatMulWrong : ChangeSpec := { name := "fnExactSatMul", fn := fun _ => fun
  | [d1, d2] => { results := [.lit (.bool false)], args := [d1, d2] }
  | _ => none }
def FnExactSatMulWrongFalsely : Prop := fnExactSatMulRow.holds Try.pinned (OpenSpec.ofChange fnExactSatMulWrong)

/-- 'laws.FnExactValidCode': WHATEVER THE INPUT: true; the input reads as it did. -/
def fnExactValidCodeSpec : ChangeSpec := { name := "fnExactValidCode", fn := fun _ => fun
  | [d] => { results := [.lit (.bool true)], args := [d] }
  | _ => none }
def fnExactValidCodeRow : OpenClaim := { program := "ytmjpajaeffhdeaa", sum := "1e3e134cd9f5022ba211d38ec47a4c89de7f31c80fc7969c73d283b26b82b788", func := "loop.example/s0023/laws.FnExactValidCode", spec := "fnExactValidCode", apart := false }
def FnExactValidCodeSaid : Prop := fnExactValidCodeRow.holds Try.pinned (OpenSpec.ofChange fnExactValidCodeSpec)

/-- ITS FALSE NEIGHBOUR: 'it returns false'. Refute it at one input. -/
def fnExactValidCodeWrong : ChangeSpec := { name := "fnExactValidCode", fn := fun _ => fun
  | [d] => { results := [.lit (.bool false)], args := [d] }
  | _ => none }
def FnExactValidCodeWrongFalsely : Prop := fnExactValidCodeRow.holds Try.pinned (OpenSpec.ofChange fnExactValidCodeWrong)

/-- 'laws.FnExactEncodeCode': WHATEVER THE INPUT: true; the input reads as it did. -/
def fnExactEncodeCodeSpec : ChangeSpec := { name := "fnExactEncodeCode", fn := fun _ => fun
  | [d] => { results := [.lit (.bool true)], args := [d] }
  | _ => none }
def fnExactEncodeCodeRow : OpenClaim := { program := "ytmjpajaeffhdeaa", sum := "1e3e134cd9f5022ba211d38ec47a4c89de7f31c80fc7969c73d283b26b82b788", func := "loop.example/s0023/laws.FnExactEncodeCode", spec := "fnExactEncodeCode", recurses := true, apart := false }
def FnExactEncodeCodeSaid : Prop := fnExactEncodeCodeRow.holds Try.pinned (OpenSpec.ofChange fnExactEncodeCodeSpec)

/-- ITS FALSE NEIGHBOUR: 'it returns false'. Refute it at one input. -/
def fnExactEncodeCodeWrong : ChangeSpec := { name := "fnExactEncodeCode", fn := fun _ => fun
  | [d] => { results := [.lit (.bool false)], args := [d] }
  | _ => none }
def FnExactEncodeCodeWrongFalsely : Prop := fnExactEncodeCodeRow.holds Try.pinned (OpenSpec.ofChange fnExactEncodeCodeWrong)

/-- 'laws.FnExactDecodeCode': WHATEVER THE INPUT: true; the input reads as it did. -/
def fnExactDecodeCodeSpec : ChangeSpec := { name := "fnExactDecodeCode", fn := fun _ => fun
  | [d] => { results := [.lit (.bool true)], args := [d] }
  | _ => none }
def fnExactDecodeCodeRow : OpenClaim := { program := "ytmjpajaeffhdeaa", sum := "1e3e134cd9f5022ba211d38ec47a4c89de7f31c80fc7969c73d283b26b82b788", func := "loop.example/s0023/laws.FnExactDecodeCode", spec := "fnExactDecodeCode", apart := false }
def FnExactDecodeCodeSaid : Prop := fnExactDecodeCodeRow.holds Try.pinned (OpenSpec.ofChange fnExactDecodeCodeSpec)

/-- ITS FALSE NEIGHBOUR: 'it returns false'. Refute it at one input. -/
def fnExactDecodeCodeWrong : ChangeSpec := { name := "fnExactDecodeCode", fn := fun _ => fun
  | [d] => { results := [.lit (.bool false)], args := [d] }
  | _ => none }
def FnExactDecodeCodeWrongFalsely : Prop := fnExactDecodeCodeRow.holds Try.pinned (OpenSpec.ofChange fnExactDecodeCodeWrong)

/-- 'laws.FnCodec': WHATEVER THE INPUT: true; the input reads as it did. -/
def fnCodecSpec : ChangeSpec := { name := "fnCodec", fn := fun _ => fun
  | [d1, d2] => { results := [.lit (.bool true)], args := [d1, d2] }
  | _ => none }
def fnCodecRow : OpenClaim := { program := "ytmjpajaeffhdeaa", sum := "1e3e134cd9f5022ba211d38ec47a4c89de7f31c80fc7969c73d283b26b82b788", func := "loop.example/s0023/laws.FnCodec", spec := "fnCodec", recurses := true, apart := false }
def FnCodecSaid : Prop := fnCodecRow.holds Try.pinned (OpenSpec.ofChange fnCodecSpec)

/-- ITS FALSE NEIGHBOUR: 'it returns false'. Refute it at one input. -/
def fnCodecWrong : ChangeSpec := { name := "fnCodec", fn := fun _ => fun
  | [d1, d2] => { results := [.lit (.bool false)], args := [d1, d2] }
  | _ => none }
def FnCodecWrongFalsely : Prop := fnCodecRow.holds Try.pinned (OpenSpec.ofChange fnCodecWrong)

/-- 'laws.FnExactValidInst': WHATEVER THE INPUT: true; the input reads as it did. -/
def fnExactValidInstSpec : ChangeSpec := { name := "fnExactValidInst", fn := fun _ => fun
  | [d] => { results := [.lit (.bool true)], args := [d] }
  | _ => none }
def fnExactValidInstRow : OpenClaim := { program := "ytmjpajaeffhdeaa", sum := "1e3e134cd9f5022ba211d38ec47a4c89de7f31c80fc7969c73d283b26b82b788", func := "loop.example/s0023/laws.FnExactValidInst", spec := "fnExactValidInst", apart := false }
def FnExactValidInstSaid : Prop := fnExactValidInstRow.holds Try.pinned (OpenSpec.ofChange fnExactValidInstSpec)

/-- ITS FALSE NEIGHBOUR: 'it returns false'. Refute it at one input. -/
def fnExactValidInstWrong : ChangeSpec := { name := "fnExactValidInst", fn := fun _ => fun
  | [d] => { results := [.lit (.bool false)], args := [d] }
  | _ => none }
def FnExactValidInstWrongFalsely : Prop := fnExactValidInstRow.holds Try.pinned (OpenSpec.ofChange fnExactValidInstWrong)

/-- 'laws.FnExactTravel': WHATEVER THE INPUT: true; the input reads as it did. -/
def fnExactTravelSpec : ChangeSpec := { name := "fnExactTravel", fn := fun _ => fun
  | [d1, d2, d3] => { results := [.lit (.bool true)], args := [d1, d2, d3] }
  | _ => none }
def fnExactTravelRow : OpenClaim := { program := "ytmjpajaeffhdeaa", sum := "1e3e134cd9f5022ba211d38ec47a4c89de7f31c80fc7969c73d283b26b82b788", func := "loop.example/s0023/laws.FnExactTravel", spec := "fnExactTravel", apart := false }
def FnExactTravelSaid : Prop := fnExactTravelRow.holds Try.pinned (OpenSpec.ofChange fnExactTravelSpec)

/-- ITS FALSE NEIGHBOUR: 'it returns false'. Refute it at one input. -/
def fnExactTravelWrong : ChangeSpec := { name := "fnExactTravel", fn := fun _ => fun
  | [d1, d2, d3] => { results := [.lit (.bool false)], args := [d1, d2, d3] }
  | _ => none }
def FnExactTravelWrongFalsely : Prop := fnExactTravelRow.holds Try.pinned (OpenSpec.ofChange fnExactTravelWrong)

/-- 'laws.FnExactCost': WHATEVER THE INPUT: true; the input reads as it did. -/
def fnExactCostSpec : ChangeSpec := { name := "fnExactCost", fn := fun _ => fun
  | [d1, d2, d3] => { results := [.lit (.bool true)], args := [d1, d2, d3] }
  | _ => none }
def fnExactCostRow : OpenClaim := { program := "ytmjpajaeffhdeaa", sum := "1e3e134cd9f5022ba211d38ec47a4c89de7f31c80fc7969c73d283b26b82b788", func := "loop.example/s0023/laws.FnExactCost", spec := "fnExactCost", unfollowed := true, recurses := true, apart := false }
def FnExactCostSaid : Prop := fnExactCostRow.holds Try.pinned (OpenSpec.ofChange fnExactCostSpec)

/-- ITS FALSE NEIGHBOUR: 'it returns false'. Refute it at one input. -/
def fnExactCostWrong : ChangeSpec := { name := "fnExactCost", fn := fun _ => fun
  | [d1, d2, d3] => { results := [.lit (.bool false)], args := [d1, d2, d3] }
  | _ => none }
def FnExactCostWrongFalsely : Prop := fnExactCostRow.holds Try.pinned (OpenSpec.ofChange fnExactCostWrong)

/-- 'laws.FnExactValidState': WHATEVER THE INPUT: true; the input reads as it did. -/
def fnExactValidStateSpec : ChangeSpec := { name := "fnExactValidState", fn := fun _ => fun
  | [d1, d2, d3, d4] => { results := [.lit (.bool true)], args := [d1, d2, d3, d4] }
  | _ => none }
def fnExactValidStateRow : OpenClaim := { program := "ytmjpajaeffhdeaa", sum := "1e3e134cd9f5022ba211d38ec47a4c89de7f31c80fc7969c73d283b26b82b788", func := "loop.example/s0023/laws.FnExactValidState", spec := "fnExactValidState", unfollowed := true, recurses := true, apart := false }
def FnExactValidStateSaid : Prop := fnExactValidStateRow.holds Try.pinned (OpenSpec.ofChange fnExactValidStateSpec)

/-- ITS FALSE NEIGHBOUR: 'it returns false'. Refute it at one input. -/
def fnExactValidStateWrong : ChangeSpec := { name := "fnExactValidState", fn := fun _ => fun
  | [d1, d2, d3, d4] => { results := [.lit (.bool false)], args := [d1, d2, d3, d4] }
  | _ => none }
def FnExactValidStateWrongFalsely : Prop := fnExactValidStateRow.holds Try.pinned (OpenSpec.ofChange fnExactValidStateWrong)

/- THE SECOND FORM. 'bulk': how many values and letters a reading holds, each counted each time it is reached (what is shared counts as often as it is met; a slice's spare places count too). A statement '..UptoSaid' is the law's where the arguments, and the package variables that the reading takes, are together of bulk at most 1048576: NARROWER than '..Said'. Prove '..Said' where nothing that the law and all that it calls make is longer than what came in: it says more and counts as full. Else prove '..UptoSaid'. A law counts once. -/
mutual
def uptoBulk {H : Type} : DataW H → Nat
  | .lit (.string bytes) => bytes.length + 1
  | .lit _ => 1
  | .nil => 1
  | .ptr d => uptoBulk d + 1
  | .slice elems spare => uptoBulkAll elems + uptoBulkAll spare + 1
  | .agg parts => uptoBulkAll parts + 1
  | .iface _ d => uptoBulk d + 1
  | .map entries => uptoBulkEntries entries + 1
  | .held _ => 1
def uptoBulkAll {H : Type} : List (DataW H) → Nat
  | [] => 0
  | d :: r => uptoBulk d + uptoBulkAll r
def uptoBulkEntries {H : Type} : List (Lit × DataW H) → Nat
  | [] => 0
  | x :: r => uptoBulkEntry x + uptoBulkEntries r
def uptoBulkEntry {H : Type} : Lit × DataW H → Nat
  | (.string bytes, d) => bytes.length + uptoBulk d + 1
  | (_, d) => uptoBulk d + 1
 end
def uptoSmall : (H : Type) → List (DataW H) → Bool := fun _ ds => decide (uptoBulkAll ds ≤ 1048576)
def OpenSpec.upto (s : _root_.Go.ChangeSpec) : _root_.Go.OpenSpec := { _root_.Go.OpenSpec.ofChange s with cond := some uptoSmall }

/-- 'laws.FnExactConstants', WHERE WHAT IT READS IS OF BULK AT MOST 1048576: true; the input reads as it did. -/
def fnExactConstantsUptoRow : OpenClaim := { program := "ytmjpajaeffhdeaa", sum := "1e3e134cd9f5022ba211d38ec47a4c89de7f31c80fc7969c73d283b26b82b788", func := "loop.example/s0023/laws.FnExactConstants", spec := "fnExactConstants", apart := false, narrowed := true }
def FnExactConstantsUptoSaid : Prop := fnExactConstantsUptoRow.holds Try.pinned (OpenSpec.upto fnExactConstantsSpec)

/-- 'laws.FnExactSatAdd', WHERE WHAT IT READS IS OF BULK AT MOST 1048576: true; the input reads as it did. -/
def fnExactSatAddUptoRow : OpenClaim := { program := "ytmjpajaeffhdeaa", sum := "1e3e134cd9f5022ba211d38ec47a4c89de7f31c80fc7969c73d283b26b82b788", func := "loop.example/s0023/laws.FnExactSatAdd", spec := "fnExactSatAdd", apart := false, narrowed := true }
def FnExactSatAddUptoSaid : Prop := fnExactSatAddUptoRow.holds Try.pinned (OpenSpec.upto fnExactSatAddSpec)

/-- 'laws.FnExactSatMul', WHERE WHAT IT READS IS OF BULK AT MOST 1048576: true; the input reads as it did. -/
def fnExactSatMulUptoRow : OpenClaim := { program := "ytmjpajaeffhdeaa", sum := "1e3e134cd9f5022ba211d38ec47a4c89de7f31c80fc7969c73d283b26b82b788", func := "loop.example/s0023/laws.FnExactSatMul", spec := "fnExactSatMul", apart := false, narrowed := true }
def FnExactSatMulUptoSaid : Prop := fnExactSatMulUptoRow.holds Try.pinned (OpenSpec.upto fnExactSatMulSpec)

/-- 'laws.FnExactValidCode', WHERE WHAT IT READS IS OF BULK AT MOST 1048576: true; the input reads as it did. -/
def fnExactValidCodeUptoRow : OpenClaim := { program := "ytmjpajaeffhdeaa", sum := "1e3e134cd9f5022ba211d38ec47a4c89de7f31c80fc7969c73d283b26b82b788", func := "loop.example/s0023/laws.FnExactValidCode", spec := "fnExactValidCode", apart := false, narrowed := true }
def FnExactValidCodeUptoSaid : Prop := fnExactValidCodeUptoRow.holds Try.pinned (OpenSpec.upto fnExactValidCodeSpec)

/-- 'laws.FnExactEncodeCode', WHERE WHAT IT READS IS OF BULK AT MOST 1048576: true; the input reads as it did. -/
def fnExactEncodeCodeUptoRow : OpenClaim := { program := "ytmjpajaeffhdeaa", sum := "1e3e134cd9f5022ba211d38ec47a4c89de7f31c80fc7969c73d283b26b82b788", func := "loop.example/s0023/laws.FnExactEncodeCode", spec := "fnExactEncodeCode", recurses := true, apart := false, narrowed := true }
def FnExactEncodeCodeUptoSaid : Prop := fnExactEncodeCodeUptoRow.holds Try.pinned (OpenSpec.upto fnExactEncodeCodeSpec)

/-- 'laws.FnExactDecodeCode', WHERE WHAT IT READS IS OF BULK AT MOST 1048576: true; the input reads as it did. -/
def fnExactDecodeCodeUptoRow : OpenClaim := { program := "ytmjpajaeffhdeaa", sum := "1e3e134cd9f5022ba211d38ec47a4c89de7f31c80fc7969c73d283b26b82b788", func := "loop.example/s0023/laws.FnExactDecodeCode", spec := "fnExactDecodeCode", apart := false, narrowed := true }
def FnExactDecodeCodeUptoSaid : Prop := fnExactDecodeCodeUptoRow.holds Try.pinned (OpenSpec.upto fnExactDecodeCodeSpec)

/-- 'laws.FnCodec', WHERE WHAT IT READS IS OF BULK AT MOST 1048576: true; the input reads as it did. -/
def fnCodecUptoRow : OpenClaim := { program := "ytmjpajaeffhdeaa", sum := "1e3e134cd9f5022ba211d38ec47a4c89de7f31c80fc7969c73d283b26b82b788", func := "loop.example/s0023/laws.FnCodec", spec := "fnCodec", recurses := true, apart := false, narrowed := true }
def FnCodecUptoSaid : Prop := fnCodecUptoRow.holds Try.pinned (OpenSpec.upto fnCodecSpec)

/-- 'laws.FnExactValidInst', WHERE WHAT IT READS IS OF BULK AT MOST 1048576: true; the input reads as it did. -/
def fnExactValidInstUptoRow : OpenClaim := { program := "ytmjpajaeffhdeaa", sum := "1e3e134cd9f5022ba211d38ec47a4c89de7f31c80fc7969c73d283b26b82b788", func := "loop.example/s0023/laws.FnExactValidInst", spec := "fnExactValidInst", apart := false, narrowed := true }
def FnExactValidInstUptoSaid : Prop := fnExactValidInstUptoRow.holds Try.pinned (OpenSpec.upto fnExactValidInstSpec)

/-- 'laws.FnExactTravel', WHERE WHAT IT READS IS OF BULK AT MOST 1048576: true; the input reads as it did. -/
def fnExactTravelUptoRow : OpenClaim := { program := "ytmjpajaeffhdeaa", sum := "1e3e134cd9f5022ba211d38ec47a4c89de7f31c80fc7969c73d283b26b82b788", func := "loop.example/s0023/laws.FnExactTravel", spec := "fnExactTravel", apart := false, narrowed := true }
def FnExactTravelUptoSaid : Prop := fnExactTravelUptoRow.holds Try.pinned (OpenSpec.upto fnExactTravelSpec)

/-- 'laws.FnExactCost', WHERE WHAT IT READS IS OF BULK AT MOST 1048576: true; the input reads as it did. -/
def fnExactCostUptoRow : OpenClaim := { program := "ytmjpajaeffhdeaa", sum := "1e3e134cd9f5022ba211d38ec47a4c89de7f31c80fc7969c73d283b26b82b788", func := "loop.example/s0023/laws.FnExactCost", spec := "fnExactCost", unfollowed := true, recurses := true, apart := false, narrowed := true }
def FnExactCostUptoSaid : Prop := fnExactCostUptoRow.holds Try.pinned (OpenSpec.upto fnExactCostSpec)

/-- 'laws.FnExactValidState', WHERE WHAT IT READS IS OF BULK AT MOST 1048576: true; the input reads as it did. -/
def fnExactValidStateUptoRow : OpenClaim := { program := "ytmjpajaeffhdeaa", sum := "1e3e134cd9f5022ba211d38ec47a4c89de7f31c80fc7969c73d283b26b82b788", func := "loop.example/s0023/laws.FnExactValidState", spec := "fnExactValidState", unfollowed := true, recurses := true, apart := false, narrowed := true }
def FnExactValidStateUptoSaid : Prop := fnExactValidStateUptoRow.holds Try.pinned (OpenSpec.upto fnExactValidStateSpec)

end Rows
end Go.Proofs.Ytmjpajaeffhdeaa
