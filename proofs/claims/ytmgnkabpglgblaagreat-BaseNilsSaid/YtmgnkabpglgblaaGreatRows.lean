/-
  No cell of these rows narrows 'for every input' (looked for: loops, veiled, ifaces, maps, wideKeys, modest, calm, conditions, laid).
  DERIVED. THE GIVEN ROWS OF THIS SEAT. 8 by the template 'for every input the law returns true; each argument reads behind the call as it read before'; 0 by the template 'total and deterministic' (their statements: YtmgnkabpglgblaaGreatTotals.lean).
  GIVEN WITH THE SEED: the statements are not yours to turn. If you find one false, say at which input.
  Laid BY PROGRAM, IN A SANDBOX (cutbox-rows.mjs): the forced cells as the released guide's own fill.sh prints them over the translation 040f605ef8fbef5e… (all of the seat's roots in one cut). By AI agents, Wed Nov 11 2026. No macro, syntax, notation, axiom, sorry.
-/
import Derived.Test.YtmgnkabpglgblaaGreatChecked
import GoSem.Claim
import GoSem.ClaimJoined
import GoSem.ClaimMapViews
import Derived.JoinedTies
import Derived.KernelRfl
namespace Go.Proofs.YtmgnkabpglgblaaGreat
/- THE CELL 'sum', in the pinned program and in every row, IS THE sha256 OF THE DUMP (.gsa) THAT YtmgnkabpglgblaaGreatProg.lean LOADS. Nothing in Lean hashes anything: it is a label: what it is worth is what the hold of that sum in a sandbox is worth. -/
noncomputable def Tryz.pinned : Pinned := { name := "ytmgnkabpglgblaagreat", sum := "040f605ef8fbef5ee80c206563eb04b707a33a2cd9aff98ec6c38c1dcec67ec4", checked := Tryz.checked }
namespace Rows
def none {H : Type} : Left H := { results := [], args := [] }

/-- 'whetstonelaw10.BaseCalls': WHATEVER THE INPUT: true; the input reads as it did. -/
def baseCallsSpec : ChangeSpec := { name := "baseCalls", fn := fun _ => fun
  | [d] => { results := [.lit (.bool true)], args := [d] }
  | _ => none }
def baseCallsRow : OpenClaim := { program := "ytmgnkabpglgblaagreat", sum := "040f605ef8fbef5ee80c206563eb04b707a33a2cd9aff98ec6c38c1dcec67ec4", func := "whetstone/whetstonelaw10.BaseCalls", spec := "baseCalls", unfollowed := true, recurses := true, plainKeys := false, apart := false }
def BaseCallsSaid : Prop := baseCallsRow.holds Tryz.pinned (OpenSpec.ofChange baseCallsSpec)

/-- ITS FALSE NEIGHBOUR: 'it returns false'. Refute it at one input. -/
def baseCallsWrong : ChangeSpec := { name := "baseCalls", fn := fun _ => fun
  | [d] => { results := [.lit (.bool false)], args := [d] }
  | _ => none }
def BaseCallsWrongFalsely : Prop := baseCallsRow.holds Tryz.pinned (OpenSpec.ofChange baseCallsWrong)

/-- 'whetstonelaw10.BaseAlone': WHATEVER THE INPUT: true; the input reads as it did. -/
def baseAloneSpec : ChangeSpec := { name := "baseAlone", fn := fun _ => fun
  | [d1, d2] => { results := [.lit (.bool true)], args := [d1, d2] }
  | _ => none }
def baseAloneRow : OpenClaim := { program := "ytmgnkabpglgblaagreat", sum := "040f605ef8fbef5ee80c206563eb04b707a33a2cd9aff98ec6c38c1dcec67ec4", func := "whetstone/whetstonelaw10.BaseAlone", spec := "baseAlone", unfollowed := true, recurses := true, plainKeys := false, apart := false }
def BaseAloneSaid : Prop := baseAloneRow.holds Tryz.pinned (OpenSpec.ofChange baseAloneSpec)

/-- ITS FALSE NEIGHBOUR: 'it returns false'. Refute it at one input. -/
def baseAloneWrong : ChangeSpec := { name := "baseAlone", fn := fun _ => fun
  | [d1, d2] => { results := [.lit (.bool false)], args := [d1, d2] }
  | _ => none }
def BaseAloneWrongFalsely : Prop := baseAloneRow.holds Tryz.pinned (OpenSpec.ofChange baseAloneWrong)

/-- 'whetstonelaw10.BaseFinds': WHATEVER THE INPUT: true; the input reads as it did. -/
def baseFindsSpec : ChangeSpec := { name := "baseFinds", fn := fun _ => fun
  | [d] => { results := [.lit (.bool true)], args := [d] }
  | _ => none }
def baseFindsRow : OpenClaim := { program := "ytmgnkabpglgblaagreat", sum := "040f605ef8fbef5ee80c206563eb04b707a33a2cd9aff98ec6c38c1dcec67ec4", func := "whetstone/whetstonelaw10.BaseFinds", spec := "baseFinds", unfollowed := true, recurses := true, plainKeys := false, apart := false }
def BaseFindsSaid : Prop := baseFindsRow.holds Tryz.pinned (OpenSpec.ofChange baseFindsSpec)

/-- ITS FALSE NEIGHBOUR: 'it returns false'. Refute it at one input. -/
def baseFindsWrong : ChangeSpec := { name := "baseFinds", fn := fun _ => fun
  | [d] => { results := [.lit (.bool false)], args := [d] }
  | _ => none }
def BaseFindsWrongFalsely : Prop := baseFindsRow.holds Tryz.pinned (OpenSpec.ofChange baseFindsWrong)

/-- 'whetstonelaw10.BaseNils': WHATEVER THE INPUT: true; the input reads as it did. -/
def baseNilsSpec : ChangeSpec := { name := "baseNils", fn := fun _ => fun
  | [d1, d2, d3] => { results := [.lit (.bool true)], args := [d1, d2, d3] }
  | _ => none }
def baseNilsRow : OpenClaim := { program := "ytmgnkabpglgblaagreat", sum := "040f605ef8fbef5ee80c206563eb04b707a33a2cd9aff98ec6c38c1dcec67ec4", func := "whetstone/whetstonelaw10.BaseNils", spec := "baseNils", unfollowed := true, recurses := true, plainKeys := false, apart := false }
def BaseNilsSaid : Prop := baseNilsRow.holds Tryz.pinned (OpenSpec.ofChange baseNilsSpec)

/-- ITS FALSE NEIGHBOUR: 'it returns false'. Refute it at one input. -/
def baseNilsWrong : ChangeSpec := { name := "baseNils", fn := fun _ => fun
  | [d1, d2, d3] => { results := [.lit (.bool false)], args := [d1, d2, d3] }
  | _ => none }
def BaseNilsWrongFalsely : Prop := baseNilsRow.holds Tryz.pinned (OpenSpec.ofChange baseNilsWrong)

/-- 'whetstonelaw21.RunSteps': WHATEVER THE INPUT: true; the input reads as it did. -/
def runStepsSpec : ChangeSpec := { name := "runSteps", fn := fun _ => fun
  | [d1, d2] => { results := [.lit (.bool true)], args := [d1, d2] }
  | _ => none }
def runStepsRow : OpenClaim := { program := "ytmgnkabpglgblaagreat", sum := "040f605ef8fbef5ee80c206563eb04b707a33a2cd9aff98ec6c38c1dcec67ec4", func := "whetstone/whetstonelaw21.RunSteps", spec := "runSteps", unfollowed := true, recurses := true, plainKeys := false, apart := false }
def RunStepsSaid : Prop := runStepsRow.holds Tryz.pinned (OpenSpec.ofChange runStepsSpec)

/-- ITS FALSE NEIGHBOUR: 'it returns false'. Refute it at one input. -/
def runStepsWrong : ChangeSpec := { name := "runSteps", fn := fun _ => fun
  | [d1, d2] => { results := [.lit (.bool false)], args := [d1, d2] }
  | _ => none }
def RunStepsWrongFalsely : Prop := runStepsRow.holds Tryz.pinned (OpenSpec.ofChange runStepsWrong)

/-- 'whetstonelaw21.RunKeeps': WHATEVER THE INPUT: true; the input reads as it did. -/
def runKeepsSpec : ChangeSpec := { name := "runKeeps", fn := fun _ => fun
  | [d1, d2, d3] => { results := [.lit (.bool true)], args := [d1, d2, d3] }
  | _ => none }
def runKeepsRow : OpenClaim := { program := "ytmgnkabpglgblaagreat", sum := "040f605ef8fbef5ee80c206563eb04b707a33a2cd9aff98ec6c38c1dcec67ec4", func := "whetstone/whetstonelaw21.RunKeeps", spec := "runKeeps", unfollowed := true, recurses := true, plainKeys := false, apart := false }
def RunKeepsSaid : Prop := runKeepsRow.holds Tryz.pinned (OpenSpec.ofChange runKeepsSpec)

/-- ITS FALSE NEIGHBOUR: 'it returns false'. Refute it at one input. -/
def runKeepsWrong : ChangeSpec := { name := "runKeeps", fn := fun _ => fun
  | [d1, d2, d3] => { results := [.lit (.bool false)], args := [d1, d2, d3] }
  | _ => none }
def RunKeepsWrongFalsely : Prop := runKeepsRow.holds Tryz.pinned (OpenSpec.ofChange runKeepsWrong)

/-- 'whetstonelaw21.RunLoops': WHATEVER THE INPUT: true; the input reads as it did. -/
def runLoopsSpec : ChangeSpec := { name := "runLoops", fn := fun _ => fun
  | [d1, d2] => { results := [.lit (.bool true)], args := [d1, d2] }
  | _ => none }
def runLoopsRow : OpenClaim := { program := "ytmgnkabpglgblaagreat", sum := "040f605ef8fbef5ee80c206563eb04b707a33a2cd9aff98ec6c38c1dcec67ec4", func := "whetstone/whetstonelaw21.RunLoops", spec := "runLoops", unfollowed := true, recurses := true, plainKeys := false, apart := false }
def RunLoopsSaid : Prop := runLoopsRow.holds Tryz.pinned (OpenSpec.ofChange runLoopsSpec)

/-- ITS FALSE NEIGHBOUR: 'it returns false'. Refute it at one input. -/
def runLoopsWrong : ChangeSpec := { name := "runLoops", fn := fun _ => fun
  | [d1, d2] => { results := [.lit (.bool false)], args := [d1, d2] }
  | _ => none }
def RunLoopsWrongFalsely : Prop := runLoopsRow.holds Tryz.pinned (OpenSpec.ofChange runLoopsWrong)

/-- 'whetstonelaw21.RunTwice': WHATEVER THE INPUT: true; the input reads as it did. -/
def runTwiceSpec : ChangeSpec := { name := "runTwice", fn := fun _ => fun
  | [d1, d2] => { results := [.lit (.bool true)], args := [d1, d2] }
  | _ => none }
def runTwiceRow : OpenClaim := { program := "ytmgnkabpglgblaagreat", sum := "040f605ef8fbef5ee80c206563eb04b707a33a2cd9aff98ec6c38c1dcec67ec4", func := "whetstone/whetstonelaw21.RunTwice", spec := "runTwice", unfollowed := true, recurses := true, plainKeys := false, apart := false }
def RunTwiceSaid : Prop := runTwiceRow.holds Tryz.pinned (OpenSpec.ofChange runTwiceSpec)

/-- ITS FALSE NEIGHBOUR: 'it returns false'. Refute it at one input. -/
def runTwiceWrong : ChangeSpec := { name := "runTwice", fn := fun _ => fun
  | [d1, d2] => { results := [.lit (.bool false)], args := [d1, d2] }
  | _ => none }
def RunTwiceWrongFalsely : Prop := runTwiceRow.holds Tryz.pinned (OpenSpec.ofChange runTwiceWrong)

/- THE SECOND FORM. 'bulk': how many values and letters a reading holds, each counted each time it is reached (what is shared counts as often as it is met; a slice's spare places count too). A statement '..UptoSaid' is the law's where the arguments, and the package variables that the reading takes, are together of bulk at most 1048576: NARROWER than '..Said'. Prove '..Said' where nothing that the law and all that it calls make is longer than what came in: it says more and counts as full. Else prove '..UptoSaid'. A law counts once. -/
mutual
def uptoBulk {H : Type} : DataW H → Nat
  | .lit (.string bytes) => bytes.length + 1
  | .lit _ => 1
  | .nil => 1
  | .ptr d => uptoBulk d + 1
  | .slice elems spare => uptoBulkAll elems + uptoBulkAll spare + 1
  | .agg parts => uptoBulkAll parts + 1
  | .iface _ d => uptoBulk d + 1
  | .map entries => uptoBulkEntries entries + 1
  | .held _ => 1
def uptoBulkAll {H : Type} : List (DataW H) → Nat
  | [] => 0
  | d :: r => uptoBulk d + uptoBulkAll r
def uptoBulkEntries {H : Type} : List (Lit × DataW H) → Nat
  | [] => 0
  | x :: r => uptoBulkEntry x + uptoBulkEntries r
def uptoBulkEntry {H : Type} : Lit × DataW H → Nat
  | (.string bytes, d) => bytes.length + uptoBulk d + 1
  | (_, d) => uptoBulk d + 1
 end
def uptoSmall : (H : Type) → List (DataW H) → Bool := fun _ ds => decide (uptoBulkAll ds ≤ 1048576)
def OpenSpec.upto (s : _root_.Go.ChangeSpec) : _root_.Go.OpenSpec := { _root_.Go.OpenSpec.ofChange s with cond := some uptoSmall }

/-- 'whetstonelaw10.BaseCalls', WHERE WHAT IT READS IS OF BULK AT MOST 1048576: true; the input reads as it did. -/
def baseCallsUptoRow : OpenClaim := { program := "ytmgnkabpglgblaagreat", sum := "040f605ef8fbef5ee80c206563eb04b707a33a2cd9aff98ec6c38c1dcec67ec4", func := "whetstone/whetstonelaw10.BaseCalls", spec := "baseCalls", unfollowed := true, recurses := true, plainKeys := false, apart := false, narrowed := true }
def BaseCallsUptoSaid : Prop := baseCallsUptoRow.holds Tryz.pinned (OpenSpec.upto baseCallsSpec)

/-- 'whetstonelaw10.BaseAlone', WHERE WHAT IT READS IS OF BULK AT MOST 1048576: true; the input reads as it did. -/
def baseAloneUptoRow : OpenClaim := { program := "ytmgnkabpglgblaagreat", sum := "040f605ef8fbef5ee80c206563eb04b707a33a2cd9aff98ec6c38c1dcec67ec4", func := "whetstone/whetstonelaw10.BaseAlone", spec := "baseAlone", unfollowed := true, recurses := true, plainKeys := false, apart := false, narrowed := true }
def BaseAloneUptoSaid : Prop := baseAloneUptoRow.holds Tryz.pinned (OpenSpec.upto baseAloneSpec)

/-- 'whetstonelaw10.BaseFinds', WHERE WHAT IT READS IS OF BULK AT MOST 1048576: true; the input reads as it did. -/
def baseFindsUptoRow : OpenClaim := { program := "ytmgnkabpglgblaagreat", sum := "040f605ef8fbef5ee80c206563eb04b707a33a2cd9aff98ec6c38c1dcec67ec4", func := "whetstone/whetstonelaw10.BaseFinds", spec := "baseFinds", unfollowed := true, recurses := true, plainKeys := false, apart := false, narrowed := true }
def BaseFindsUptoSaid : Prop := baseFindsUptoRow.holds Tryz.pinned (OpenSpec.upto baseFindsSpec)

/-- 'whetstonelaw10.BaseNils', WHERE WHAT IT READS IS OF BULK AT MOST 1048576: true; the input reads as it did. -/
def baseNilsUptoRow : OpenClaim := { program := "ytmgnkabpglgblaagreat", sum := "040f605ef8fbef5ee80c206563eb04b707a33a2cd9aff98ec6c38c1dcec67ec4", func := "whetstone/whetstonelaw10.BaseNils", spec := "baseNils", unfollowed := true, recurses := true, plainKeys := false, apart := false, narrowed := true }
def BaseNilsUptoSaid : Prop := baseNilsUptoRow.holds Tryz.pinned (OpenSpec.upto baseNilsSpec)

/-- 'whetstonelaw21.RunSteps', WHERE WHAT IT READS IS OF BULK AT MOST 1048576: true; the input reads as it did. -/
def runStepsUptoRow : OpenClaim := { program := "ytmgnkabpglgblaagreat", sum := "040f605ef8fbef5ee80c206563eb04b707a33a2cd9aff98ec6c38c1dcec67ec4", func := "whetstone/whetstonelaw21.RunSteps", spec := "runSteps", unfollowed := true, recurses := true, plainKeys := false, apart := false, narrowed := true }
def RunStepsUptoSaid : Prop := runStepsUptoRow.holds Tryz.pinned (OpenSpec.upto runStepsSpec)

/-- 'whetstonelaw21.RunKeeps', WHERE WHAT IT READS IS OF BULK AT MOST 1048576: true; the input reads as it did. -/
def runKeepsUptoRow : OpenClaim := { program := "ytmgnkabpglgblaagreat", sum := "040f605ef8fbef5ee80c206563eb04b707a33a2cd9aff98ec6c38c1dcec67ec4", func := "whetstone/whetstonelaw21.RunKeeps", spec := "runKeeps", unfollowed := true, recurses := true, plainKeys := false, apart := false, narrowed := true }
def RunKeepsUptoSaid : Prop := runKeepsUptoRow.holds Tryz.pinned (OpenSpec.upto runKeepsSpec)

/-- 'whetstonelaw21.RunLoops', WHERE WHAT IT READS IS OF BULK AT MOST 1048576: true; the input reads as it did. -/
def runLoopsUptoRow : OpenClaim := { program := "ytmgnkabpglgblaagreat", sum := "040f605ef8fbef5ee80c206563eb04b707a33a2cd9aff98ec6c38c1dcec67ec4", func := "whetstone/whetstonelaw21.RunLoops", spec := "runLoops", unfollowed := true, recurses := true, plainKeys := false, apart := false, narrowed := true }
def RunLoopsUptoSaid : Prop := runLoopsUptoRow.holds Tryz.pinned (OpenSpec.upto runLoopsSpec)

/-- 'whetstonelaw21.RunTwice', WHERE WHAT IT READS IS OF BULK AT MOST 1048576: true; the input reads as it did. -/
def runTwiceUptoRow : OpenClaim := { program := "ytmgnkabpglgblaagreat", sum := "040f605ef8fbef5ee80c206563eb04b707a33a2cd9aff98ec6c38c1dcec67ec4", func := "whetstone/whetstonelaw21.RunTwice", spec := "runTwice", unfollowed := true, recurses := true, plainKeys := false, apart := false, narrowed := true }
def RunTwiceUptoSaid : Prop := runTwiceUptoRow.holds Tryz.pinned (OpenSpec.upto runTwiceSpec)

end Rows
end Go.Proofs.YtmgnkabpglgblaaGreat
