/-
  No cell of these rows narrows 'for every input' (looked for: loops, veiled, ifaces, maps, wideKeys, modest, calm, conditions, laid).
  DERIVED. THE GIVEN ROWS OF THIS SEAT. 2 by the template 'for every input the law returns true; each argument reads behind the call as it read before'; 0 by the template 'total and deterministic' (their statements: YtmgnkabpglgblabTotals.lean).
  GIVEN WITH THE SEED: the statements are not yours to turn. If you find one false, say at which input.
  Laid BY PROGRAM, IN A SANDBOX (cutbox-rows.mjs): the forced cells as the released guide's own fill.sh prints them over the translation f9000bf8382bcc94… (all of the seat's roots in one cut). By AI agents, Wed Nov 11 2026. No macro, syntax, notation, axiom, sorry.
-/
import Derived.Test.YtmgnkabpglgblabChecked
import GoSem.Claim
import GoSem.ClaimJoined
import GoSem.ClaimMapViews
import Derived.JoinedTies
import Derived.KernelRfl
namespace Go.Proofs.Ytmgnkabpglgblab
/- THE CELL 'sum', in the pinned program and in every row, IS THE sha256 OF THE DUMP (.gsa) THAT YtmgnkabpglgblabProg.lean LOADS. Nothing in Lean hashes anything: it is a label: what it is worth is what the hold of that sum in a sandbox is worth. -/
noncomputable def Try.pinned : Pinned := { name := "ytmgnkabpglgblab", sum := "f9000bf8382bcc944352ad596bd7b3087632aaba1e9d0a1117d30e2270f1d48c", checked := Try.checked }
namespace Rows
def none {H : Type} : Left H := { results := [], args := [] }

/-- 'whetstonelaw15.SatPlays': WHATEVER THE INPUT: true; the input reads as it did. -/
def satPlaysSpec : ChangeSpec := { name := "satPlays", fn := fun _ => fun
  | [d] => { results := [.lit (.bool true)], args := [d] }
  | _ => none }
def satPlaysRow : OpenClaim := { program := "ytmgnkabpglgblab", sum := "f9000bf8382bcc944352ad596bd7b3087632aaba1e9d0a1117d30e2270f1d48c", func := "whetstone/whetstonelaw15.SatPlays", spec := "satPlays", unfollowed := true, recurses := true, apart := false }
def SatPlaysSaid : Prop := satPlaysRow.holds Try.pinned (OpenSpec.ofChange satPlaysSpec)

/-- ITS FALSE NEIGHBOUR: 'it returns false'. Refute it at one input. -/
def satPlaysWrong : ChangeSpec := { name := "satPlays", fn := fun _ => fun
  | [d] => { results := [.lit (.bool false)], args := [d] }
  | _ => none }
def SatPlaysWrongFalsely : Prop := satPlaysRow.holds Try.pinned (OpenSpec.ofChange satPlaysWrong)

/-- 'whetstonelaw15.SatNils': WHATEVER THE INPUT: true; the input reads as it did. -/
def satNilsSpec : ChangeSpec := { name := "satNils", fn := fun _ => fun
  | [d1, d2] => { results := [.lit (.bool true)], args := [d1, d2] }
  | _ => none }
def satNilsRow : OpenClaim := { program := "ytmgnkabpglgblab", sum := "f9000bf8382bcc944352ad596bd7b3087632aaba1e9d0a1117d30e2270f1d48c", func := "whetstone/whetstonelaw15.SatNils", spec := "satNils", unfollowed := true, recurses := true, apart := false }
def SatNilsSaid : Prop := satNilsRow.holds Try.pinned (OpenSpec.ofChange satNilsSpec)

/-- ITS FALSE NEIGHBOUR: 'it returns false'. Refute it at one input. -/
def satNilsWrong : ChangeSpec := { name := "satNils", fn := fun _ => fun
  | [d1, d2] => { results := [.lit (.bool false)], args := [d1, d2] }
  | _ => none }
def SatNilsWrongFalsely : Prop := satNilsRow.holds Try.pinned (OpenSpec.ofChange satNilsWrong)

/- THE SECOND FORM. 'bulk': how many values and letters a reading holds, each counted each time it is reached (what is shared counts as often as it is met; a slice's spare places count too). A statement '..UptoSaid' is the law's where the arguments, and the package variables that the reading takes, are together of bulk at most 1048576: NARROWER than '..Said'. Prove '..Said' where nothing that the law and all that it calls make is longer than what came in: it says more and counts as full. Else prove '..UptoSaid'. A law counts once. -/
mutual
def uptoBulk {H : Type} : DataW H → Nat
  | .lit (.string bytes) => bytes.length + 1
  | .lit _ => 1
  | .nil => 1
  | .ptr d => uptoBulk d + 1
  | .slice elems spare => uptoBulkAll elems + uptoBulkAll spare + 1
  | .agg parts => uptoBulkAll parts + 1
  | .iface _ d => uptoBulk d + 1
  | .map entries => uptoBulkEntries entries + 1
  | .held _ => 1
def uptoBulkAll {H : Type} : List (DataW H) → Nat
  | [] => 0
  | d :: r => uptoBulk d + uptoBulkAll r
def uptoBulkEntries {H : Type} : List (Lit × DataW H) → Nat
  | [] => 0
  | x :: r => uptoBulkEntry x + uptoBulkEntries r
def uptoBulkEntry {H : Type} : Lit × DataW H → Nat
  | (.string bytes, d) => bytes.length + uptoBulk d + 1
  | (_, d) => uptoBulk d + 1
 end
def uptoSmall : (H : Type) → List (DataW H) → Bool := fun _ ds => decide (uptoBulkAll ds ≤ 1048576)
def OpenSpec.upto (s : _root_.Go.ChangeSpec) : _root_.Go.OpenSpec := { _root_.Go.OpenSpec.ofChange s with cond := some uptoSmall }

/-- 'whetstonelaw15.SatPlays', WHERE WHAT IT READS IS OF BULK AT MOST 1048576: true; the input reads as it did. -/
def satPlaysUptoRow : OpenClaim := { program := "ytmgnkabpglgblab", sum := "f9000bf8382bcc944352ad596bd7b3087632aaba1e9d0a1117d30e2270f1d48c", func := "whetstone/whetstonelaw15.SatPlays", spec := "satPlays", unfollowed := true, recurses := true, apart := false, narrowed := true }
def SatPlaysUptoSaid : Prop := satPlaysUptoRow.holds Try.pinned (OpenSpec.upto satPlaysSpec)

/-- 'whetstonelaw15.SatNils', WHERE WHAT IT READS IS OF BULK AT MOST 1048576: true; the input reads as it did. -/
def satNilsUptoRow : OpenClaim := { program := "ytmgnkabpglgblab", sum := "f9000bf8382bcc944352ad596bd7b3087632aaba1e9d0a1117d30e2270f1d48c", func := "whetstone/whetstonelaw15.SatNils", spec := "satNils", unfollowed := true, recurses := true, apart := false, narrowed := true }
def SatNilsUptoSaid : Prop := satNilsUptoRow.holds Try.pinned (OpenSpec.upto satNilsSpec)

end Rows
end Go.Proofs.Ytmgnkabpglgblab
