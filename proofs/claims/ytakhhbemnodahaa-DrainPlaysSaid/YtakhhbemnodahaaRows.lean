/-
  No cell of these rows narrows 'for every input' (looked for: loops, veiled, ifaces, maps, wideKeys, modest, calm, conditions, laid).
  DERIVED. THE GIVEN ROWS OF THIS SEAT. 9 by the template 'for every input the law returns true; each argument reads behind the call as it read before'; 0 by the template 'total and deterministic' (their statements: YtakhhbemnodahaaTotals.lean).
  GIVEN WITH THE SEED: the statements are not yours to turn. If you find one false, say at which input.
  Laid BY PROGRAM, IN A SANDBOX (cutbox-rows.mjs): the forced cells as the released guide's own fill.sh prints them over the translation 461ead9c2153c647… (all of the seat's roots in one cut). By AI agents, Wed Nov 11 2026. No macro, syntax, notation, axiom, sorry.
-/
import Derived.Test.YtakhhbemnodahaaChecked
import GoSem.Claim
import GoSem.ClaimJoined
import GoSem.ClaimMapViews
import Derived.JoinedTies
import Derived.KernelRfl
namespace Go.Proofs.Ytakhhbemnodahaa
/- THE CELL 'sum', in the pinned program and in every row, IS THE sha256 OF THE DUMP (.gsa) THAT YtakhhbemnodahaaProg.lean LOADS. Nothing in Lean hashes anything: it is a label: what it is worth is what the hold of that sum in a sandbox is worth. -/
noncomputable def Try.pinned : Pinned := { name := "ytakhhbemnodahaa", sum := "461ead9c2153c64784386a6665883369ab4847001f649f2f1b665ece91c2e3bf", checked := Try.checked }
namespace Rows
def none {H : Type} : Left H := { results := [], args := [] }

/-- 'kissgatelaw34.GaugePlays': WHATEVER THE INPUT: true; the input reads as it did. -/
def gaugePlaysSpec : ChangeSpec := { name := "gaugePlays", fn := fun _ => fun
  | [d1, d2] => { results := [.lit (.bool true)], args := [d1, d2] }
  | _ => none }
def gaugePlaysRow : OpenClaim := { program := "ytakhhbemnodahaa", sum := "461ead9c2153c64784386a6665883369ab4847001f649f2f1b665ece91c2e3bf", func := "kissgate/kissgatelaw34.GaugePlays", spec := "gaugePlays", inPlace := ["sync/atomic.AddInt64", "sync/atomic.LoadInt64"], apart := false }
def GaugePlaysSaid : Prop := gaugePlaysRow.holds Try.pinned (OpenSpec.ofChange gaugePlaysSpec)

/-- ITS FALSE NEIGHBOUR: 'it returns false'. Refute it at one input. -/
def gaugePlaysWrong : ChangeSpec := { name := "gaugePlays", fn := fun _ => fun
  | [d1, d2] => { results := [.lit (.bool false)], args := [d1, d2] }
  | _ => none }
def GaugePlaysWrongFalsely : Prop := gaugePlaysRow.holds Try.pinned (OpenSpec.ofChange gaugePlaysWrong)

/-- 'kissgatelaw34.GaugeCounts': WHATEVER THE INPUT: true; the input reads as it did. -/
def gaugeCountsSpec : ChangeSpec := { name := "gaugeCounts", fn := fun _ => fun
  | [d] => { results := [.lit (.bool true)], args := [d] }
  | _ => none }
def gaugeCountsRow : OpenClaim := { program := "ytakhhbemnodahaa", sum := "461ead9c2153c64784386a6665883369ab4847001f649f2f1b665ece91c2e3bf", func := "kissgate/kissgatelaw34.GaugeCounts", spec := "gaugeCounts", inPlace := ["sync/atomic.AddInt64", "sync/atomic.LoadInt64"], apart := false }
def GaugeCountsSaid : Prop := gaugeCountsRow.holds Try.pinned (OpenSpec.ofChange gaugeCountsSpec)

/-- ITS FALSE NEIGHBOUR: 'it returns false'. Refute it at one input. -/
def gaugeCountsWrong : ChangeSpec := { name := "gaugeCounts", fn := fun _ => fun
  | [d] => { results := [.lit (.bool false)], args := [d] }
  | _ => none }
def GaugeCountsWrongFalsely : Prop := gaugeCountsRow.holds Try.pinned (OpenSpec.ofChange gaugeCountsWrong)

/-- 'kissgatelaw34.GaugeNone': WHATEVER THE INPUT: true; the input reads as it did. -/
def gaugeNoneSpec : ChangeSpec := { name := "gaugeNone", fn := fun _ => fun
  | [d] => { results := [.lit (.bool true)], args := [d] }
  | _ => none }
def gaugeNoneRow : OpenClaim := { program := "ytakhhbemnodahaa", sum := "461ead9c2153c64784386a6665883369ab4847001f649f2f1b665ece91c2e3bf", func := "kissgate/kissgatelaw34.GaugeNone", spec := "gaugeNone", inPlace := ["sync/atomic.AddInt64", "sync/atomic.LoadInt64"], apart := false }
def GaugeNoneSaid : Prop := gaugeNoneRow.holds Try.pinned (OpenSpec.ofChange gaugeNoneSpec)

/-- ITS FALSE NEIGHBOUR: 'it returns false'. Refute it at one input. -/
def gaugeNoneWrong : ChangeSpec := { name := "gaugeNone", fn := fun _ => fun
  | [d] => { results := [.lit (.bool false)], args := [d] }
  | _ => none }
def GaugeNoneWrongFalsely : Prop := gaugeNoneRow.holds Try.pinned (OpenSpec.ofChange gaugeNoneWrong)

/-- 'kissgatelaw28.TurnPlays': WHATEVER THE INPUT: true; the input reads as it did. -/
def turnPlaysSpec : ChangeSpec := { name := "turnPlays", fn := fun _ => fun
  | [d1, d2, d3] => { results := [.lit (.bool true)], args := [d1, d2, d3] }
  | _ => none }
def turnPlaysRow : OpenClaim := { program := "ytakhhbemnodahaa", sum := "461ead9c2153c64784386a6665883369ab4847001f649f2f1b665ece91c2e3bf", func := "kissgate/kissgatelaw28.TurnPlays", spec := "turnPlays", inPlace := ["sync/atomic.LoadInt64", "sync/atomic.AddInt64"], apart := false }
def TurnPlaysSaid : Prop := turnPlaysRow.holds Try.pinned (OpenSpec.ofChange turnPlaysSpec)

/-- ITS FALSE NEIGHBOUR: 'it returns false'. Refute it at one input. -/
def turnPlaysWrong : ChangeSpec := { name := "turnPlays", fn := fun _ => fun
  | [d1, d2, d3] => { results := [.lit (.bool false)], args := [d1, d2, d3] }
  | _ => none }
def TurnPlaysWrongFalsely : Prop := turnPlaysRow.holds Try.pinned (OpenSpec.ofChange turnPlaysWrong)

/-- 'kissgatelaw28.TurnStays': WHATEVER THE INPUT: true; the input reads as it did. -/
def turnStaysSpec : ChangeSpec := { name := "turnStays", fn := fun _ => fun
  | [d1, d2] => { results := [.lit (.bool true)], args := [d1, d2] }
  | _ => none }
def turnStaysRow : OpenClaim := { program := "ytakhhbemnodahaa", sum := "461ead9c2153c64784386a6665883369ab4847001f649f2f1b665ece91c2e3bf", func := "kissgate/kissgatelaw28.TurnStays", spec := "turnStays", inPlace := ["sync/atomic.LoadInt64", "sync/atomic.AddInt64"], apart := false }
def TurnStaysSaid : Prop := turnStaysRow.holds Try.pinned (OpenSpec.ofChange turnStaysSpec)

/-- ITS FALSE NEIGHBOUR: 'it returns false'. Refute it at one input. -/
def turnStaysWrong : ChangeSpec := { name := "turnStays", fn := fun _ => fun
  | [d1, d2] => { results := [.lit (.bool false)], args := [d1, d2] }
  | _ => none }
def TurnStaysWrongFalsely : Prop := turnStaysRow.holds Try.pinned (OpenSpec.ofChange turnStaysWrong)

/-- 'kissgatelaw35.DrainNone': WHATEVER THE INPUT: true; the input reads as it did. -/
def drainNoneSpec : ChangeSpec := { name := "drainNone", fn := fun _ => fun
  | [d1, d2, d3] => { results := [.lit (.bool true)], args := [d1, d2, d3] }
  | _ => none }
def drainNoneRow : OpenClaim := { program := "ytakhhbemnodahaa", sum := "461ead9c2153c64784386a6665883369ab4847001f649f2f1b665ece91c2e3bf", func := "kissgate/kissgatelaw35.DrainNone", spec := "drainNone", inPlace := ["sync/atomic.LoadInt64", "sync/atomic.AddInt64"], unfollowed := true, recurses := true, apart := false }
def DrainNoneSaid : Prop := drainNoneRow.holds Try.pinned (OpenSpec.ofChange drainNoneSpec)

/-- ITS FALSE NEIGHBOUR: 'it returns false'. Refute it at one input. -/
def drainNoneWrong : ChangeSpec := { name := "drainNone", fn := fun _ => fun
  | [d1, d2, d3] => { results := [.lit (.bool false)], args := [d1, d2, d3] }
  | _ => none }
def DrainNoneWrongFalsely : Prop := drainNoneRow.holds Try.pinned (OpenSpec.ofChange drainNoneWrong)

/-- 'kissgatelaw35.DrainSure': WHATEVER THE INPUT: true; the input reads as it did. -/
def drainSureSpec : ChangeSpec := { name := "drainSure", fn := fun _ => fun
  | [d1, d2] => { results := [.lit (.bool true)], args := [d1, d2] }
  | _ => none }
def drainSureRow : OpenClaim := { program := "ytakhhbemnodahaa", sum := "461ead9c2153c64784386a6665883369ab4847001f649f2f1b665ece91c2e3bf", func := "kissgate/kissgatelaw35.DrainSure", spec := "drainSure", inPlace := ["sync/atomic.LoadInt64", "sync/atomic.AddInt64"], unfollowed := true, recurses := true, apart := false }
def DrainSureSaid : Prop := drainSureRow.holds Try.pinned (OpenSpec.ofChange drainSureSpec)

/-- ITS FALSE NEIGHBOUR: 'it returns false'. Refute it at one input. -/
def drainSureWrong : ChangeSpec := { name := "drainSure", fn := fun _ => fun
  | [d1, d2] => { results := [.lit (.bool false)], args := [d1, d2] }
  | _ => none }
def DrainSureWrongFalsely : Prop := drainSureRow.holds Try.pinned (OpenSpec.ofChange drainSureWrong)

/-- 'kissgatelaw35.DrainWaits': WHATEVER THE INPUT: true; the input reads as it did. -/
def drainWaitsSpec : ChangeSpec := { name := "drainWaits", fn := fun _ => fun
  | [d] => { results := [.lit (.bool true)], args := [d] }
  | _ => none }
def drainWaitsRow : OpenClaim := { program := "ytakhhbemnodahaa", sum := "461ead9c2153c64784386a6665883369ab4847001f649f2f1b665ece91c2e3bf", func := "kissgate/kissgatelaw35.DrainWaits", spec := "drainWaits", inPlace := ["sync/atomic.AddInt64", "sync/atomic.LoadInt64"], unfollowed := true, recurses := true, apart := false }
def DrainWaitsSaid : Prop := drainWaitsRow.holds Try.pinned (OpenSpec.ofChange drainWaitsSpec)

/-- ITS FALSE NEIGHBOUR: 'it returns false'. Refute it at one input. -/
def drainWaitsWrong : ChangeSpec := { name := "drainWaits", fn := fun _ => fun
  | [d] => { results := [.lit (.bool false)], args := [d] }
  | _ => none }
def DrainWaitsWrongFalsely : Prop := drainWaitsRow.holds Try.pinned (OpenSpec.ofChange drainWaitsWrong)

/-- 'kissgatelaw35.DrainPlays': WHATEVER THE INPUT: true; the input reads as it did. -/
def drainPlaysSpec : ChangeSpec := { name := "drainPlays", fn := fun _ => fun
  | [d1, d2] => { results := [.lit (.bool true)], args := [d1, d2] }
  | _ => none }
def drainPlaysRow : OpenClaim := { program := "ytakhhbemnodahaa", sum := "461ead9c2153c64784386a6665883369ab4847001f649f2f1b665ece91c2e3bf", func := "kissgate/kissgatelaw35.DrainPlays", spec := "drainPlays", inPlace := ["sync/atomic.LoadInt64", "sync/atomic.AddInt64"], unfollowed := true, recurses := true, apart := false }
def DrainPlaysSaid : Prop := drainPlaysRow.holds Try.pinned (OpenSpec.ofChange drainPlaysSpec)

/-- ITS FALSE NEIGHBOUR: 'it returns false'. Refute it at one input. -/
def drainPlaysWrong : ChangeSpec := { name := "drainPlays", fn := fun _ => fun
  | [d1, d2] => { results := [.lit (.bool false)], args := [d1, d2] }
  | _ => none }
def DrainPlaysWrongFalsely : Prop := drainPlaysRow.holds Try.pinned (OpenSpec.ofChange drainPlaysWrong)

/- THE SECOND FORM. 'bulk': how many values and letters a reading holds, each counted each time it is reached (what is shared counts as often as it is met; a slice's spare places count too). A statement '..UptoSaid' is the law's where the arguments, and the package variables that the reading takes, are together of bulk at most 1048576: NARROWER than '..Said'. Prove '..Said' where nothing that the law and all that it calls make is longer than what came in: it says more and counts as full. Else prove '..UptoSaid'. A law counts once. -/
mutual
def uptoBulk {H : Type} : DataW H → Nat
  | .lit (.string bytes) => bytes.length + 1
  | .lit _ => 1
  | .nil => 1
  | .ptr d => uptoBulk d + 1
  | .slice elems spare => uptoBulkAll elems + uptoBulkAll spare + 1
  | .agg parts => uptoBulkAll parts + 1
  | .iface _ d => uptoBulk d + 1
  | .map entries => uptoBulkEntries entries + 1
  | .held _ => 1
def uptoBulkAll {H : Type} : List (DataW H) → Nat
  | [] => 0
  | d :: r => uptoBulk d + uptoBulkAll r
def uptoBulkEntries {H : Type} : List (Lit × DataW H) → Nat
  | [] => 0
  | x :: r => uptoBulkEntry x + uptoBulkEntries r
def uptoBulkEntry {H : Type} : Lit × DataW H → Nat
  | (.string bytes, d) => bytes.length + uptoBulk d + 1
  | (_, d) => uptoBulk d + 1
 end
def uptoSmall : (H : Type) → List (DataW H) → Bool := fun _ ds => decide (uptoBulkAll ds ≤ 1048576)
def OpenSpec.upto (s : _root_.Go.ChangeSpec) : _root_.Go.OpenSpec := { _root_.Go.OpenSpec.ofChange s with cond := some uptoSmall }

/-- 'kissgatelaw34.GaugePlays', WHERE WHAT IT READS IS OF BULK AT MOST 1048576: true; the input reads as it did. -/
def gaugePlaysUptoRow : OpenClaim := { program := "ytakhhbemnodahaa", sum := "461ead9c2153c64784386a6665883369ab4847001f649f2f1b665ece91c2e3bf", func := "kissgate/kissgatelaw34.GaugePlays", spec := "gaugePlays", inPlace := ["sync/atomic.AddInt64", "sync/atomic.LoadInt64"], apart := false, narrowed := true }
def GaugePlaysUptoSaid : Prop := gaugePlaysUptoRow.holds Try.pinned (OpenSpec.upto gaugePlaysSpec)

/-- 'kissgatelaw34.GaugeCounts', WHERE WHAT IT READS IS OF BULK AT MOST 1048576: true; the input reads as it did. -/
def gaugeCountsUptoRow : OpenClaim := { program := "ytakhhbemnodahaa", sum := "461ead9c2153c64784386a6665883369ab4847001f649f2f1b665ece91c2e3bf", func := "kissgate/kissgatelaw34.GaugeCounts", spec := "gaugeCounts", inPlace := ["sync/atomic.AddInt64", "sync/atomic.LoadInt64"], apart := false, narrowed := true }
def GaugeCountsUptoSaid : Prop := gaugeCountsUptoRow.holds Try.pinned (OpenSpec.upto gaugeCountsSpec)

/-- 'kissgatelaw34.GaugeNone', WHERE WHAT IT READS IS OF BULK AT MOST 1048576: true; the input reads as it did. -/
def gaugeNoneUptoRow : OpenClaim := { program := "ytakhhbemnodahaa", sum := "461ead9c2153c64784386a6665883369ab4847001f649f2f1b665ece91c2e3bf", func := "kissgate/kissgatelaw34.GaugeNone", spec := "gaugeNone", inPlace := ["sync/atomic.AddInt64", "sync/atomic.LoadInt64"], apart := false, narrowed := true }
def GaugeNoneUptoSaid : Prop := gaugeNoneUptoRow.holds Try.pinned (OpenSpec.upto gaugeNoneSpec)

/-- 'kissgatelaw28.TurnPlays', WHERE WHAT IT READS IS OF BULK AT MOST 1048576: true; the input reads as it did. -/
def turnPlaysUptoRow : OpenClaim := { program := "ytakhhbemnodahaa", sum := "461ead9c2153c64784386a6665883369ab4847001f649f2f1b665ece91c2e3bf", func := "kissgate/kissgatelaw28.TurnPlays", spec := "turnPlays", inPlace := ["sync/atomic.LoadInt64", "sync/atomic.AddInt64"], apart := false, narrowed := true }
def TurnPlaysUptoSaid : Prop := turnPlaysUptoRow.holds Try.pinned (OpenSpec.upto turnPlaysSpec)

/-- 'kissgatelaw28.TurnStays', WHERE WHAT IT READS IS OF BULK AT MOST 1048576: true; the input reads as it did. -/
def turnStaysUptoRow : OpenClaim := { program := "ytakhhbemnodahaa", sum := "461ead9c2153c64784386a6665883369ab4847001f649f2f1b665ece91c2e3bf", func := "kissgate/kissgatelaw28.TurnStays", spec := "turnStays", inPlace := ["sync/atomic.LoadInt64", "sync/atomic.AddInt64"], apart := false, narrowed := true }
def TurnStaysUptoSaid : Prop := turnStaysUptoRow.holds Try.pinned (OpenSpec.upto turnStaysSpec)

/-- 'kissgatelaw35.DrainNone', WHERE WHAT IT READS IS OF BULK AT MOST 1048576: true; the input reads as it did. -/
def drainNoneUptoRow : OpenClaim := { program := "ytakhhbemnodahaa", sum := "461ead9c2153c64784386a6665883369ab4847001f649f2f1b665ece91c2e3bf", func := "kissgate/kissgatelaw35.DrainNone", spec := "drainNone", inPlace := ["sync/atomic.LoadInt64", "sync/atomic.AddInt64"], unfollowed := true, recurses := true, apart := false, narrowed := true }
def DrainNoneUptoSaid : Prop := drainNoneUptoRow.holds Try.pinned (OpenSpec.upto drainNoneSpec)

/-- 'kissgatelaw35.DrainSure', WHERE WHAT IT READS IS OF BULK AT MOST 1048576: true; the input reads as it did. -/
def drainSureUptoRow : OpenClaim := { program := "ytakhhbemnodahaa", sum := "461ead9c2153c64784386a6665883369ab4847001f649f2f1b665ece91c2e3bf", func := "kissgate/kissgatelaw35.DrainSure", spec := "drainSure", inPlace := ["sync/atomic.LoadInt64", "sync/atomic.AddInt64"], unfollowed := true, recurses := true, apart := false, narrowed := true }
def DrainSureUptoSaid : Prop := drainSureUptoRow.holds Try.pinned (OpenSpec.upto drainSureSpec)

/-- 'kissgatelaw35.DrainWaits', WHERE WHAT IT READS IS OF BULK AT MOST 1048576: true; the input reads as it did. -/
def drainWaitsUptoRow : OpenClaim := { program := "ytakhhbemnodahaa", sum := "461ead9c2153c64784386a6665883369ab4847001f649f2f1b665ece91c2e3bf", func := "kissgate/kissgatelaw35.DrainWaits", spec := "drainWaits", inPlace := ["sync/atomic.AddInt64", "sync/atomic.LoadInt64"], unfollowed := true, recurses := true, apart := false, narrowed := true }
def DrainWaitsUptoSaid : Prop := drainWaitsUptoRow.holds Try.pinned (OpenSpec.upto drainWaitsSpec)

/-- 'kissgatelaw35.DrainPlays', WHERE WHAT IT READS IS OF BULK AT MOST 1048576: true; the input reads as it did. -/
def drainPlaysUptoRow : OpenClaim := { program := "ytakhhbemnodahaa", sum := "461ead9c2153c64784386a6665883369ab4847001f649f2f1b665ece91c2e3bf", func := "kissgate/kissgatelaw35.DrainPlays", spec := "drainPlays", inPlace := ["sync/atomic.LoadInt64", "sync/atomic.AddInt64"], unfollowed := true, recurses := true, apart := false, narrowed := true }
def DrainPlaysUptoSaid : Prop := drainPlaysUptoRow.holds Try.pinned (OpenSpec.upto drainPlaysSpec)

end Rows
end Go.Proofs.Ytakhhbemnodahaa
