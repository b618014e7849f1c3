/-
  No cell of these rows narrows 'for every input' (looked for: loops, veiled, ifaces, maps, wideKeys, modest, calm, conditions, laid).
  DERIVED. THE GIVEN ROWS OF THIS SEAT. 6 by the template 'for every input the law returns true; each argument reads behind the call as it read before'; 0 by the template 'total and deterministic' (their statements: YtacogelejffbhaaTotals.lean).
  GIVEN WITH THE SEED: the statements are not yours to turn. If you find one false, say at which input.
  Laid BY PROGRAM, IN A SANDBOX (cutbox-rows.mjs): the forced cells as the released guide's own fill.sh prints them over the translation 3e373403d659fa9b… (all of the seat's roots in one cut). By AI agents, Wed Nov 11 2026. No macro, syntax, notation, axiom, sorry.
-/
import Derived.Test.YtacogelejffbhaaChecked
import GoSem.Claim
import GoSem.ClaimJoined
import GoSem.ClaimMapViews
import Derived.JoinedTies
import Derived.KernelRfl
namespace Go.Proofs.Ytacogelejffbhaa
/- THE CELL 'sum', in the pinned program and in every row, IS THE sha256 OF THE DUMP (.gsa) THAT YtacogelejffbhaaProg.lean LOADS. Nothing in Lean hashes anything: it is a label: what it is worth is what the hold of that sum in a sandbox is worth. -/
noncomputable def Try.pinned : Pinned := { name := "ytacogelejffbhaa", sum := "3e373403d659fa9bd90241afdfacb0810c20a1eaced30ac9560594d47158c689", checked := Try.checked }
namespace Rows
def none {H : Type} : Left H := { results := [], args := [] }

/-- 'kissgatelaw32.BenchFifo': WHATEVER THE INPUT: true; the input reads as it did. -/
def benchFifoSpec : ChangeSpec := { name := "benchFifo", fn := fun _ => fun
  | [d] => { results := [.lit (.bool true)], args := [d] }
  | _ => none }
def benchFifoRow : OpenClaim := { program := "ytacogelejffbhaa", sum := "3e373403d659fa9bd90241afdfacb0810c20a1eaced30ac9560594d47158c689", func := "kissgate/kissgatelaw32.BenchFifo", spec := "benchFifo", inPlace := ["sync/atomic.StoreInt64", "sync/atomic.LoadInt64"], apart := false }
def BenchFifoSaid : Prop := benchFifoRow.holds Try.pinned (OpenSpec.ofChange benchFifoSpec)

/-- ITS FALSE NEIGHBOUR: 'it returns false'. Refute it at one input. -/
def benchFifoWrong : ChangeSpec := { name := "benchFifo", fn := fun _ => fun
  | [d] => { results := [.lit (.bool false)], args := [d] }
  | _ => none }
def BenchFifoWrongFalsely : Prop := benchFifoRow.holds Try.pinned (OpenSpec.ofChange benchFifoWrong)

/-- 'kissgatelaw32.BenchNone': WHATEVER THE INPUT: true; the input reads as it did. -/
def benchNoneSpec : ChangeSpec := { name := "benchNone", fn := fun _ => fun
  | [d] => { results := [.lit (.bool true)], args := [d] }
  | _ => none }
def benchNoneRow : OpenClaim := { program := "ytacogelejffbhaa", sum := "3e373403d659fa9bd90241afdfacb0810c20a1eaced30ac9560594d47158c689", func := "kissgate/kissgatelaw32.BenchNone", spec := "benchNone", inPlace := ["sync/atomic.StoreInt64", "sync/atomic.LoadInt64"], apart := false }
def BenchNoneSaid : Prop := benchNoneRow.holds Try.pinned (OpenSpec.ofChange benchNoneSpec)

/-- ITS FALSE NEIGHBOUR: 'it returns false'. Refute it at one input. -/
def benchNoneWrong : ChangeSpec := { name := "benchNone", fn := fun _ => fun
  | [d] => { results := [.lit (.bool false)], args := [d] }
  | _ => none }
def BenchNoneWrongFalsely : Prop := benchNoneRow.holds Try.pinned (OpenSpec.ofChange benchNoneWrong)

/-- 'kissgatelaw32.BenchPlays': WHATEVER THE INPUT: true; the input reads as it did. -/
def benchPlaysSpec : ChangeSpec := { name := "benchPlays", fn := fun _ => fun
  | [d1, d2] => { results := [.lit (.bool true)], args := [d1, d2] }
  | _ => none }
def benchPlaysRow : OpenClaim := { program := "ytacogelejffbhaa", sum := "3e373403d659fa9bd90241afdfacb0810c20a1eaced30ac9560594d47158c689", func := "kissgate/kissgatelaw32.BenchPlays", spec := "benchPlays", inPlace := ["sync/atomic.StoreInt64", "sync/atomic.LoadInt64"], apart := false }
def BenchPlaysSaid : Prop := benchPlaysRow.holds Try.pinned (OpenSpec.ofChange benchPlaysSpec)

/-- ITS FALSE NEIGHBOUR: 'it returns false'. Refute it at one input. -/
def benchPlaysWrong : ChangeSpec := { name := "benchPlays", fn := fun _ => fun
  | [d1, d2] => { results := [.lit (.bool false)], args := [d1, d2] }
  | _ => none }
def BenchPlaysWrongFalsely : Prop := benchPlaysRow.holds Try.pinned (OpenSpec.ofChange benchPlaysWrong)

/-- 'kissgatelaw33.MalthusPassed': WHATEVER THE INPUT: true; the input reads as it did. -/
def malthusPassedSpec : ChangeSpec := { name := "malthusPassed", fn := fun _ => fun
  | [d1, d2, d3] => { results := [.lit (.bool true)], args := [d1, d2, d3] }
  | _ => none }
def malthusPassedRow : OpenClaim := { program := "ytacogelejffbhaa", sum := "3e373403d659fa9bd90241afdfacb0810c20a1eaced30ac9560594d47158c689", func := "kissgate/kissgatelaw33.MalthusPassed", spec := "malthusPassed", inPlace := ["sync/atomic.StoreInt64", "sync/atomic.SwapInt64", "sync/atomic.LoadInt64", "sync/atomic.AddInt64", "sync/atomic.CompareAndSwapInt64"], unfollowed := true, recurses := true, apart := false }
def MalthusPassedSaid : Prop := malthusPassedRow.holds Try.pinned (OpenSpec.ofChange malthusPassedSpec)

/-- ITS FALSE NEIGHBOUR: 'it returns false'. Refute it at one input. -/
def malthusPassedWrong : ChangeSpec := { name := "malthusPassed", fn := fun _ => fun
  | [d1, d2, d3] => { results := [.lit (.bool false)], args := [d1, d2, d3] }
  | _ => none }
def MalthusPassedWrongFalsely : Prop := malthusPassedRow.holds Try.pinned (OpenSpec.ofChange malthusPassedWrong)

/-- 'kissgatelaw33.MalthusAll': WHATEVER THE INPUT: true; the input reads as it did. -/
def malthusAllSpec : ChangeSpec := { name := "malthusAll", fn := fun _ => fun
  | [d1, d2, d3] => { results := [.lit (.bool true)], args := [d1, d2, d3] }
  | _ => none }
def malthusAllRow : OpenClaim := { program := "ytacogelejffbhaa", sum := "3e373403d659fa9bd90241afdfacb0810c20a1eaced30ac9560594d47158c689", func := "kissgate/kissgatelaw33.MalthusAll", spec := "malthusAll", inPlace := ["sync/atomic.StoreInt64", "sync/atomic.SwapInt64", "sync/atomic.LoadInt64", "sync/atomic.AddInt64", "sync/atomic.CompareAndSwapInt64"], unfollowed := true, recurses := true, apart := false }
def MalthusAllSaid : Prop := malthusAllRow.holds Try.pinned (OpenSpec.ofChange malthusAllSpec)

/-- ITS FALSE NEIGHBOUR: 'it returns false'. Refute it at one input. -/
def malthusAllWrong : ChangeSpec := { name := "malthusAll", fn := fun _ => fun
  | [d1, d2, d3] => { results := [.lit (.bool false)], args := [d1, d2, d3] }
  | _ => none }
def MalthusAllWrongFalsely : Prop := malthusAllRow.holds Try.pinned (OpenSpec.ofChange malthusAllWrong)

/-- 'kissgatelaw33.MalthusOne': WHATEVER THE INPUT: true; the input reads as it did. -/
def malthusOneSpec : ChangeSpec := { name := "malthusOne", fn := fun _ => fun
  | [d1, d2, d3] => { results := [.lit (.bool true)], args := [d1, d2, d3] }
  | _ => none }
def malthusOneRow : OpenClaim := { program := "ytacogelejffbhaa", sum := "3e373403d659fa9bd90241afdfacb0810c20a1eaced30ac9560594d47158c689", func := "kissgate/kissgatelaw33.MalthusOne", spec := "malthusOne", inPlace := ["sync/atomic.StoreInt64", "sync/atomic.SwapInt64", "sync/atomic.LoadInt64", "sync/atomic.AddInt64", "sync/atomic.CompareAndSwapInt64"], unfollowed := true, recurses := true, apart := false }
def MalthusOneSaid : Prop := malthusOneRow.holds Try.pinned (OpenSpec.ofChange malthusOneSpec)

/-- ITS FALSE NEIGHBOUR: 'it returns false'. Refute it at one input. -/
def malthusOneWrong : ChangeSpec := { name := "malthusOne", fn := fun _ => fun
  | [d1, d2, d3] => { results := [.lit (.bool false)], args := [d1, d2, d3] }
  | _ => none }
def MalthusOneWrongFalsely : Prop := malthusOneRow.holds Try.pinned (OpenSpec.ofChange malthusOneWrong)

/- THE SECOND FORM. 'bulk': how many values and letters a reading holds, each counted each time it is reached (what is shared counts as often as it is met; a slice's spare places count too). A statement '..UptoSaid' is the law's where the arguments, and the package variables that the reading takes, are together of bulk at most 1048576: NARROWER than '..Said'. Prove '..Said' where nothing that the law and all that it calls make is longer than what came in: it says more and counts as full. Else prove '..UptoSaid'. A law counts once. -/
mutual
def uptoBulk {H : Type} : DataW H → Nat
  | .lit (.string bytes) => bytes.length + 1
  | .lit _ => 1
  | .nil => 1
  | .ptr d => uptoBulk d + 1
  | .slice elems spare => uptoBulkAll elems + uptoBulkAll spare + 1
  | .agg parts => uptoBulkAll parts + 1
  | .iface _ d => uptoBulk d + 1
  | .map entries => uptoBulkEntries entries + 1
  | .held _ => 1
def uptoBulkAll {H : Type} : List (DataW H) → Nat
  | [] => 0
  | d :: r => uptoBulk d + uptoBulkAll r
def uptoBulkEntries {H : Type} : List (Lit × DataW H) → Nat
  | [] => 0
  | x :: r => uptoBulkEntry x + uptoBulkEntries r
def uptoBulkEntry {H : Type} : Lit × DataW H → Nat
  | (.string bytes, d) => bytes.length + uptoBulk d + 1
  | (_, d) => uptoBulk d + 1
 end
def uptoSmall : (H : Type) → List (DataW H) → Bool := fun _ ds => decide (uptoBulkAll ds ≤ 1048576)
def OpenSpec.upto (s : _root_.Go.ChangeSpec) : _root_.Go.OpenSpec := { _root_.Go.OpenSpec.ofChange s with cond := some uptoSmall }

/-- 'kissgatelaw32.BenchFifo', WHERE WHAT IT READS IS OF BULK AT MOST 1048576: true; the input reads as it did. -/
def benchFifoUptoRow : OpenClaim := { program := "ytacogelejffbhaa", sum := "3e373403d659fa9bd90241afdfacb0810c20a1eaced30ac9560594d47158c689", func := "kissgate/kissgatelaw32.BenchFifo", spec := "benchFifo", inPlace := ["sync/atomic.StoreInt64", "sync/atomic.LoadInt64"], apart := false, narrowed := true }
def BenchFifoUptoSaid : Prop := benchFifoUptoRow.holds Try.pinned (OpenSpec.upto benchFifoSpec)

/-- 'kissgatelaw32.BenchNone', WHERE WHAT IT READS IS OF BULK AT MOST 1048576: true; the input reads as it did. -/
def benchNoneUptoRow : OpenClaim := { program := "ytacogelejffbhaa", sum := "3e373403d659fa9bd90241afdfacb0810c20a1eaced30ac9560594d47158c689", func := "kissgate/kissgatelaw32.BenchNone", spec := "benchNone", inPlace := ["sync/atomic.StoreInt64", "sync/atomic.LoadInt64"], apart := false, narrowed := true }
def BenchNoneUptoSaid : Prop := benchNoneUptoRow.holds Try.pinned (OpenSpec.upto benchNoneSpec)

/-- 'kissgatelaw32.BenchPlays', WHERE WHAT IT READS IS OF BULK AT MOST 1048576: true; the input reads as it did. -/
def benchPlaysUptoRow : OpenClaim := { program := "ytacogelejffbhaa", sum := "3e373403d659fa9bd90241afdfacb0810c20a1eaced30ac9560594d47158c689", func := "kissgate/kissgatelaw32.BenchPlays", spec := "benchPlays", inPlace := ["sync/atomic.StoreInt64", "sync/atomic.LoadInt64"], apart := false, narrowed := true }
def BenchPlaysUptoSaid : Prop := benchPlaysUptoRow.holds Try.pinned (OpenSpec.upto benchPlaysSpec)

/-- 'kissgatelaw33.MalthusPassed', WHERE WHAT IT READS IS OF BULK AT MOST 1048576: true; the input reads as it did. -/
def malthusPassedUptoRow : OpenClaim := { program := "ytacogelejffbhaa", sum := "3e373403d659fa9bd90241afdfacb0810c20a1eaced30ac9560594d47158c689", func := "kissgate/kissgatelaw33.MalthusPassed", spec := "malthusPassed", inPlace := ["sync/atomic.StoreInt64", "sync/atomic.SwapInt64", "sync/atomic.LoadInt64", "sync/atomic.AddInt64", "sync/atomic.CompareAndSwapInt64"], unfollowed := true, recurses := true, apart := false, narrowed := true }
def MalthusPassedUptoSaid : Prop := malthusPassedUptoRow.holds Try.pinned (OpenSpec.upto malthusPassedSpec)

/-- 'kissgatelaw33.MalthusAll', WHERE WHAT IT READS IS OF BULK AT MOST 1048576: true; the input reads as it did. -/
def malthusAllUptoRow : OpenClaim := { program := "ytacogelejffbhaa", sum := "3e373403d659fa9bd90241afdfacb0810c20a1eaced30ac9560594d47158c689", func := "kissgate/kissgatelaw33.MalthusAll", spec := "malthusAll", inPlace := ["sync/atomic.StoreInt64", "sync/atomic.SwapInt64", "sync/atomic.LoadInt64", "sync/atomic.AddInt64", "sync/atomic.CompareAndSwapInt64"], unfollowed := true, recurses := true, apart := false, narrowed := true }
def MalthusAllUptoSaid : Prop := malthusAllUptoRow.holds Try.pinned (OpenSpec.upto malthusAllSpec)

/-- 'kissgatelaw33.MalthusOne', WHERE WHAT IT READS IS OF BULK AT MOST 1048576: true; the input reads as it did. -/
def malthusOneUptoRow : OpenClaim := { program := "ytacogelejffbhaa", sum := "3e373403d659fa9bd90241afdfacb0810c20a1eaced30ac9560594d47158c689", func := "kissgate/kissgatelaw33.MalthusOne", spec := "malthusOne", inPlace := ["sync/atomic.StoreInt64", "sync/atomic.SwapInt64", "sync/atomic.LoadInt64", "sync/atomic.AddInt64", "sync/atomic.CompareAndSwapInt64"], unfollowed := true, recurses := true, apart := false, narrowed := true }
def MalthusOneUptoSaid : Prop := malthusOneUptoRow.holds Try.pinned (OpenSpec.upto malthusOneSpec)

end Rows
end Go.Proofs.Ytacogelejffbhaa
