/-
  No cell of these rows narrows 'for every input' (looked for: loops, veiled, ifaces, maps, wideKeys, modest, calm, conditions, laid).
  DERIVED. THE GIVEN ROWS OF THIS SEAT. 5 by the template 'for every input the law returns true; each argument reads behind the call as it read before'; 0 by the template 'total and deterministic' (their statements: YtmfeaancnkadbaaTotals.lean).
  GIVEN WITH THE SEED: the statements are not yours to turn. If you find one false, say at which input.
  Laid BY PROGRAM, IN A SANDBOX (cutbox-rows.mjs): the forced cells as the released guide's own fill.sh prints them over the translation 2fcb4284db17fc55… (all of the seat's roots in one cut). By AI agents, Wed Nov 11 2026. No macro, syntax, notation, axiom, sorry.
-/
import Derived.Test.YtmfeaancnkadbaaChecked
import GoSem.Claim
import GoSem.ClaimJoined
import GoSem.ClaimMapViews
import Derived.JoinedTies
import Derived.KernelRfl
namespace Go.Proofs.Ytmfeaancnkadbaa
/- THE CELL 'sum', in the pinned program and in every row, IS THE sha256 OF THE DUMP (.gsa) THAT YtmfeaancnkadbaaProg.lean LOADS. Nothing in Lean hashes anything: it is a label: what it is worth is what the hold of that sum in a sandbox is worth. -/
noncomputable def Try.pinned : Pinned := { name := "ytmfeaancnkadbaa", sum := "2fcb4284db17fc55a1b860e5dc22d8a688340d9291a62e04be6076409dfb19d0", checked := Try.checked }
namespace Rows
def none {H : Type} : Left H := { results := [], args := [] }

/-- 'kissgatelaw15.TasAll': WHATEVER THE INPUT: true; the input reads as it did. -/
def tasAllSpec : ChangeSpec := { name := "tasAll", fn := fun _ => fun
  | [d1, d2, d3] => { results := [.lit (.bool true)], args := [d1, d2, d3] }
  | _ => none }
def tasAllRow : OpenClaim := { program := "ytmfeaancnkadbaa", sum := "2fcb4284db17fc55a1b860e5dc22d8a688340d9291a62e04be6076409dfb19d0", func := "kissgate/kissgatelaw15.TasAll", spec := "tasAll", inPlace := ["sync/atomic.CompareAndSwapInt64", "sync/atomic.StoreInt64", "sync/atomic.LoadInt64"], apart := false }
def TasAllSaid : Prop := tasAllRow.holds Try.pinned (OpenSpec.ofChange tasAllSpec)

/-- ITS FALSE NEIGHBOUR: 'it returns false'. Refute it at one input. -/
def tasAllWrong : ChangeSpec := { name := "tasAll", fn := fun _ => fun
  | [d1, d2, d3] => { results := [.lit (.bool false)], args := [d1, d2, d3] }
  | _ => none }
def TasAllWrongFalsely : Prop := tasAllRow.holds Try.pinned (OpenSpec.ofChange tasAllWrong)

/-- 'kissgatelaw15.TasPlays': WHATEVER THE INPUT: true; the input reads as it did. -/
def tasPlaysSpec : ChangeSpec := { name := "tasPlays", fn := fun _ => fun
  | [d1, d2] => { results := [.lit (.bool true)], args := [d1, d2] }
  | _ => none }
def tasPlaysRow : OpenClaim := { program := "ytmfeaancnkadbaa", sum := "2fcb4284db17fc55a1b860e5dc22d8a688340d9291a62e04be6076409dfb19d0", func := "kissgate/kissgatelaw15.TasPlays", spec := "tasPlays", inPlace := ["sync/atomic.CompareAndSwapInt64", "sync/atomic.StoreInt64", "sync/atomic.LoadInt64"], apart := false }
def TasPlaysSaid : Prop := tasPlaysRow.holds Try.pinned (OpenSpec.ofChange tasPlaysSpec)

/-- ITS FALSE NEIGHBOUR: 'it returns false'. Refute it at one input. -/
def tasPlaysWrong : ChangeSpec := { name := "tasPlays", fn := fun _ => fun
  | [d1, d2] => { results := [.lit (.bool false)], args := [d1, d2] }
  | _ => none }
def TasPlaysWrongFalsely : Prop := tasPlaysRow.holds Try.pinned (OpenSpec.ofChange tasPlaysWrong)

/-- 'kissgatelaw15.TasOne': WHATEVER THE INPUT: true; the input reads as it did. -/
def tasOneSpec : ChangeSpec := { name := "tasOne", fn := fun _ => fun
  | [d1, d2, d3] => { results := [.lit (.bool true)], args := [d1, d2, d3] }
  | _ => none }
def tasOneRow : OpenClaim := { program := "ytmfeaancnkadbaa", sum := "2fcb4284db17fc55a1b860e5dc22d8a688340d9291a62e04be6076409dfb19d0", func := "kissgate/kissgatelaw15.TasOne", spec := "tasOne", inPlace := ["sync/atomic.CompareAndSwapInt64", "sync/atomic.StoreInt64", "sync/atomic.LoadInt64"], apart := false }
def TasOneSaid : Prop := tasOneRow.holds Try.pinned (OpenSpec.ofChange tasOneSpec)

/-- ITS FALSE NEIGHBOUR: 'it returns false'. Refute it at one input. -/
def tasOneWrong : ChangeSpec := { name := "tasOne", fn := fun _ => fun
  | [d1, d2, d3] => { results := [.lit (.bool false)], args := [d1, d2, d3] }
  | _ => none }
def TasOneWrongFalsely : Prop := tasOneRow.holds Try.pinned (OpenSpec.ofChange tasOneWrong)

/-- 'kissgatelaw16.TicketOne': WHATEVER THE INPUT: true; the input reads as it did. -/
def ticketOneSpec : ChangeSpec := { name := "ticketOne", fn := fun _ => fun
  | [d1, d2] => { results := [.lit (.bool true)], args := [d1, d2] }
  | _ => none }
def ticketOneRow : OpenClaim := { program := "ytmfeaancnkadbaa", sum := "2fcb4284db17fc55a1b860e5dc22d8a688340d9291a62e04be6076409dfb19d0", func := "kissgate/kissgatelaw16.TicketOne", spec := "ticketOne", inPlace := ["sync/atomic.AddInt64", "sync/atomic.LoadInt64", "sync/atomic.StoreInt64"], apart := false }
def TicketOneSaid : Prop := ticketOneRow.holds Try.pinned (OpenSpec.ofChange ticketOneSpec)

/-- ITS FALSE NEIGHBOUR: 'it returns false'. Refute it at one input. -/
def ticketOneWrong : ChangeSpec := { name := "ticketOne", fn := fun _ => fun
  | [d1, d2] => { results := [.lit (.bool false)], args := [d1, d2] }
  | _ => none }
def TicketOneWrongFalsely : Prop := ticketOneRow.holds Try.pinned (OpenSpec.ofChange ticketOneWrong)

/-- 'kissgatelaw16.TicketOrder': WHATEVER THE INPUT: true; the input reads as it did. -/
def ticketOrderSpec : ChangeSpec := { name := "ticketOrder", fn := fun _ => fun
  | [d1, d2] => { results := [.lit (.bool true)], args := [d1, d2] }
  | _ => none }
def ticketOrderRow : OpenClaim := { program := "ytmfeaancnkadbaa", sum := "2fcb4284db17fc55a1b860e5dc22d8a688340d9291a62e04be6076409dfb19d0", func := "kissgate/kissgatelaw16.TicketOrder", spec := "ticketOrder", inPlace := ["sync/atomic.AddInt64", "sync/atomic.LoadInt64", "sync/atomic.StoreInt64"], apart := false }
def TicketOrderSaid : Prop := ticketOrderRow.holds Try.pinned (OpenSpec.ofChange ticketOrderSpec)

/-- ITS FALSE NEIGHBOUR: 'it returns false'. Refute it at one input. -/
def ticketOrderWrong : ChangeSpec := { name := "ticketOrder", fn := fun _ => fun
  | [d1, d2] => { results := [.lit (.bool false)], args := [d1, d2] }
  | _ => none }
def TicketOrderWrongFalsely : Prop := ticketOrderRow.holds Try.pinned (OpenSpec.ofChange ticketOrderWrong)

/- THE SECOND FORM. 'bulk': how many values and letters a reading holds, each counted each time it is reached (what is shared counts as often as it is met; a slice's spare places count too). A statement '..UptoSaid' is the law's where the arguments, and the package variables that the reading takes, are together of bulk at most 1048576: NARROWER than '..Said'. Prove '..Said' where nothing that the law and all that it calls make is longer than what came in: it says more and counts as full. Else prove '..UptoSaid'. A law counts once. -/
mutual
def uptoBulk {H : Type} : DataW H → Nat
  | .lit (.string bytes) => bytes.length + 1
  | .lit _ => 1
  | .nil => 1
  | .ptr d => uptoBulk d + 1
  | .slice elems spare => uptoBulkAll elems + uptoBulkAll spare + 1
  | .agg parts => uptoBulkAll parts + 1
  | .iface _ d => uptoBulk d + 1
  | .map entries => uptoBulkEntries entries + 1
  | .held _ => 1
def uptoBulkAll {H : Type} : List (DataW H) → Nat
  | [] => 0
  | d :: r => uptoBulk d + uptoBulkAll r
def uptoBulkEntries {H : Type} : List (Lit × DataW H) → Nat
  | [] => 0
  | x :: r => uptoBulkEntry x + uptoBulkEntries r
def uptoBulkEntry {H : Type} : Lit × DataW H → Nat
  | (.string bytes, d) => bytes.length + uptoBulk d + 1
  | (_, d) => uptoBulk d + 1
 end
def uptoSmall : (H : Type) → List (DataW H) → Bool := fun _ ds => decide (uptoBulkAll ds ≤ 1048576)
def OpenSpec.upto (s : _root_.Go.ChangeSpec) : _root_.Go.OpenSpec := { _root_.Go.OpenSpec.ofChange s with cond := some uptoSmall }

/-- 'kissgatelaw15.TasAll', WHERE WHAT IT READS IS OF BULK AT MOST 1048576: true; the input reads as it did. -/
def tasAllUptoRow : OpenClaim := { program := "ytmfeaancnkadbaa", sum := "2fcb4284db17fc55a1b860e5dc22d8a688340d9291a62e04be6076409dfb19d0", func := "kissgate/kissgatelaw15.TasAll", spec := "tasAll", inPlace := ["sync/atomic.CompareAndSwapInt64", "sync/atomic.StoreInt64", "sync/atomic.LoadInt64"], apart := false, narrowed := true }
def TasAllUptoSaid : Prop := tasAllUptoRow.holds Try.pinned (OpenSpec.upto tasAllSpec)

/-- 'kissgatelaw15.TasPlays', WHERE WHAT IT READS IS OF BULK AT MOST 1048576: true; the input reads as it did. -/
def tasPlaysUptoRow : OpenClaim := { program := "ytmfeaancnkadbaa", sum := "2fcb4284db17fc55a1b860e5dc22d8a688340d9291a62e04be6076409dfb19d0", func := "kissgate/kissgatelaw15.TasPlays", spec := "tasPlays", inPlace := ["sync/atomic.CompareAndSwapInt64", "sync/atomic.StoreInt64", "sync/atomic.LoadInt64"], apart := false, narrowed := true }
def TasPlaysUptoSaid : Prop := tasPlaysUptoRow.holds Try.pinned (OpenSpec.upto tasPlaysSpec)

/-- 'kissgatelaw15.TasOne', WHERE WHAT IT READS IS OF BULK AT MOST 1048576: true; the input reads as it did. -/
def tasOneUptoRow : OpenClaim := { program := "ytmfeaancnkadbaa", sum := "2fcb4284db17fc55a1b860e5dc22d8a688340d9291a62e04be6076409dfb19d0", func := "kissgate/kissgatelaw15.TasOne", spec := "tasOne", inPlace := ["sync/atomic.CompareAndSwapInt64", "sync/atomic.StoreInt64", "sync/atomic.LoadInt64"], apart := false, narrowed := true }
def TasOneUptoSaid : Prop := tasOneUptoRow.holds Try.pinned (OpenSpec.upto tasOneSpec)

/-- 'kissgatelaw16.TicketOne', WHERE WHAT IT READS IS OF BULK AT MOST 1048576: true; the input reads as it did. -/
def ticketOneUptoRow : OpenClaim := { program := "ytmfeaancnkadbaa", sum := "2fcb4284db17fc55a1b860e5dc22d8a688340d9291a62e04be6076409dfb19d0", func := "kissgate/kissgatelaw16.TicketOne", spec := "ticketOne", inPlace := ["sync/atomic.AddInt64", "sync/atomic.LoadInt64", "sync/atomic.StoreInt64"], apart := false, narrowed := true }
def TicketOneUptoSaid : Prop := ticketOneUptoRow.holds Try.pinned (OpenSpec.upto ticketOneSpec)

/-- 'kissgatelaw16.TicketOrder', WHERE WHAT IT READS IS OF BULK AT MOST 1048576: true; the input reads as it did. -/
def ticketOrderUptoRow : OpenClaim := { program := "ytmfeaancnkadbaa", sum := "2fcb4284db17fc55a1b860e5dc22d8a688340d9291a62e04be6076409dfb19d0", func := "kissgate/kissgatelaw16.TicketOrder", spec := "ticketOrder", inPlace := ["sync/atomic.AddInt64", "sync/atomic.LoadInt64", "sync/atomic.StoreInt64"], apart := false, narrowed := true }
def TicketOrderUptoSaid : Prop := ticketOrderUptoRow.holds Try.pinned (OpenSpec.upto ticketOrderSpec)

end Rows
end Go.Proofs.Ytmfeaancnkadbaa
