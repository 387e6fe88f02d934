/-
  No cell of these rows narrows 'for every input' (looked for: loops, veiled, ifaces, maps, wideKeys, modest, calm, conditions, laid).
  DERIVED. THE GIVEN ROWS OF THIS SEAT. 11 by the template 'for every input the law returns true; each argument reads behind the call as it read before'; 0 by the template 'total and deterministic' (their statements: YticbhgjenidjlaaTotals.lean).
  GIVEN WITH THE SEED: the statements are not yours to turn. If you find one false, say at which input.
  Laid BY PROGRAM, IN A SANDBOX (cutbox-rows.mjs): the forced cells as the released guide's own fill.sh prints them over the translation ee594eb9a07ea610… (all of the seat's roots in one cut). By AI agents, Wed Nov 11 2026. No macro, syntax, notation, axiom, sorry.
-/
import Derived.Test.YticbhgjenidjlaaChecked
import GoSem.Claim
import GoSem.ClaimJoined
import GoSem.ClaimMapViews
import Derived.JoinedTies
import Derived.KernelRfl
namespace Go.Proofs.Yticbhgjenidjlaa
/- THE CELL 'sum', in the pinned program and in every row, IS THE sha256 OF THE DUMP (.gsa) THAT YticbhgjenidjlaaProg.lean LOADS. Nothing in Lean hashes anything: it is a label: what it is worth is what the hold of that sum in a sandbox is worth. -/
noncomputable def Try.pinned : Pinned := { name := "yticbhgjenidjlaa", sum := "ee594eb9a07ea610a4b7e525cc081f3d287ee31a2c22d208e33a0685931d3b31", checked := Try.checked }
namespace Rows
def none {H : Type} : Left H := { results := [], args := [] }

/-- 'acmelaw01.ThreadChecks': WHATEVER THE INPUT: true; the input reads as it did. -/
def threadChecksSpec : ChangeSpec := { name := "threadChecks", fn := fun _ => fun
  | [d1, d2] => { results := [.lit (.bool true)], args := [d1, d2] }
  | _ => none }
def threadChecksRow : OpenClaim := { program := "yticbhgjenidjlaa", sum := "ee594eb9a07ea610a4b7e525cc081f3d287ee31a2c22d208e33a0685931d3b31", func := "acme/acmelaw01.ThreadChecks", spec := "threadChecks", unfollowed := true, recurses := true, plainKeys := false, apart := false }
def ThreadChecksSaid : Prop := threadChecksRow.holds Try.pinned (OpenSpec.ofChange threadChecksSpec)

/-- ITS FALSE NEIGHBOUR: 'it returns false'. Refute it at one input. -/
def threadChecksWrong : ChangeSpec := { name := "threadChecks", fn := fun _ => fun
  | [d1, d2] => { results := [.lit (.bool false)], args := [d1, d2] }
  | _ => none }
def ThreadChecksWrongFalsely : Prop := threadChecksRow.holds Try.pinned (OpenSpec.ofChange threadChecksWrong)

/-- 'acmelaw01.ThreadAreas': WHATEVER THE INPUT: true; the input reads as it did. -/
def threadAreasSpec : ChangeSpec := { name := "threadAreas", fn := fun _ => fun
  | [d1, d2, d3] => { results := [.lit (.bool true)], args := [d1, d2, d3] }
  | _ => none }
def threadAreasRow : OpenClaim := { program := "yticbhgjenidjlaa", sum := "ee594eb9a07ea610a4b7e525cc081f3d287ee31a2c22d208e33a0685931d3b31", func := "acme/acmelaw01.ThreadAreas", spec := "threadAreas", unfollowed := true, recurses := true, plainKeys := false, apart := false }
def ThreadAreasSaid : Prop := threadAreasRow.holds Try.pinned (OpenSpec.ofChange threadAreasSpec)

/-- ITS FALSE NEIGHBOUR: 'it returns false'. Refute it at one input. -/
def threadAreasWrong : ChangeSpec := { name := "threadAreas", fn := fun _ => fun
  | [d1, d2, d3] => { results := [.lit (.bool false)], args := [d1, d2, d3] }
  | _ => none }
def ThreadAreasWrongFalsely : Prop := threadAreasRow.holds Try.pinned (OpenSpec.ofChange threadAreasWrong)

/-- 'acmelaw01.ThreadMoves': WHATEVER THE INPUT: true; the input reads as it did. -/
def threadMovesSpec : ChangeSpec := { name := "threadMoves", fn := fun _ => fun
  | [d1, d2] => { results := [.lit (.bool true)], args := [d1, d2] }
  | _ => none }
def threadMovesRow : OpenClaim := { program := "yticbhgjenidjlaa", sum := "ee594eb9a07ea610a4b7e525cc081f3d287ee31a2c22d208e33a0685931d3b31", func := "acme/acmelaw01.ThreadMoves", spec := "threadMoves", unfollowed := true, recurses := true, plainKeys := false, apart := false }
def ThreadMovesSaid : Prop := threadMovesRow.holds Try.pinned (OpenSpec.ofChange threadMovesSpec)

/-- ITS FALSE NEIGHBOUR: 'it returns false'. Refute it at one input. -/
def threadMovesWrong : ChangeSpec := { name := "threadMoves", fn := fun _ => fun
  | [d1, d2] => { results := [.lit (.bool false)], args := [d1, d2] }
  | _ => none }
def ThreadMovesWrongFalsely : Prop := threadMovesRow.holds Try.pinned (OpenSpec.ofChange threadMovesWrong)

/-- 'acmelaw01.ThreadRooms': WHATEVER THE INPUT: true; the input reads as it did. -/
def threadRoomsSpec : ChangeSpec := { name := "threadRooms", fn := fun _ => fun
  | [d1, d2, d3] => { results := [.lit (.bool true)], args := [d1, d2, d3] }
  | _ => none }
def threadRoomsRow : OpenClaim := { program := "yticbhgjenidjlaa", sum := "ee594eb9a07ea610a4b7e525cc081f3d287ee31a2c22d208e33a0685931d3b31", func := "acme/acmelaw01.ThreadRooms", spec := "threadRooms", unfollowed := true, recurses := true, plainKeys := false, apart := false }
def ThreadRoomsSaid : Prop := threadRoomsRow.holds Try.pinned (OpenSpec.ofChange threadRoomsSpec)

/-- ITS FALSE NEIGHBOUR: 'it returns false'. Refute it at one input. -/
def threadRoomsWrong : ChangeSpec := { name := "threadRooms", fn := fun _ => fun
  | [d1, d2, d3] => { results := [.lit (.bool false)], args := [d1, d2, d3] }
  | _ => none }
def ThreadRoomsWrongFalsely : Prop := threadRoomsRow.holds Try.pinned (OpenSpec.ofChange threadRoomsWrong)

/-- 'acmelaw01.ThreadAgrees': WHATEVER THE INPUT: true; the input reads as it did. -/
def threadAgreesSpec : ChangeSpec := { name := "threadAgrees", fn := fun _ => fun
  | [d1, d2, d3] => { results := [.lit (.bool true)], args := [d1, d2, d3] }
  | _ => none }
def threadAgreesRow : OpenClaim := { program := "yticbhgjenidjlaa", sum := "ee594eb9a07ea610a4b7e525cc081f3d287ee31a2c22d208e33a0685931d3b31", func := "acme/acmelaw01.ThreadAgrees", spec := "threadAgrees", unfollowed := true, recurses := true, plainKeys := false, apart := false }
def ThreadAgreesSaid : Prop := threadAgreesRow.holds Try.pinned (OpenSpec.ofChange threadAgreesSpec)

/-- ITS FALSE NEIGHBOUR: 'it returns false'. Refute it at one input. -/
def threadAgreesWrong : ChangeSpec := { name := "threadAgrees", fn := fun _ => fun
  | [d1, d2, d3] => { results := [.lit (.bool false)], args := [d1, d2, d3] }
  | _ => none }
def ThreadAgreesWrongFalsely : Prop := threadAgreesRow.holds Try.pinned (OpenSpec.ofChange threadAgreesWrong)

/-- 'acmelaw01.ThreadTooth': WHATEVER THE INPUT: true; the input reads as it did. -/
def threadToothSpec : ChangeSpec := { name := "threadTooth", fn := fun _ => fun
  | [d1, d2] => { results := [.lit (.bool true)], args := [d1, d2] }
  | _ => none }
def threadToothRow : OpenClaim := { program := "yticbhgjenidjlaa", sum := "ee594eb9a07ea610a4b7e525cc081f3d287ee31a2c22d208e33a0685931d3b31", func := "acme/acmelaw01.ThreadTooth", spec := "threadTooth", unfollowed := true, recurses := true, plainKeys := false, apart := false }
def ThreadToothSaid : Prop := threadToothRow.holds Try.pinned (OpenSpec.ofChange threadToothSpec)

/-- ITS FALSE NEIGHBOUR: 'it returns false'. Refute it at one input. -/
def threadToothWrong : ChangeSpec := { name := "threadTooth", fn := fun _ => fun
  | [d1, d2] => { results := [.lit (.bool false)], args := [d1, d2] }
  | _ => none }
def ThreadToothWrongFalsely : Prop := threadToothRow.holds Try.pinned (OpenSpec.ofChange threadToothWrong)

/-- 'acmelaw01.ThreadMeet': WHATEVER THE INPUT: true; the input reads as it did. -/
def threadMeetSpec : ChangeSpec := { name := "threadMeet", fn := fun _ => fun
  | [d1, d2] => { results := [.lit (.bool true)], args := [d1, d2] }
  | _ => none }
def threadMeetRow : OpenClaim := { program := "yticbhgjenidjlaa", sum := "ee594eb9a07ea610a4b7e525cc081f3d287ee31a2c22d208e33a0685931d3b31", func := "acme/acmelaw01.ThreadMeet", spec := "threadMeet", unfollowed := true, recurses := true, plainKeys := false, apart := false }
def ThreadMeetSaid : Prop := threadMeetRow.holds Try.pinned (OpenSpec.ofChange threadMeetSpec)

/-- ITS FALSE NEIGHBOUR: 'it returns false'. Refute it at one input. -/
def threadMeetWrong : ChangeSpec := { name := "threadMeet", fn := fun _ => fun
  | [d1, d2] => { results := [.lit (.bool false)], args := [d1, d2] }
  | _ => none }
def ThreadMeetWrongFalsely : Prop := threadMeetRow.holds Try.pinned (OpenSpec.ofChange threadMeetWrong)

/-- 'acmelaw01.ThreadTurns': WHATEVER THE INPUT: true; the input reads as it did. -/
def threadTurnsSpec : ChangeSpec := { name := "threadTurns", fn := fun _ => fun
  | [d1, d2, d3] => { results := [.lit (.bool true)], args := [d1, d2, d3] }
  | _ => none }
def threadTurnsRow : OpenClaim := { program := "yticbhgjenidjlaa", sum := "ee594eb9a07ea610a4b7e525cc081f3d287ee31a2c22d208e33a0685931d3b31", func := "acme/acmelaw01.ThreadTurns", spec := "threadTurns", unfollowed := true, recurses := true, plainKeys := false, apart := false }
def ThreadTurnsSaid : Prop := threadTurnsRow.holds Try.pinned (OpenSpec.ofChange threadTurnsSpec)

/-- ITS FALSE NEIGHBOUR: 'it returns false'. Refute it at one input. -/
def threadTurnsWrong : ChangeSpec := { name := "threadTurns", fn := fun _ => fun
  | [d1, d2, d3] => { results := [.lit (.bool false)], args := [d1, d2, d3] }
  | _ => none }
def ThreadTurnsWrongFalsely : Prop := threadTurnsRow.holds Try.pinned (OpenSpec.ofChange threadTurnsWrong)

/-- 'acmelaw01.ThreadTapers': WHATEVER THE INPUT: true; the input reads as it did. -/
def threadTapersSpec : ChangeSpec := { name := "threadTapers", fn := fun _ => fun
  | [d1, d2, d3] => { results := [.lit (.bool true)], args := [d1, d2, d3] }
  | _ => none }
def threadTapersRow : OpenClaim := { program := "yticbhgjenidjlaa", sum := "ee594eb9a07ea610a4b7e525cc081f3d287ee31a2c22d208e33a0685931d3b31", func := "acme/acmelaw01.ThreadTapers", spec := "threadTapers", unfollowed := true, recurses := true, plainKeys := false, apart := false }
def ThreadTapersSaid : Prop := threadTapersRow.holds Try.pinned (OpenSpec.ofChange threadTapersSpec)

/-- ITS FALSE NEIGHBOUR: 'it returns false'. Refute it at one input. -/
def threadTapersWrong : ChangeSpec := { name := "threadTapers", fn := fun _ => fun
  | [d1, d2, d3] => { results := [.lit (.bool false)], args := [d1, d2, d3] }
  | _ => none }
def ThreadTapersWrongFalsely : Prop := threadTapersRow.holds Try.pinned (OpenSpec.ofChange threadTapersWrong)

/-- 'acmelaw01.ThreadRoom': WHATEVER THE INPUT: true; the input reads as it did. -/
def threadRoomSpec : ChangeSpec := { name := "threadRoom", fn := fun _ => fun
  | [d1, d2, d3] => { results := [.lit (.bool true)], args := [d1, d2, d3] }
  | _ => none }
def threadRoomRow : OpenClaim := { program := "yticbhgjenidjlaa", sum := "ee594eb9a07ea610a4b7e525cc081f3d287ee31a2c22d208e33a0685931d3b31", func := "acme/acmelaw01.ThreadRoom", spec := "threadRoom", unfollowed := true, recurses := true, plainKeys := false, apart := false }
def ThreadRoomSaid : Prop := threadRoomRow.holds Try.pinned (OpenSpec.ofChange threadRoomSpec)

/-- ITS FALSE NEIGHBOUR: 'it returns false'. Refute it at one input. -/
def threadRoomWrong : ChangeSpec := { name := "threadRoom", fn := fun _ => fun
  | [d1, d2, d3] => { results := [.lit (.bool false)], args := [d1, d2, d3] }
  | _ => none }
def ThreadRoomWrongFalsely : Prop := threadRoomRow.holds Try.pinned (OpenSpec.ofChange threadRoomWrong)

/-- 'acmelaw01.ThreadTold': WHATEVER THE INPUT: true; the input reads as it did. -/
def threadToldSpec : ChangeSpec := { name := "threadTold", fn := fun _ => fun
  | [d1, d2, d3] => { results := [.lit (.bool true)], args := [d1, d2, d3] }
  | _ => none }
def threadToldRow : OpenClaim := { program := "yticbhgjenidjlaa", sum := "ee594eb9a07ea610a4b7e525cc081f3d287ee31a2c22d208e33a0685931d3b31", func := "acme/acmelaw01.ThreadTold", spec := "threadTold", unfollowed := true, recurses := true, plainKeys := false, apart := false }
def ThreadToldSaid : Prop := threadToldRow.holds Try.pinned (OpenSpec.ofChange threadToldSpec)

/-- ITS FALSE NEIGHBOUR: 'it returns false'. Refute it at one input. -/
def threadToldWrong : ChangeSpec := { name := "threadTold", fn := fun _ => fun
  | [d1, d2, d3] => { results := [.lit (.bool false)], args := [d1, d2, d3] }
  | _ => none }
def ThreadToldWrongFalsely : Prop := threadToldRow.holds Try.pinned (OpenSpec.ofChange threadToldWrong)

/- THE SECOND FORM. 'bulk': how many values and letters a reading holds, each counted each time it is reached (what is shared counts as often as it is met; a slice's spare places count too). A statement '..UptoSaid' is the law's where the arguments, and the package variables that the reading takes, are together of bulk at most 1048576: NARROWER than '..Said'. Prove '..Said' where nothing that the law and all that it calls make is longer than what came in: it says more and counts as full. Else prove '..UptoSaid'. A law counts once. -/
mutual
def uptoBulk {H : Type} : DataW H → Nat
  | .lit (.string bytes) => bytes.length + 1
  | .lit _ => 1
  | .nil => 1
  | .ptr d => uptoBulk d + 1
  | .slice elems spare => uptoBulkAll elems + uptoBulkAll spare + 1
  | .agg parts => uptoBulkAll parts + 1
  | .iface _ d => uptoBulk d + 1
  | .map entries => uptoBulkEntries entries + 1
  | .held _ => 1
def uptoBulkAll {H : Type} : List (DataW H) → Nat
  | [] => 0
  | d :: r => uptoBulk d + uptoBulkAll r
def uptoBulkEntries {H : Type} : List (Lit × DataW H) → Nat
  | [] => 0
  | x :: r => uptoBulkEntry x + uptoBulkEntries r
def uptoBulkEntry {H : Type} : Lit × DataW H → Nat
  | (.string bytes, d) => bytes.length + uptoBulk d + 1
  | (_, d) => uptoBulk d + 1
 end
def uptoSmall : (H : Type) → List (DataW H) → Bool := fun _ ds => decide (uptoBulkAll ds ≤ 1048576)
def OpenSpec.upto (s : _root_.Go.ChangeSpec) : _root_.Go.OpenSpec := { _root_.Go.OpenSpec.ofChange s with cond := some uptoSmall }

/-- 'acmelaw01.ThreadChecks', WHERE WHAT IT READS IS OF BULK AT MOST 1048576: true; the input reads as it did. -/
def threadChecksUptoRow : OpenClaim := { program := "yticbhgjenidjlaa", sum := "ee594eb9a07ea610a4b7e525cc081f3d287ee31a2c22d208e33a0685931d3b31", func := "acme/acmelaw01.ThreadChecks", spec := "threadChecks", unfollowed := true, recurses := true, plainKeys := false, apart := false, narrowed := true }
def ThreadChecksUptoSaid : Prop := threadChecksUptoRow.holds Try.pinned (OpenSpec.upto threadChecksSpec)

/-- 'acmelaw01.ThreadAreas', WHERE WHAT IT READS IS OF BULK AT MOST 1048576: true; the input reads as it did. -/
def threadAreasUptoRow : OpenClaim := { program := "yticbhgjenidjlaa", sum := "ee594eb9a07ea610a4b7e525cc081f3d287ee31a2c22d208e33a0685931d3b31", func := "acme/acmelaw01.ThreadAreas", spec := "threadAreas", unfollowed := true, recurses := true, plainKeys := false, apart := false, narrowed := true }
def ThreadAreasUptoSaid : Prop := threadAreasUptoRow.holds Try.pinned (OpenSpec.upto threadAreasSpec)

/-- 'acmelaw01.ThreadMoves', WHERE WHAT IT READS IS OF BULK AT MOST 1048576: true; the input reads as it did. -/
def threadMovesUptoRow : OpenClaim := { program := "yticbhgjenidjlaa", sum := "ee594eb9a07ea610a4b7e525cc081f3d287ee31a2c22d208e33a0685931d3b31", func := "acme/acmelaw01.ThreadMoves", spec := "threadMoves", unfollowed := true, recurses := true, plainKeys := false, apart := false, narrowed := true }
def ThreadMovesUptoSaid : Prop := threadMovesUptoRow.holds Try.pinned (OpenSpec.upto threadMovesSpec)

/-- 'acmelaw01.ThreadRooms', WHERE WHAT IT READS IS OF BULK AT MOST 1048576: true; the input reads as it did. -/
def threadRoomsUptoRow : OpenClaim := { program := "yticbhgjenidjlaa", sum := "ee594eb9a07ea610a4b7e525cc081f3d287ee31a2c22d208e33a0685931d3b31", func := "acme/acmelaw01.ThreadRooms", spec := "threadRooms", unfollowed := true, recurses := true, plainKeys := false, apart := false, narrowed := true }
def ThreadRoomsUptoSaid : Prop := threadRoomsUptoRow.holds Try.pinned (OpenSpec.upto threadRoomsSpec)

/-- 'acmelaw01.ThreadAgrees', WHERE WHAT IT READS IS OF BULK AT MOST 1048576: true; the input reads as it did. -/
def threadAgreesUptoRow : OpenClaim := { program := "yticbhgjenidjlaa", sum := "ee594eb9a07ea610a4b7e525cc081f3d287ee31a2c22d208e33a0685931d3b31", func := "acme/acmelaw01.ThreadAgrees", spec := "threadAgrees", unfollowed := true, recurses := true, plainKeys := false, apart := false, narrowed := true }
def ThreadAgreesUptoSaid : Prop := threadAgreesUptoRow.holds Try.pinned (OpenSpec.upto threadAgreesSpec)

/-- 'acmelaw01.ThreadTooth', WHERE WHAT IT READS IS OF BULK AT MOST 1048576: true; the input reads as it did. -/
def threadToothUptoRow : OpenClaim := { program := "yticbhgjenidjlaa", sum := "ee594eb9a07ea610a4b7e525cc081f3d287ee31a2c22d208e33a0685931d3b31", func := "acme/acmelaw01.ThreadTooth", spec := "threadTooth", unfollowed := true, recurses := true, plainKeys := false, apart := false, narrowed := true }
def ThreadToothUptoSaid : Prop := threadToothUptoRow.holds Try.pinned (OpenSpec.upto threadToothSpec)

/-- 'acmelaw01.ThreadMeet', WHERE WHAT IT READS IS OF BULK AT MOST 1048576: true; the input reads as it did. -/
def threadMeetUptoRow : OpenClaim := { program := "yticbhgjenidjlaa", sum := "ee594eb9a07ea610a4b7e525cc081f3d287ee31a2c22d208e33a0685931d3b31", func := "acme/acmelaw01.ThreadMeet", spec := "threadMeet", unfollowed := true, recurses := true, plainKeys := false, apart := false, narrowed := true }
def ThreadMeetUptoSaid : Prop := threadMeetUptoRow.holds Try.pinned (OpenSpec.upto threadMeetSpec)

/-- 'acmelaw01.ThreadTurns', WHERE WHAT IT READS IS OF BULK AT MOST 1048576: true; the input reads as it did. -/
def threadTurnsUptoRow : OpenClaim := { program := "yticbhgjenidjlaa", sum := "ee594eb9a07ea610a4b7e525cc081f3d287ee31a2c22d208e33a0685931d3b31", func := "acme/acmelaw01.ThreadTurns", spec := "threadTurns", unfollowed := true, recurses := true, plainKeys := false, apart := false, narrowed := true }
def ThreadTurnsUptoSaid : Prop := threadTurnsUptoRow.holds Try.pinned (OpenSpec.upto threadTurnsSpec)

/-- 'acmelaw01.ThreadTapers', WHERE WHAT IT READS IS OF BULK AT MOST 1048576: true; the input reads as it did. -/
def threadTapersUptoRow : OpenClaim := { program := "yticbhgjenidjlaa", sum := "ee594eb9a07ea610a4b7e525cc081f3d287ee31a2c22d208e33a0685931d3b31", func := "acme/acmelaw01.ThreadTapers", spec := "threadTapers", unfollowed := true, recurses := true, plainKeys := false, apart := false, narrowed := true }
def ThreadTapersUptoSaid : Prop := threadTapersUptoRow.holds Try.pinned (OpenSpec.upto threadTapersSpec)

/-- 'acmelaw01.ThreadRoom', WHERE WHAT IT READS IS OF BULK AT MOST 1048576: true; the input reads as it did. -/
def threadRoomUptoRow : OpenClaim := { program := "yticbhgjenidjlaa", sum := "ee594eb9a07ea610a4b7e525cc081f3d287ee31a2c22d208e33a0685931d3b31", func := "acme/acmelaw01.ThreadRoom", spec := "threadRoom", unfollowed := true, recurses := true, plainKeys := false, apart := false, narrowed := true }
def ThreadRoomUptoSaid : Prop := threadRoomUptoRow.holds Try.pinned (OpenSpec.upto threadRoomSpec)

/-- 'acmelaw01.ThreadTold', WHERE WHAT IT READS IS OF BULK AT MOST 1048576: true; the input reads as it did. -/
def threadToldUptoRow : OpenClaim := { program := "yticbhgjenidjlaa", sum := "ee594eb9a07ea610a4b7e525cc081f3d287ee31a2c22d208e33a0685931d3b31", func := "acme/acmelaw01.ThreadTold", spec := "threadTold", unfollowed := true, recurses := true, plainKeys := false, apart := false, narrowed := true }
def ThreadToldUptoSaid : Prop := threadToldUptoRow.holds Try.pinned (OpenSpec.upto threadToldSpec)

end Rows
end Go.Proofs.Yticbhgjenidjlaa
