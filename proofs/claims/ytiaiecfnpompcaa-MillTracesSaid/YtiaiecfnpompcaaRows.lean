/-
  No cell of these rows narrows 'for every input' (looked for: loops, veiled, ifaces, maps, wideKeys, modest, calm, conditions, laid).
  DERIVED. THE GIVEN ROWS OF THIS SEAT. 11 by the template 'for every input the law returns true; each argument reads behind the call as it read before'; 0 by the template 'total and deterministic' (their statements: YtiaiecfnpompcaaTotals.lean).
  GIVEN WITH THE SEED: the statements are not yours to turn. If you find one false, say at which input.
  Laid BY PROGRAM, IN A SANDBOX (cutbox-rows.mjs): the forced cells as the released guide's own fill.sh prints them over the translation 569b480f356c6863… (all of the seat's roots in one cut). By AI agents, Wed Nov 11 2026. No macro, syntax, notation, axiom, sorry.
-/
import Derived.Test.YtiaiecfnpompcaaChecked
import GoSem.Claim
import GoSem.ClaimJoined
import GoSem.ClaimMapViews
import Derived.JoinedTies
import Derived.KernelRfl
namespace Go.Proofs.Ytiaiecfnpompcaa
/- THE CELL 'sum', in the pinned program and in every row, IS THE sha256 OF THE DUMP (.gsa) THAT YtiaiecfnpompcaaProg.lean LOADS. Nothing in Lean hashes anything: it is a label: what it is worth is what the hold of that sum in a sandbox is worth. -/
noncomputable def Try.pinned : Pinned := { name := "ytiaiecfnpompcaa", sum := "569b480f356c686308bd4eb68591efd6cccb551508190f2963e9ecc208903cd5", checked := Try.checked }
namespace Rows
def none {H : Type} : Left H := { results := [], args := [] }

/-- 'acmelaw12.MillDraws': WHATEVER THE INPUT: true; the input reads as it did. -/
def millDrawsSpec : ChangeSpec := { name := "millDraws", fn := fun _ => fun
  | [d1, d2, d3] => { results := [.lit (.bool true)], args := [d1, d2, d3] }
  | _ => none }
def millDrawsRow : OpenClaim := { program := "ytiaiecfnpompcaa", sum := "569b480f356c686308bd4eb68591efd6cccb551508190f2963e9ecc208903cd5", func := "acme/acmelaw12.MillDraws", spec := "millDraws", unfollowed := true, recurses := true, plainKeys := false, apart := false }
def MillDrawsSaid : Prop := millDrawsRow.holds Try.pinned (OpenSpec.ofChange millDrawsSpec)

/-- ITS FALSE NEIGHBOUR: 'it returns false'. Refute it at one input. -/
def millDrawsWrong : ChangeSpec := { name := "millDraws", fn := fun _ => fun
  | [d1, d2, d3] => { results := [.lit (.bool false)], args := [d1, d2, d3] }
  | _ => none }
def MillDrawsWrongFalsely : Prop := millDrawsRow.holds Try.pinned (OpenSpec.ofChange millDrawsWrong)

/-- 'acmelaw12.MillBlanks': WHATEVER THE INPUT: true; the input reads as it did. -/
def millBlanksSpec : ChangeSpec := { name := "millBlanks", fn := fun _ => fun
  | [d1, d2, d3] => { results := [.lit (.bool true)], args := [d1, d2, d3] }
  | _ => none }
def millBlanksRow : OpenClaim := { program := "ytiaiecfnpompcaa", sum := "569b480f356c686308bd4eb68591efd6cccb551508190f2963e9ecc208903cd5", func := "acme/acmelaw12.MillBlanks", spec := "millBlanks", unfollowed := true, recurses := true, plainKeys := false, apart := false }
def MillBlanksSaid : Prop := millBlanksRow.holds Try.pinned (OpenSpec.ofChange millBlanksSpec)

/-- ITS FALSE NEIGHBOUR: 'it returns false'. Refute it at one input. -/
def millBlanksWrong : ChangeSpec := { name := "millBlanks", fn := fun _ => fun
  | [d1, d2, d3] => { results := [.lit (.bool false)], args := [d1, d2, d3] }
  | _ => none }
def MillBlanksWrongFalsely : Prop := millBlanksRow.holds Try.pinned (OpenSpec.ofChange millBlanksWrong)

/-- 'acmelaw12.MillShares': WHATEVER THE INPUT: true; the input reads as it did. -/
def millSharesSpec : ChangeSpec := { name := "millShares", fn := fun _ => fun
  | [d1, d2] => { results := [.lit (.bool true)], args := [d1, d2] }
  | _ => none }
def millSharesRow : OpenClaim := { program := "ytiaiecfnpompcaa", sum := "569b480f356c686308bd4eb68591efd6cccb551508190f2963e9ecc208903cd5", func := "acme/acmelaw12.MillShares", spec := "millShares", unfollowed := true, recurses := true, plainKeys := false, apart := false }
def MillSharesSaid : Prop := millSharesRow.holds Try.pinned (OpenSpec.ofChange millSharesSpec)

/-- ITS FALSE NEIGHBOUR: 'it returns false'. Refute it at one input. -/
def millSharesWrong : ChangeSpec := { name := "millShares", fn := fun _ => fun
  | [d1, d2] => { results := [.lit (.bool false)], args := [d1, d2] }
  | _ => none }
def MillSharesWrongFalsely : Prop := millSharesRow.holds Try.pinned (OpenSpec.ofChange millSharesWrong)

/-- 'acmelaw12.MillCauses': WHATEVER THE INPUT: true; the input reads as it did. -/
def millCausesSpec : ChangeSpec := { name := "millCauses", fn := fun _ => fun
  | [d1, d2] => { results := [.lit (.bool true)], args := [d1, d2] }
  | _ => none }
def millCausesRow : OpenClaim := { program := "ytiaiecfnpompcaa", sum := "569b480f356c686308bd4eb68591efd6cccb551508190f2963e9ecc208903cd5", func := "acme/acmelaw12.MillCauses", spec := "millCauses", unfollowed := true, recurses := true, plainKeys := false, apart := false }
def MillCausesSaid : Prop := millCausesRow.holds Try.pinned (OpenSpec.ofChange millCausesSpec)

/-- ITS FALSE NEIGHBOUR: 'it returns false'. Refute it at one input. -/
def millCausesWrong : ChangeSpec := { name := "millCauses", fn := fun _ => fun
  | [d1, d2] => { results := [.lit (.bool false)], args := [d1, d2] }
  | _ => none }
def MillCausesWrongFalsely : Prop := millCausesRow.holds Try.pinned (OpenSpec.ofChange millCausesWrong)

/-- 'acmelaw12.MillCulprits': WHATEVER THE INPUT: true; the input reads as it did. -/
def millCulpritsSpec : ChangeSpec := { name := "millCulprits", fn := fun _ => fun
  | [d1, d2, d3] => { results := [.lit (.bool true)], args := [d1, d2, d3] }
  | _ => none }
def millCulpritsRow : OpenClaim := { program := "ytiaiecfnpompcaa", sum := "569b480f356c686308bd4eb68591efd6cccb551508190f2963e9ecc208903cd5", func := "acme/acmelaw12.MillCulprits", spec := "millCulprits", unfollowed := true, recurses := true, plainKeys := false, apart := false }
def MillCulpritsSaid : Prop := millCulpritsRow.holds Try.pinned (OpenSpec.ofChange millCulpritsSpec)

/-- ITS FALSE NEIGHBOUR: 'it returns false'. Refute it at one input. -/
def millCulpritsWrong : ChangeSpec := { name := "millCulprits", fn := fun _ => fun
  | [d1, d2, d3] => { results := [.lit (.bool false)], args := [d1, d2, d3] }
  | _ => none }
def MillCulpritsWrongFalsely : Prop := millCulpritsRow.holds Try.pinned (OpenSpec.ofChange millCulpritsWrong)

/-- 'acmelaw12.MillTraces': WHATEVER THE INPUT: true; the input reads as it did. -/
def millTracesSpec : ChangeSpec := { name := "millTraces", fn := fun _ => fun
  | [d1, d2, d3] => { results := [.lit (.bool true)], args := [d1, d2, d3] }
  | _ => none }
def millTracesRow : OpenClaim := { program := "ytiaiecfnpompcaa", sum := "569b480f356c686308bd4eb68591efd6cccb551508190f2963e9ecc208903cd5", func := "acme/acmelaw12.MillTraces", spec := "millTraces", unfollowed := true, recurses := true, plainKeys := false, apart := false }
def MillTracesSaid : Prop := millTracesRow.holds Try.pinned (OpenSpec.ofChange millTracesSpec)

/-- ITS FALSE NEIGHBOUR: 'it returns false'. Refute it at one input. -/
def millTracesWrong : ChangeSpec := { name := "millTraces", fn := fun _ => fun
  | [d1, d2, d3] => { results := [.lit (.bool false)], args := [d1, d2, d3] }
  | _ => none }
def MillTracesWrongFalsely : Prop := millTracesRow.holds Try.pinned (OpenSpec.ofChange millTracesWrong)

/-- 'acmelaw12.MillThinner': WHATEVER THE INPUT: true; the input reads as it did. -/
def millThinnerSpec : ChangeSpec := { name := "millThinner", fn := fun _ => fun
  | [d1, d2, d3] => { results := [.lit (.bool true)], args := [d1, d2, d3] }
  | _ => none }
def millThinnerRow : OpenClaim := { program := "ytiaiecfnpompcaa", sum := "569b480f356c686308bd4eb68591efd6cccb551508190f2963e9ecc208903cd5", func := "acme/acmelaw12.MillThinner", spec := "millThinner", unfollowed := true, recurses := true, plainKeys := false, apart := false }
def MillThinnerSaid : Prop := millThinnerRow.holds Try.pinned (OpenSpec.ofChange millThinnerSpec)

/-- ITS FALSE NEIGHBOUR: 'it returns false'. Refute it at one input. -/
def millThinnerWrong : ChangeSpec := { name := "millThinner", fn := fun _ => fun
  | [d1, d2, d3] => { results := [.lit (.bool false)], args := [d1, d2, d3] }
  | _ => none }
def MillThinnerWrongFalsely : Prop := millThinnerRow.holds Try.pinned (OpenSpec.ofChange millThinnerWrong)

/-- 'acmelaw12.MillVolumes': WHATEVER THE INPUT: true; the input reads as it did. -/
def millVolumesSpec : ChangeSpec := { name := "millVolumes", fn := fun _ => fun
  | [d1, d2, d3] => { results := [.lit (.bool true)], args := [d1, d2, d3] }
  | _ => none }
def millVolumesRow : OpenClaim := { program := "ytiaiecfnpompcaa", sum := "569b480f356c686308bd4eb68591efd6cccb551508190f2963e9ecc208903cd5", func := "acme/acmelaw12.MillVolumes", spec := "millVolumes", unfollowed := true, recurses := true, plainKeys := false, apart := false }
def MillVolumesSaid : Prop := millVolumesRow.holds Try.pinned (OpenSpec.ofChange millVolumesSpec)

/-- ITS FALSE NEIGHBOUR: 'it returns false'. Refute it at one input. -/
def millVolumesWrong : ChangeSpec := { name := "millVolumes", fn := fun _ => fun
  | [d1, d2, d3] => { results := [.lit (.bool false)], args := [d1, d2, d3] }
  | _ => none }
def MillVolumesWrongFalsely : Prop := millVolumesRow.holds Try.pinned (OpenSpec.ofChange millVolumesWrong)

/-- 'acmelaw12.MillCoils': WHATEVER THE INPUT: true; the input reads as it did. -/
def millCoilsSpec : ChangeSpec := { name := "millCoils", fn := fun _ => fun
  | [d1, d2, d3] => { results := [.lit (.bool true)], args := [d1, d2, d3] }
  | _ => none }
def millCoilsRow : OpenClaim := { program := "ytiaiecfnpompcaa", sum := "569b480f356c686308bd4eb68591efd6cccb551508190f2963e9ecc208903cd5", func := "acme/acmelaw12.MillCoils", spec := "millCoils", unfollowed := true, recurses := true, plainKeys := false, apart := false }
def MillCoilsSaid : Prop := millCoilsRow.holds Try.pinned (OpenSpec.ofChange millCoilsSpec)

/-- ITS FALSE NEIGHBOUR: 'it returns false'. Refute it at one input. -/
def millCoilsWrong : ChangeSpec := { name := "millCoils", fn := fun _ => fun
  | [d1, d2, d3] => { results := [.lit (.bool false)], args := [d1, d2, d3] }
  | _ => none }
def MillCoilsWrongFalsely : Prop := millCoilsRow.holds Try.pinned (OpenSpec.ofChange millCoilsWrong)

/-- 'acmelaw12.MillToNoneOther': WHATEVER THE INPUT: true; the input reads as it did. -/
def millToNoneOtherSpec : ChangeSpec := { name := "millToNoneOther", fn := fun _ => fun
  | [d1, d2] => { results := [.lit (.bool true)], args := [d1, d2] }
  | _ => none }
def millToNoneOtherRow : OpenClaim := { program := "ytiaiecfnpompcaa", sum := "569b480f356c686308bd4eb68591efd6cccb551508190f2963e9ecc208903cd5", func := "acme/acmelaw12.MillToNoneOther", spec := "millToNoneOther", unfollowed := true, recurses := true, plainKeys := false, apart := false }
def MillToNoneOtherSaid : Prop := millToNoneOtherRow.holds Try.pinned (OpenSpec.ofChange millToNoneOtherSpec)

/-- ITS FALSE NEIGHBOUR: 'it returns false'. Refute it at one input. -/
def millToNoneOtherWrong : ChangeSpec := { name := "millToNoneOther", fn := fun _ => fun
  | [d1, d2] => { results := [.lit (.bool false)], args := [d1, d2] }
  | _ => none }
def MillToNoneOtherWrongFalsely : Prop := millToNoneOtherRow.holds Try.pinned (OpenSpec.ofChange millToNoneOtherWrong)

/-- 'acmelaw12.MillNarrowed': WHATEVER THE INPUT: true; the input reads as it did. -/
def millNarrowedSpec : ChangeSpec := { name := "millNarrowed", fn := fun _ => fun
  | [d1, d2, d3] => { results := [.lit (.bool true)], args := [d1, d2, d3] }
  | _ => none }
def millNarrowedRow : OpenClaim := { program := "ytiaiecfnpompcaa", sum := "569b480f356c686308bd4eb68591efd6cccb551508190f2963e9ecc208903cd5", func := "acme/acmelaw12.MillNarrowed", spec := "millNarrowed", unfollowed := true, recurses := true, plainKeys := false, apart := false }
def MillNarrowedSaid : Prop := millNarrowedRow.holds Try.pinned (OpenSpec.ofChange millNarrowedSpec)

/-- ITS FALSE NEIGHBOUR: 'it returns false'. Refute it at one input. -/
def millNarrowedWrong : ChangeSpec := { name := "millNarrowed", fn := fun _ => fun
  | [d1, d2, d3] => { results := [.lit (.bool false)], args := [d1, d2, d3] }
  | _ => none }
def MillNarrowedWrongFalsely : Prop := millNarrowedRow.holds Try.pinned (OpenSpec.ofChange millNarrowedWrong)

/- THE SECOND FORM. 'bulk': how many values and letters a reading holds, each counted each time it is reached (what is shared counts as often as it is met; a slice's spare places count too). A statement '..UptoSaid' is the law's where the arguments, and the package variables that the reading takes, are together of bulk at most 1048576: NARROWER than '..Said'. Prove '..Said' where nothing that the law and all that it calls make is longer than what came in: it says more and counts as full. Else prove '..UptoSaid'. A law counts once. -/
mutual
def uptoBulk {H : Type} : DataW H → Nat
  | .lit (.string bytes) => bytes.length + 1
  | .lit _ => 1
  | .nil => 1
  | .ptr d => uptoBulk d + 1
  | .slice elems spare => uptoBulkAll elems + uptoBulkAll spare + 1
  | .agg parts => uptoBulkAll parts + 1
  | .iface _ d => uptoBulk d + 1
  | .map entries => uptoBulkEntries entries + 1
  | .held _ => 1
def uptoBulkAll {H : Type} : List (DataW H) → Nat
  | [] => 0
  | d :: r => uptoBulk d + uptoBulkAll r
def uptoBulkEntries {H : Type} : List (Lit × DataW H) → Nat
  | [] => 0
  | x :: r => uptoBulkEntry x + uptoBulkEntries r
def uptoBulkEntry {H : Type} : Lit × DataW H → Nat
  | (.string bytes, d) => bytes.length + uptoBulk d + 1
  | (_, d) => uptoBulk d + 1
 end
def uptoSmall : (H : Type) → List (DataW H) → Bool := fun _ ds => decide (uptoBulkAll ds ≤ 1048576)
def OpenSpec.upto (s : _root_.Go.ChangeSpec) : _root_.Go.OpenSpec := { _root_.Go.OpenSpec.ofChange s with cond := some uptoSmall }

/-- 'acmelaw12.MillDraws', WHERE WHAT IT READS IS OF BULK AT MOST 1048576: true; the input reads as it did. -/
def millDrawsUptoRow : OpenClaim := { program := "ytiaiecfnpompcaa", sum := "569b480f356c686308bd4eb68591efd6cccb551508190f2963e9ecc208903cd5", func := "acme/acmelaw12.MillDraws", spec := "millDraws", unfollowed := true, recurses := true, plainKeys := false, apart := false, narrowed := true }
def MillDrawsUptoSaid : Prop := millDrawsUptoRow.holds Try.pinned (OpenSpec.upto millDrawsSpec)

/-- 'acmelaw12.MillBlanks', WHERE WHAT IT READS IS OF BULK AT MOST 1048576: true; the input reads as it did. -/
def millBlanksUptoRow : OpenClaim := { program := "ytiaiecfnpompcaa", sum := "569b480f356c686308bd4eb68591efd6cccb551508190f2963e9ecc208903cd5", func := "acme/acmelaw12.MillBlanks", spec := "millBlanks", unfollowed := true, recurses := true, plainKeys := false, apart := false, narrowed := true }
def MillBlanksUptoSaid : Prop := millBlanksUptoRow.holds Try.pinned (OpenSpec.upto millBlanksSpec)

/-- 'acmelaw12.MillShares', WHERE WHAT IT READS IS OF BULK AT MOST 1048576: true; the input reads as it did. -/
def millSharesUptoRow : OpenClaim := { program := "ytiaiecfnpompcaa", sum := "569b480f356c686308bd4eb68591efd6cccb551508190f2963e9ecc208903cd5", func := "acme/acmelaw12.MillShares", spec := "millShares", unfollowed := true, recurses := true, plainKeys := false, apart := false, narrowed := true }
def MillSharesUptoSaid : Prop := millSharesUptoRow.holds Try.pinned (OpenSpec.upto millSharesSpec)

/-- 'acmelaw12.MillCauses', WHERE WHAT IT READS IS OF BULK AT MOST 1048576: true; the input reads as it did. -/
def millCausesUptoRow : OpenClaim := { program := "ytiaiecfnpompcaa", sum := "569b480f356c686308bd4eb68591efd6cccb551508190f2963e9ecc208903cd5", func := "acme/acmelaw12.MillCauses", spec := "millCauses", unfollowed := true, recurses := true, plainKeys := false, apart := false, narrowed := true }
def MillCausesUptoSaid : Prop := millCausesUptoRow.holds Try.pinned (OpenSpec.upto millCausesSpec)

/-- 'acmelaw12.MillCulprits', WHERE WHAT IT READS IS OF BULK AT MOST 1048576: true; the input reads as it did. -/
def millCulpritsUptoRow : OpenClaim := { program := "ytiaiecfnpompcaa", sum := "569b480f356c686308bd4eb68591efd6cccb551508190f2963e9ecc208903cd5", func := "acme/acmelaw12.MillCulprits", spec := "millCulprits", unfollowed := true, recurses := true, plainKeys := false, apart := false, narrowed := true }
def MillCulpritsUptoSaid : Prop := millCulpritsUptoRow.holds Try.pinned (OpenSpec.upto millCulpritsSpec)

/-- 'acmelaw12.MillTraces', WHERE WHAT IT READS IS OF BULK AT MOST 1048576: true; the input reads as it did. -/
def millTracesUptoRow : OpenClaim := { program := "ytiaiecfnpompcaa", sum := "569b480f356c686308bd4eb68591efd6cccb551508190f2963e9ecc208903cd5", func := "acme/acmelaw12.MillTraces", spec := "millTraces", unfollowed := true, recurses := true, plainKeys := false, apart := false, narrowed := true }
def MillTracesUptoSaid : Prop := millTracesUptoRow.holds Try.pinned (OpenSpec.upto millTracesSpec)

/-- 'acmelaw12.MillThinner', WHERE WHAT IT READS IS OF BULK AT MOST 1048576: true; the input reads as it did. -/
def millThinnerUptoRow : OpenClaim := { program := "ytiaiecfnpompcaa", sum := "569b480f356c686308bd4eb68591efd6cccb551508190f2963e9ecc208903cd5", func := "acme/acmelaw12.MillThinner", spec := "millThinner", unfollowed := true, recurses := true, plainKeys := false, apart := false, narrowed := true }
def MillThinnerUptoSaid : Prop := millThinnerUptoRow.holds Try.pinned (OpenSpec.upto millThinnerSpec)

/-- 'acmelaw12.MillVolumes', WHERE WHAT IT READS IS OF BULK AT MOST 1048576: true; the input reads as it did. -/
def millVolumesUptoRow : OpenClaim := { program := "ytiaiecfnpompcaa", sum := "569b480f356c686308bd4eb68591efd6cccb551508190f2963e9ecc208903cd5", func := "acme/acmelaw12.MillVolumes", spec := "millVolumes", unfollowed := true, recurses := true, plainKeys := false, apart := false, narrowed := true }
def MillVolumesUptoSaid : Prop := millVolumesUptoRow.holds Try.pinned (OpenSpec.upto millVolumesSpec)

/-- 'acmelaw12.MillCoils', WHERE WHAT IT READS IS OF BULK AT MOST 1048576: true; the input reads as it did. -/
def millCoilsUptoRow : OpenClaim := { program := "ytiaiecfnpompcaa", sum := "569b480f356c686308bd4eb68591efd6cccb551508190f2963e9ecc208903cd5", func := "acme/acmelaw12.MillCoils", spec := "millCoils", unfollowed := true, recurses := true, plainKeys := false, apart := false, narrowed := true }
def MillCoilsUptoSaid : Prop := millCoilsUptoRow.holds Try.pinned (OpenSpec.upto millCoilsSpec)

/-- 'acmelaw12.MillToNoneOther', WHERE WHAT IT READS IS OF BULK AT MOST 1048576: true; the input reads as it did. -/
def millToNoneOtherUptoRow : OpenClaim := { program := "ytiaiecfnpompcaa", sum := "569b480f356c686308bd4eb68591efd6cccb551508190f2963e9ecc208903cd5", func := "acme/acmelaw12.MillToNoneOther", spec := "millToNoneOther", unfollowed := true, recurses := true, plainKeys := false, apart := false, narrowed := true }
def MillToNoneOtherUptoSaid : Prop := millToNoneOtherUptoRow.holds Try.pinned (OpenSpec.upto millToNoneOtherSpec)

/-- 'acmelaw12.MillNarrowed', WHERE WHAT IT READS IS OF BULK AT MOST 1048576: true; the input reads as it did. -/
def millNarrowedUptoRow : OpenClaim := { program := "ytiaiecfnpompcaa", sum := "569b480f356c686308bd4eb68591efd6cccb551508190f2963e9ecc208903cd5", func := "acme/acmelaw12.MillNarrowed", spec := "millNarrowed", unfollowed := true, recurses := true, plainKeys := false, apart := false, narrowed := true }
def MillNarrowedUptoSaid : Prop := millNarrowedUptoRow.holds Try.pinned (OpenSpec.upto millNarrowedSpec)

end Rows
end Go.Proofs.Ytiaiecfnpompcaa
