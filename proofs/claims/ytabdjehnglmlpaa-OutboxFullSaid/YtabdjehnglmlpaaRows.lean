/-
  No cell of these rows narrows 'for every input' (looked for: loops, veiled, ifaces, maps, wideKeys, modest, calm, conditions, laid).
  DERIVED. THE GIVEN ROWS OF THIS SEAT. 17 by the template 'for every input the law returns true; each argument reads behind the call as it read before'; 0 by the template 'total and deterministic' (their statements: YtabdjehnglmlpaaTotals.lean).
  GIVEN WITH THE SEED: the statements are not yours to turn. If you find one false, say at which input.
  Laid BY PROGRAM, IN A SANDBOX (cutbox-rows.mjs): the forced cells as the released guide's own fill.sh prints them over the translation f9a26d22f34b147a… (all of the seat's roots in one cut). By AI agents, Wed Nov 11 2026. No macro, syntax, notation, axiom, sorry.
-/
import Derived.Test.YtabdjehnglmlpaaChecked
import GoSem.Claim
import GoSem.ClaimJoined
import GoSem.ClaimMapViews
import Derived.JoinedTies
import Derived.KernelRfl
namespace Go.Proofs.Ytabdjehnglmlpaa
/- THE CELL 'sum', in the pinned program and in every row, IS THE sha256 OF THE DUMP (.gsa) THAT YtabdjehnglmlpaaProg.lean LOADS. Nothing in Lean hashes anything: it is a label: what it is worth is what the hold of that sum in a sandbox is worth. -/
noncomputable def Try.pinned : Pinned := { name := "ytabdjehnglmlpaa", sum := "f9a26d22f34b147aa1114a6a150289004f0f5c5274a9b5548e276147e095ad05", checked := Try.checked }
namespace Rows
def none {H : Type} : Left H := { results := [], args := [] }

/-- 'curfewlaw01.QuillOnce': WHATEVER THE INPUT: true; the input reads as it did. -/
def quillOnceSpec : ChangeSpec := { name := "quillOnce", fn := fun _ => fun
  | [d] => { results := [.lit (.bool true)], args := [d] }
  | _ => none }
def quillOnceRow : OpenClaim := { program := "ytabdjehnglmlpaa", sum := "f9a26d22f34b147aa1114a6a150289004f0f5c5274a9b5548e276147e095ad05", func := "curfew/curfewlaw01.QuillOnce", spec := "quillOnce", apart := false }
def QuillOnceSaid : Prop := quillOnceRow.holds Try.pinned (OpenSpec.ofChange quillOnceSpec)

/-- ITS FALSE NEIGHBOUR: 'it returns false'. Refute it at one input. -/
def quillOnceWrong : ChangeSpec := { name := "quillOnce", fn := fun _ => fun
  | [d] => { results := [.lit (.bool false)], args := [d] }
  | _ => none }
def QuillOnceWrongFalsely : Prop := quillOnceRow.holds Try.pinned (OpenSpec.ofChange quillOnceWrong)

/-- 'curfewlaw29.MemberSteps': WHATEVER THE INPUT: true; the input reads as it did. -/
def memberStepsSpec : ChangeSpec := { name := "memberSteps", fn := fun _ => fun
  | [d1, d2] => { results := [.lit (.bool true)], args := [d1, d2] }
  | _ => none }
def memberStepsRow : OpenClaim := { program := "ytabdjehnglmlpaa", sum := "f9a26d22f34b147aa1114a6a150289004f0f5c5274a9b5548e276147e095ad05", func := "curfew/curfewlaw29.MemberSteps", spec := "memberSteps", apart := false }
def MemberStepsSaid : Prop := memberStepsRow.holds Try.pinned (OpenSpec.ofChange memberStepsSpec)

/-- ITS FALSE NEIGHBOUR: 'it returns false'. Refute it at one input. -/
def memberStepsWrong : ChangeSpec := { name := "memberSteps", fn := fun _ => fun
  | [d1, d2] => { results := [.lit (.bool false)], args := [d1, d2] }
  | _ => none }
def MemberStepsWrongFalsely : Prop := memberStepsRow.holds Try.pinned (OpenSpec.ofChange memberStepsWrong)

/-- 'curfewlaw17.OutboxFull': WHATEVER THE INPUT: true; the input reads as it did. -/
def outboxFullSpec : ChangeSpec := { name := "outboxFull", fn := fun _ => fun
  | [d1, d2, d3] => { results := [.lit (.bool true)], args := [d1, d2, d3] }
  | _ => none }
def outboxFullRow : OpenClaim := { program := "ytabdjehnglmlpaa", sum := "f9a26d22f34b147aa1114a6a150289004f0f5c5274a9b5548e276147e095ad05", func := "curfew/curfewlaw17.OutboxFull", spec := "outboxFull", unfollowed := true, recurses := true, apart := false }
def OutboxFullSaid : Prop := outboxFullRow.holds Try.pinned (OpenSpec.ofChange outboxFullSpec)

/-- ITS FALSE NEIGHBOUR: 'it returns false'. Refute it at one input. -/
def outboxFullWrong : ChangeSpec := { name := "outboxFull", fn := fun _ => fun
  | [d1, d2, d3] => { results := [.lit (.bool false)], args := [d1, d2, d3] }
  | _ => none }
def OutboxFullWrongFalsely : Prop := outboxFullRow.holds Try.pinned (OpenSpec.ofChange outboxFullWrong)

/-- 'curfewlaw29.MemberSays': WHATEVER THE INPUT: true; the input reads as it did. -/
def memberSaysSpec : ChangeSpec := { name := "memberSays", fn := fun _ => fun
  | [d1, d2, d3, d4] => { results := [.lit (.bool true)], args := [d1, d2, d3, d4] }
  | _ => none }
def memberSaysRow : OpenClaim := { program := "ytabdjehnglmlpaa", sum := "f9a26d22f34b147aa1114a6a150289004f0f5c5274a9b5548e276147e095ad05", func := "curfew/curfewlaw29.MemberSays", spec := "memberSays", unfollowed := true, recurses := true, apart := false }
def MemberSaysSaid : Prop := memberSaysRow.holds Try.pinned (OpenSpec.ofChange memberSaysSpec)

/-- ITS FALSE NEIGHBOUR: 'it returns false'. Refute it at one input. -/
def memberSaysWrong : ChangeSpec := { name := "memberSays", fn := fun _ => fun
  | [d1, d2, d3, d4] => { results := [.lit (.bool false)], args := [d1, d2, d3, d4] }
  | _ => none }
def MemberSaysWrongFalsely : Prop := memberSaysRow.holds Try.pinned (OpenSpec.ofChange memberSaysWrong)

/-- 'curfewlaw19.ReplyTells': WHATEVER THE INPUT: true; the input reads as it did. -/
def replyTellsSpec : ChangeSpec := { name := "replyTells", fn := fun _ => fun
  | [d1, d2, d3] => { results := [.lit (.bool true)], args := [d1, d2, d3] }
  | _ => none }
def replyTellsRow : OpenClaim := { program := "ytabdjehnglmlpaa", sum := "f9a26d22f34b147aa1114a6a150289004f0f5c5274a9b5548e276147e095ad05", func := "curfew/curfewlaw19.ReplyTells", spec := "replyTells", unfollowed := true, recurses := true, apart := false }
def ReplyTellsSaid : Prop := replyTellsRow.holds Try.pinned (OpenSpec.ofChange replyTellsSpec)

/-- ITS FALSE NEIGHBOUR: 'it returns false'. Refute it at one input. -/
def replyTellsWrong : ChangeSpec := { name := "replyTells", fn := fun _ => fun
  | [d1, d2, d3] => { results := [.lit (.bool false)], args := [d1, d2, d3] }
  | _ => none }
def ReplyTellsWrongFalsely : Prop := replyTellsRow.holds Try.pinned (OpenSpec.ofChange replyTellsWrong)

/-- 'curfewlaw29.MemberMeets': WHATEVER THE INPUT: true; the input reads as it did. -/
def memberMeetsSpec : ChangeSpec := { name := "memberMeets", fn := fun _ => fun
  | [d1, d2, d3, d4] => { results := [.lit (.bool true)], args := [d1, d2, d3, d4] }
  | _ => none }
def memberMeetsRow : OpenClaim := { program := "ytabdjehnglmlpaa", sum := "f9a26d22f34b147aa1114a6a150289004f0f5c5274a9b5548e276147e095ad05", func := "curfew/curfewlaw29.MemberMeets", spec := "memberMeets", unfollowed := true, recurses := true, apart := false }
def MemberMeetsSaid : Prop := memberMeetsRow.holds Try.pinned (OpenSpec.ofChange memberMeetsSpec)

/-- ITS FALSE NEIGHBOUR: 'it returns false'. Refute it at one input. -/
def memberMeetsWrong : ChangeSpec := { name := "memberMeets", fn := fun _ => fun
  | [d1, d2, d3, d4] => { results := [.lit (.bool false)], args := [d1, d2, d3, d4] }
  | _ => none }
def MemberMeetsWrongFalsely : Prop := memberMeetsRow.holds Try.pinned (OpenSpec.ofChange memberMeetsWrong)

/-- 'curfewlaw17.OutboxBytes': WHATEVER THE INPUT: true; the input reads as it did. -/
def outboxBytesSpec : ChangeSpec := { name := "outboxBytes", fn := fun _ => fun
  | [d1, d2, d3] => { results := [.lit (.bool true)], args := [d1, d2, d3] }
  | _ => none }
def outboxBytesRow : OpenClaim := { program := "ytabdjehnglmlpaa", sum := "f9a26d22f34b147aa1114a6a150289004f0f5c5274a9b5548e276147e095ad05", func := "curfew/curfewlaw17.OutboxBytes", spec := "outboxBytes", unfollowed := true, recurses := true, apart := false }
def OutboxBytesSaid : Prop := outboxBytesRow.holds Try.pinned (OpenSpec.ofChange outboxBytesSpec)

/-- ITS FALSE NEIGHBOUR: 'it returns false'. Refute it at one input. -/
def outboxBytesWrong : ChangeSpec := { name := "outboxBytes", fn := fun _ => fun
  | [d1, d2, d3] => { results := [.lit (.bool false)], args := [d1, d2, d3] }
  | _ => none }
def OutboxBytesWrongFalsely : Prop := outboxBytesRow.holds Try.pinned (OpenSpec.ofChange outboxBytesWrong)

/-- 'curfewlaw01.QuillWrites': WHATEVER THE INPUT: true; the input reads as it did. -/
def quillWritesSpec : ChangeSpec := { name := "quillWrites", fn := fun _ => fun
  | [d1, d2, d3] => { results := [.lit (.bool true)], args := [d1, d2, d3] }
  | _ => none }
def quillWritesRow : OpenClaim := { program := "ytabdjehnglmlpaa", sum := "f9a26d22f34b147aa1114a6a150289004f0f5c5274a9b5548e276147e095ad05", func := "curfew/curfewlaw01.QuillWrites", spec := "quillWrites", unfollowed := true, recurses := true, apart := false }
def QuillWritesSaid : Prop := quillWritesRow.holds Try.pinned (OpenSpec.ofChange quillWritesSpec)

/-- ITS FALSE NEIGHBOUR: 'it returns false'. Refute it at one input. -/
def quillWritesWrong : ChangeSpec := { name := "quillWrites", fn := fun _ => fun
  | [d1, d2, d3] => { results := [.lit (.bool false)], args := [d1, d2, d3] }
  | _ => none }
def QuillWritesWrongFalsely : Prop := quillWritesRow.holds Try.pinned (OpenSpec.ofChange quillWritesWrong)

/-- 'curfewlaw01.QuillReads': WHATEVER THE INPUT: true; the input reads as it did. -/
def quillReadsSpec : ChangeSpec := { name := "quillReads", fn := fun _ => fun
  | [d1, d2] => { results := [.lit (.bool true)], args := [d1, d2] }
  | _ => none }
def quillReadsRow : OpenClaim := { program := "ytabdjehnglmlpaa", sum := "f9a26d22f34b147aa1114a6a150289004f0f5c5274a9b5548e276147e095ad05", func := "curfew/curfewlaw01.QuillReads", spec := "quillReads", apart := false }
def QuillReadsSaid : Prop := quillReadsRow.holds Try.pinned (OpenSpec.ofChange quillReadsSpec)

/-- ITS FALSE NEIGHBOUR: 'it returns false'. Refute it at one input. -/
def quillReadsWrong : ChangeSpec := { name := "quillReads", fn := fun _ => fun
  | [d1, d2] => { results := [.lit (.bool false)], args := [d1, d2] }
  | _ => none }
def QuillReadsWrongFalsely : Prop := quillReadsRow.holds Try.pinned (OpenSpec.ofChange quillReadsWrong)

/-- 'curfewlaw17.OutboxLimits': WHATEVER THE INPUT: true; the input reads as it did. -/
def outboxLimitsSpec : ChangeSpec := { name := "outboxLimits", fn := fun _ => fun
  | [d] => { results := [.lit (.bool true)], args := [d] }
  | _ => none }
def outboxLimitsRow : OpenClaim := { program := "ytabdjehnglmlpaa", sum := "f9a26d22f34b147aa1114a6a150289004f0f5c5274a9b5548e276147e095ad05", func := "curfew/curfewlaw17.OutboxLimits", spec := "outboxLimits", unfollowed := true, recurses := true, apart := false }
def OutboxLimitsSaid : Prop := outboxLimitsRow.holds Try.pinned (OpenSpec.ofChange outboxLimitsSpec)

/-- ITS FALSE NEIGHBOUR: 'it returns false'. Refute it at one input. -/
def outboxLimitsWrong : ChangeSpec := { name := "outboxLimits", fn := fun _ => fun
  | [d] => { results := [.lit (.bool false)], args := [d] }
  | _ => none }
def OutboxLimitsWrongFalsely : Prop := outboxLimitsRow.holds Try.pinned (OpenSpec.ofChange outboxLimitsWrong)

/-- 'curfewlaw01.QuillBack': WHATEVER THE INPUT: true; the input reads as it did. -/
def quillBackSpec : ChangeSpec := { name := "quillBack", fn := fun _ => fun
  | [d] => { results := [.lit (.bool true)], args := [d] }
  | _ => none }
def quillBackRow : OpenClaim := { program := "ytabdjehnglmlpaa", sum := "f9a26d22f34b147aa1114a6a150289004f0f5c5274a9b5548e276147e095ad05", func := "curfew/curfewlaw01.QuillBack", spec := "quillBack", unfollowed := true, recurses := true, apart := false }
def QuillBackSaid : Prop := quillBackRow.holds Try.pinned (OpenSpec.ofChange quillBackSpec)

/-- ITS FALSE NEIGHBOUR: 'it returns false'. Refute it at one input. -/
def quillBackWrong : ChangeSpec := { name := "quillBack", fn := fun _ => fun
  | [d] => { results := [.lit (.bool false)], args := [d] }
  | _ => none }
def QuillBackWrongFalsely : Prop := quillBackRow.holds Try.pinned (OpenSpec.ofChange quillBackWrong)

/-- 'curfewlaw01.QuillNobody': WHATEVER THE INPUT: true; the input reads as it did. -/
def quillNobodySpec : ChangeSpec := { name := "quillNobody", fn := fun _ => fun
  | [d1, d2, d3] => { results := [.lit (.bool true)], args := [d1, d2, d3] }
  | _ => none }
def quillNobodyRow : OpenClaim := { program := "ytabdjehnglmlpaa", sum := "f9a26d22f34b147aa1114a6a150289004f0f5c5274a9b5548e276147e095ad05", func := "curfew/curfewlaw01.QuillNobody", spec := "quillNobody", unfollowed := true, recurses := true, apart := false }
def QuillNobodySaid : Prop := quillNobodyRow.holds Try.pinned (OpenSpec.ofChange quillNobodySpec)

/-- ITS FALSE NEIGHBOUR: 'it returns false'. Refute it at one input. -/
def quillNobodyWrong : ChangeSpec := { name := "quillNobody", fn := fun _ => fun
  | [d1, d2, d3] => { results := [.lit (.bool false)], args := [d1, d2, d3] }
  | _ => none }
def QuillNobodyWrongFalsely : Prop := quillNobodyRow.holds Try.pinned (OpenSpec.ofChange quillNobodyWrong)

/-- 'curfewlaw29.MemberBytes': WHATEVER THE INPUT: true; the input reads as it did. -/
def memberBytesSpec : ChangeSpec := { name := "memberBytes", fn := fun _ => fun
  | [d1, d2] => { results := [.lit (.bool true)], args := [d1, d2] }
  | _ => none }
def memberBytesRow : OpenClaim := { program := "ytabdjehnglmlpaa", sum := "f9a26d22f34b147aa1114a6a150289004f0f5c5274a9b5548e276147e095ad05", func := "curfew/curfewlaw29.MemberBytes", spec := "memberBytes", apart := false }
def MemberBytesSaid : Prop := memberBytesRow.holds Try.pinned (OpenSpec.ofChange memberBytesSpec)

/-- ITS FALSE NEIGHBOUR: 'it returns false'. Refute it at one input. -/
def memberBytesWrong : ChangeSpec := { name := "memberBytes", fn := fun _ => fun
  | [d1, d2] => { results := [.lit (.bool false)], args := [d1, d2] }
  | _ => none }
def MemberBytesWrongFalsely : Prop := memberBytesRow.holds Try.pinned (OpenSpec.ofChange memberBytesWrong)

/-- 'curfewlaw17.OutboxPlays': WHATEVER THE INPUT: true; the input reads as it did. -/
def outboxPlaysSpec : ChangeSpec := { name := "outboxPlays", fn := fun _ => fun
  | [d1, d2] => { results := [.lit (.bool true)], args := [d1, d2] }
  | _ => none }
def outboxPlaysRow : OpenClaim := { program := "ytabdjehnglmlpaa", sum := "f9a26d22f34b147aa1114a6a150289004f0f5c5274a9b5548e276147e095ad05", func := "curfew/curfewlaw17.OutboxPlays", spec := "outboxPlays", unfollowed := true, recurses := true, apart := false }
def OutboxPlaysSaid : Prop := outboxPlaysRow.holds Try.pinned (OpenSpec.ofChange outboxPlaysSpec)

/-- ITS FALSE NEIGHBOUR: 'it returns false'. Refute it at one input. -/
def outboxPlaysWrong : ChangeSpec := { name := "outboxPlays", fn := fun _ => fun
  | [d1, d2] => { results := [.lit (.bool false)], args := [d1, d2] }
  | _ => none }
def OutboxPlaysWrongFalsely : Prop := outboxPlaysRow.holds Try.pinned (OpenSpec.ofChange outboxPlaysWrong)

/-- 'curfewlaw17.OutboxApart': WHATEVER THE INPUT: true; the input reads as it did. -/
def outboxApartSpec : ChangeSpec := { name := "outboxApart", fn := fun _ => fun
  | [d1, d2, d3] => { results := [.lit (.bool true)], args := [d1, d2, d3] }
  | _ => none }
def outboxApartRow : OpenClaim := { program := "ytabdjehnglmlpaa", sum := "f9a26d22f34b147aa1114a6a150289004f0f5c5274a9b5548e276147e095ad05", func := "curfew/curfewlaw17.OutboxApart", spec := "outboxApart", unfollowed := true, recurses := true, apart := false }
def OutboxApartSaid : Prop := outboxApartRow.holds Try.pinned (OpenSpec.ofChange outboxApartSpec)

/-- ITS FALSE NEIGHBOUR: 'it returns false'. Refute it at one input. -/
def outboxApartWrong : ChangeSpec := { name := "outboxApart", fn := fun _ => fun
  | [d1, d2, d3] => { results := [.lit (.bool false)], args := [d1, d2, d3] }
  | _ => none }
def OutboxApartWrongFalsely : Prop := outboxApartRow.holds Try.pinned (OpenSpec.ofChange outboxApartWrong)

/-- 'curfewlaw19.ReplyWrites': WHATEVER THE INPUT: true; the input reads as it did. -/
def replyWritesSpec : ChangeSpec := { name := "replyWrites", fn := fun _ => fun
  | [d1, d2] => { results := [.lit (.bool true)], args := [d1, d2] }
  | _ => none }
def replyWritesRow : OpenClaim := { program := "ytabdjehnglmlpaa", sum := "f9a26d22f34b147aa1114a6a150289004f0f5c5274a9b5548e276147e095ad05", func := "curfew/curfewlaw19.ReplyWrites", spec := "replyWrites", unfollowed := true, recurses := true, apart := false }
def ReplyWritesSaid : Prop := replyWritesRow.holds Try.pinned (OpenSpec.ofChange replyWritesSpec)

/-- ITS FALSE NEIGHBOUR: 'it returns false'. Refute it at one input. -/
def replyWritesWrong : ChangeSpec := { name := "replyWrites", fn := fun _ => fun
  | [d1, d2] => { results := [.lit (.bool false)], args := [d1, d2] }
  | _ => none }
def ReplyWritesWrongFalsely : Prop := replyWritesRow.holds Try.pinned (OpenSpec.ofChange replyWritesWrong)

/-- 'curfewlaw19.ReplyReads': WHATEVER THE INPUT: true; the input reads as it did. -/
def replyReadsSpec : ChangeSpec := { name := "replyReads", fn := fun _ => fun
  | [d] => { results := [.lit (.bool true)], args := [d] }
  | _ => none }
def replyReadsRow : OpenClaim := { program := "ytabdjehnglmlpaa", sum := "f9a26d22f34b147aa1114a6a150289004f0f5c5274a9b5548e276147e095ad05", func := "curfew/curfewlaw19.ReplyReads", spec := "replyReads", unfollowed := true, recurses := true, apart := false }
def ReplyReadsSaid : Prop := replyReadsRow.holds Try.pinned (OpenSpec.ofChange replyReadsSpec)

/-- ITS FALSE NEIGHBOUR: 'it returns false'. Refute it at one input. -/
def replyReadsWrong : ChangeSpec := { name := "replyReads", fn := fun _ => fun
  | [d] => { results := [.lit (.bool false)], args := [d] }
  | _ => none }
def ReplyReadsWrongFalsely : Prop := replyReadsRow.holds Try.pinned (OpenSpec.ofChange replyReadsWrong)

/- THE SECOND FORM. 'bulk': how many values and letters a reading holds, each counted each time it is reached (what is shared counts as often as it is met; a slice's spare places count too). A statement '..UptoSaid' is the law's where the arguments, and the package variables that the reading takes, are together of bulk at most 1048576: NARROWER than '..Said'. Prove '..Said' where nothing that the law and all that it calls make is longer than what came in: it says more and counts as full. Else prove '..UptoSaid'. A law counts once. -/
mutual
def uptoBulk {H : Type} : DataW H → Nat
  | .lit (.string bytes) => bytes.length + 1
  | .lit _ => 1
  | .nil => 1
  | .ptr d => uptoBulk d + 1
  | .slice elems spare => uptoBulkAll elems + uptoBulkAll spare + 1
  | .agg parts => uptoBulkAll parts + 1
  | .iface _ d => uptoBulk d + 1
  | .map entries => uptoBulkEntries entries + 1
  | .held _ => 1
def uptoBulkAll {H : Type} : List (DataW H) → Nat
  | [] => 0
  | d :: r => uptoBulk d + uptoBulkAll r
def uptoBulkEntries {H : Type} : List (Lit × DataW H) → Nat
  | [] => 0
  | x :: r => uptoBulkEntry x + uptoBulkEntries r
def uptoBulkEntry {H : Type} : Lit × DataW H → Nat
  | (.string bytes, d) => bytes.length + uptoBulk d + 1
  | (_, d) => uptoBulk d + 1
 end
def uptoSmall : (H : Type) → List (DataW H) → Bool := fun _ ds => decide (uptoBulkAll ds ≤ 1048576)
def OpenSpec.upto (s : _root_.Go.ChangeSpec) : _root_.Go.OpenSpec := { _root_.Go.OpenSpec.ofChange s with cond := some uptoSmall }

/-- 'curfewlaw01.QuillOnce', WHERE WHAT IT READS IS OF BULK AT MOST 1048576: true; the input reads as it did. -/
def quillOnceUptoRow : OpenClaim := { program := "ytabdjehnglmlpaa", sum := "f9a26d22f34b147aa1114a6a150289004f0f5c5274a9b5548e276147e095ad05", func := "curfew/curfewlaw01.QuillOnce", spec := "quillOnce", apart := false, narrowed := true }
def QuillOnceUptoSaid : Prop := quillOnceUptoRow.holds Try.pinned (OpenSpec.upto quillOnceSpec)

/-- 'curfewlaw29.MemberSteps', WHERE WHAT IT READS IS OF BULK AT MOST 1048576: true; the input reads as it did. -/
def memberStepsUptoRow : OpenClaim := { program := "ytabdjehnglmlpaa", sum := "f9a26d22f34b147aa1114a6a150289004f0f5c5274a9b5548e276147e095ad05", func := "curfew/curfewlaw29.MemberSteps", spec := "memberSteps", apart := false, narrowed := true }
def MemberStepsUptoSaid : Prop := memberStepsUptoRow.holds Try.pinned (OpenSpec.upto memberStepsSpec)

/-- 'curfewlaw17.OutboxFull', WHERE WHAT IT READS IS OF BULK AT MOST 1048576: true; the input reads as it did. -/
def outboxFullUptoRow : OpenClaim := { program := "ytabdjehnglmlpaa", sum := "f9a26d22f34b147aa1114a6a150289004f0f5c5274a9b5548e276147e095ad05", func := "curfew/curfewlaw17.OutboxFull", spec := "outboxFull", unfollowed := true, recurses := true, apart := false, narrowed := true }
def OutboxFullUptoSaid : Prop := outboxFullUptoRow.holds Try.pinned (OpenSpec.upto outboxFullSpec)

/-- 'curfewlaw29.MemberSays', WHERE WHAT IT READS IS OF BULK AT MOST 1048576: true; the input reads as it did. -/
def memberSaysUptoRow : OpenClaim := { program := "ytabdjehnglmlpaa", sum := "f9a26d22f34b147aa1114a6a150289004f0f5c5274a9b5548e276147e095ad05", func := "curfew/curfewlaw29.MemberSays", spec := "memberSays", unfollowed := true, recurses := true, apart := false, narrowed := true }
def MemberSaysUptoSaid : Prop := memberSaysUptoRow.holds Try.pinned (OpenSpec.upto memberSaysSpec)

/-- 'curfewlaw19.ReplyTells', WHERE WHAT IT READS IS OF BULK AT MOST 1048576: true; the input reads as it did. -/
def replyTellsUptoRow : OpenClaim := { program := "ytabdjehnglmlpaa", sum := "f9a26d22f34b147aa1114a6a150289004f0f5c5274a9b5548e276147e095ad05", func := "curfew/curfewlaw19.ReplyTells", spec := "replyTells", unfollowed := true, recurses := true, apart := false, narrowed := true }
def ReplyTellsUptoSaid : Prop := replyTellsUptoRow.holds Try.pinned (OpenSpec.upto replyTellsSpec)

/-- 'curfewlaw29.MemberMeets', WHERE WHAT IT READS IS OF BULK AT MOST 1048576: true; the input reads as it did. -/
def memberMeetsUptoRow : OpenClaim := { program := "ytabdjehnglmlpaa", sum := "f9a26d22f34b147aa1114a6a150289004f0f5c5274a9b5548e276147e095ad05", func := "curfew/curfewlaw29.MemberMeets", spec := "memberMeets", unfollowed := true, recurses := true, apart := false, narrowed := true }
def MemberMeetsUptoSaid : Prop := memberMeetsUptoRow.holds Try.pinned (OpenSpec.upto memberMeetsSpec)

/-- 'curfewlaw17.OutboxBytes', WHERE WHAT IT READS IS OF BULK AT MOST 1048576: true; the input reads as it did. -/
def outboxBytesUptoRow : OpenClaim := { program := "ytabdjehnglmlpaa", sum := "f9a26d22f34b147aa1114a6a150289004f0f5c5274a9b5548e276147e095ad05", func := "curfew/curfewlaw17.OutboxBytes", spec := "outboxBytes", unfollowed := true, recurses := true, apart := false, narrowed := true }
def OutboxBytesUptoSaid : Prop := outboxBytesUptoRow.holds Try.pinned (OpenSpec.upto outboxBytesSpec)

/-- 'curfewlaw01.QuillWrites', WHERE WHAT IT READS IS OF BULK AT MOST 1048576: true; the input reads as it did. -/
def quillWritesUptoRow : OpenClaim := { program := "ytabdjehnglmlpaa", sum := "f9a26d22f34b147aa1114a6a150289004f0f5c5274a9b5548e276147e095ad05", func := "curfew/curfewlaw01.QuillWrites", spec := "quillWrites", unfollowed := true, recurses := true, apart := false, narrowed := true }
def QuillWritesUptoSaid : Prop := quillWritesUptoRow.holds Try.pinned (OpenSpec.upto quillWritesSpec)

/-- 'curfewlaw01.QuillReads', WHERE WHAT IT READS IS OF BULK AT MOST 1048576: true; the input reads as it did. -/
def quillReadsUptoRow : OpenClaim := { program := "ytabdjehnglmlpaa", sum := "f9a26d22f34b147aa1114a6a150289004f0f5c5274a9b5548e276147e095ad05", func := "curfew/curfewlaw01.QuillReads", spec := "quillReads", apart := false, narrowed := true }
def QuillReadsUptoSaid : Prop := quillReadsUptoRow.holds Try.pinned (OpenSpec.upto quillReadsSpec)

/-- 'curfewlaw17.OutboxLimits', WHERE WHAT IT READS IS OF BULK AT MOST 1048576: true; the input reads as it did. -/
def outboxLimitsUptoRow : OpenClaim := { program := "ytabdjehnglmlpaa", sum := "f9a26d22f34b147aa1114a6a150289004f0f5c5274a9b5548e276147e095ad05", func := "curfew/curfewlaw17.OutboxLimits", spec := "outboxLimits", unfollowed := true, recurses := true, apart := false, narrowed := true }
def OutboxLimitsUptoSaid : Prop := outboxLimitsUptoRow.holds Try.pinned (OpenSpec.upto outboxLimitsSpec)

/-- 'curfewlaw01.QuillBack', WHERE WHAT IT READS IS OF BULK AT MOST 1048576: true; the input reads as it did. -/
def quillBackUptoRow : OpenClaim := { program := "ytabdjehnglmlpaa", sum := "f9a26d22f34b147aa1114a6a150289004f0f5c5274a9b5548e276147e095ad05", func := "curfew/curfewlaw01.QuillBack", spec := "quillBack", unfollowed := true, recurses := true, apart := false, narrowed := true }
def QuillBackUptoSaid : Prop := quillBackUptoRow.holds Try.pinned (OpenSpec.upto quillBackSpec)

/-- 'curfewlaw01.QuillNobody', WHERE WHAT IT READS IS OF BULK AT MOST 1048576: true; the input reads as it did. -/
def quillNobodyUptoRow : OpenClaim := { program := "ytabdjehnglmlpaa", sum := "f9a26d22f34b147aa1114a6a150289004f0f5c5274a9b5548e276147e095ad05", func := "curfew/curfewlaw01.QuillNobody", spec := "quillNobody", unfollowed := true, recurses := true, apart := false, narrowed := true }
def QuillNobodyUptoSaid : Prop := quillNobodyUptoRow.holds Try.pinned (OpenSpec.upto quillNobodySpec)

/-- 'curfewlaw29.MemberBytes', WHERE WHAT IT READS IS OF BULK AT MOST 1048576: true; the input reads as it did. -/
def memberBytesUptoRow : OpenClaim := { program := "ytabdjehnglmlpaa", sum := "f9a26d22f34b147aa1114a6a150289004f0f5c5274a9b5548e276147e095ad05", func := "curfew/curfewlaw29.MemberBytes", spec := "memberBytes", apart := false, narrowed := true }
def MemberBytesUptoSaid : Prop := memberBytesUptoRow.holds Try.pinned (OpenSpec.upto memberBytesSpec)

/-- 'curfewlaw17.OutboxPlays', WHERE WHAT IT READS IS OF BULK AT MOST 1048576: true; the input reads as it did. -/
def outboxPlaysUptoRow : OpenClaim := { program := "ytabdjehnglmlpaa", sum := "f9a26d22f34b147aa1114a6a150289004f0f5c5274a9b5548e276147e095ad05", func := "curfew/curfewlaw17.OutboxPlays", spec := "outboxPlays", unfollowed := true, recurses := true, apart := false, narrowed := true }
def OutboxPlaysUptoSaid : Prop := outboxPlaysUptoRow.holds Try.pinned (OpenSpec.upto outboxPlaysSpec)

/-- 'curfewlaw17.OutboxApart', WHERE WHAT IT READS IS OF BULK AT MOST 1048576: true; the input reads as it did. -/
def outboxApartUptoRow : OpenClaim := { program := "ytabdjehnglmlpaa", sum := "f9a26d22f34b147aa1114a6a150289004f0f5c5274a9b5548e276147e095ad05", func := "curfew/curfewlaw17.OutboxApart", spec := "outboxApart", unfollowed := true, recurses := true, apart := false, narrowed := true }
def OutboxApartUptoSaid : Prop := outboxApartUptoRow.holds Try.pinned (OpenSpec.upto outboxApartSpec)

/-- 'curfewlaw19.ReplyWrites', WHERE WHAT IT READS IS OF BULK AT MOST 1048576: true; the input reads as it did. -/
def replyWritesUptoRow : OpenClaim := { program := "ytabdjehnglmlpaa", sum := "f9a26d22f34b147aa1114a6a150289004f0f5c5274a9b5548e276147e095ad05", func := "curfew/curfewlaw19.ReplyWrites", spec := "replyWrites", unfollowed := true, recurses := true, apart := false, narrowed := true }
def ReplyWritesUptoSaid : Prop := replyWritesUptoRow.holds Try.pinned (OpenSpec.upto replyWritesSpec)

/-- 'curfewlaw19.ReplyReads', WHERE WHAT IT READS IS OF BULK AT MOST 1048576: true; the input reads as it did. -/
def replyReadsUptoRow : OpenClaim := { program := "ytabdjehnglmlpaa", sum := "f9a26d22f34b147aa1114a6a150289004f0f5c5274a9b5548e276147e095ad05", func := "curfew/curfewlaw19.ReplyReads", spec := "replyReads", unfollowed := true, recurses := true, apart := false, narrowed := true }
def ReplyReadsUptoSaid : Prop := replyReadsUptoRow.holds Try.pinned (OpenSpec.upto replyReadsSpec)

end Rows
end Go.Proofs.Ytabdjehnglmlpaa
