/-
  NARROWER THAN 'FOR EVERY INPUT', by the rows' own cells (each row's printed sentence says how): RlpNums: loops · RlpEncodes: loops · RlpBack: loops.
  DERIVED. THE GIVEN ROWS OF THIS SEAT. 11 by the template 'for every input the law returns true; each argument reads behind the call as it read before'; 0 by the template 'total and deterministic' (their statements: YtdjoekckhmggbaaTotals.lean).
  GIVEN WITH THE SEED: the statements are not yours to turn. If you find one false, say at which input.
  Laid BY PROGRAM, IN A SANDBOX (cutbox-rows.mjs): the forced cells as the released guide's own fill.sh prints them over the translation 9c6b2036abbe864d… (all of the seat's roots in one cut). By AI agents, Wed Nov 11 2026. No macro, syntax, notation, axiom, sorry.
-/
import Derived.Test.YtdjoekckhmggbaaChecked
import GoSem.Claim
import GoSem.ClaimJoined
import GoSem.ClaimMapViews
import Derived.JoinedTies
import Derived.KernelRfl
namespace Go.Proofs.Ytdjoekckhmggbaa
/- THE CELL 'sum', in the pinned program and in every row, IS THE sha256 OF THE DUMP (.gsa) THAT YtdjoekckhmggbaaProg.lean LOADS. Nothing in Lean hashes anything: it is a label: what it is worth is what the hold of that sum in a sandbox is worth. -/
noncomputable def Try.pinned : Pinned := { name := "ytdjoekckhmggbaa", sum := "9c6b2036abbe864d5550d47af96925c67e1aec2577c99759760d2194cd7b81f4", checked := Try.checked }
namespace Rows
def none {H : Type} : Left H := { results := [], args := [] }

/-- 'proctorlaw03.FrameJoins': WHATEVER THE INPUT: true; the input reads as it did. -/
def frameJoinsSpec : ChangeSpec := { name := "frameJoins", fn := fun _ => fun
  | [d1, d2, d3] => { results := [.lit (.bool true)], args := [d1, d2, d3] }
  | _ => none }
def frameJoinsRow : OpenClaim := { program := "ytdjoekckhmggbaa", sum := "9c6b2036abbe864d5550d47af96925c67e1aec2577c99759760d2194cd7b81f4", func := "proctor/proctorlaw03.FrameJoins", spec := "frameJoins", unfollowed := true, recurses := true, apart := false }
def FrameJoinsSaid : Prop := frameJoinsRow.holds Try.pinned (OpenSpec.ofChange frameJoinsSpec)

/-- ITS FALSE NEIGHBOUR: 'it returns false'. Refute it at one input. -/
def frameJoinsWrong : ChangeSpec := { name := "frameJoins", fn := fun _ => fun
  | [d1, d2, d3] => { results := [.lit (.bool false)], args := [d1, d2, d3] }
  | _ => none }
def FrameJoinsWrongFalsely : Prop := frameJoinsRow.holds Try.pinned (OpenSpec.ofChange frameJoinsWrong)

/-- 'proctorlaw03.FrameBack': WHATEVER THE INPUT: true; the input reads as it did. -/
def frameBackSpec : ChangeSpec := { name := "frameBack", fn := fun _ => fun
  | [d1, d2, d3] => { results := [.lit (.bool true)], args := [d1, d2, d3] }
  | _ => none }
def frameBackRow : OpenClaim := { program := "ytdjoekckhmggbaa", sum := "9c6b2036abbe864d5550d47af96925c67e1aec2577c99759760d2194cd7b81f4", func := "proctor/proctorlaw03.FrameBack", spec := "frameBack", unfollowed := true, recurses := true, apart := false }
def FrameBackSaid : Prop := frameBackRow.holds Try.pinned (OpenSpec.ofChange frameBackSpec)

/-- ITS FALSE NEIGHBOUR: 'it returns false'. Refute it at one input. -/
def frameBackWrong : ChangeSpec := { name := "frameBack", fn := fun _ => fun
  | [d1, d2, d3] => { results := [.lit (.bool false)], args := [d1, d2, d3] }
  | _ => none }
def FrameBackWrongFalsely : Prop := frameBackRow.holds Try.pinned (OpenSpec.ofChange frameBackWrong)

/-- 'proctorlaw03.FrameFresh': WHATEVER THE INPUT: true; the input reads as it did. -/
def frameFreshSpec : ChangeSpec := { name := "frameFresh", fn := fun _ => fun
  | [d1, d2] => { results := [.lit (.bool true)], args := [d1, d2] }
  | _ => none }
def frameFreshRow : OpenClaim := { program := "ytdjoekckhmggbaa", sum := "9c6b2036abbe864d5550d47af96925c67e1aec2577c99759760d2194cd7b81f4", func := "proctor/proctorlaw03.FrameFresh", spec := "frameFresh", unfollowed := true, recurses := true, apart := false }
def FrameFreshSaid : Prop := frameFreshRow.holds Try.pinned (OpenSpec.ofChange frameFreshSpec)

/-- ITS FALSE NEIGHBOUR: 'it returns false'. Refute it at one input. -/
def frameFreshWrong : ChangeSpec := { name := "frameFresh", fn := fun _ => fun
  | [d1, d2] => { results := [.lit (.bool false)], args := [d1, d2] }
  | _ => none }
def FrameFreshWrongFalsely : Prop := frameFreshRow.holds Try.pinned (OpenSpec.ofChange frameFreshWrong)

/-- 'proctorlaw02.RlpDecodes': WHATEVER THE INPUT: true; the input reads as it did. -/
def rlpDecodesSpec : ChangeSpec := { name := "rlpDecodes", fn := fun _ => fun
  | [d] => { results := [.lit (.bool true)], args := [d] }
  | _ => none }
def rlpDecodesRow : OpenClaim := { program := "ytdjoekckhmggbaa", sum := "9c6b2036abbe864d5550d47af96925c67e1aec2577c99759760d2194cd7b81f4", func := "proctor/proctorlaw02.RlpDecodes", spec := "rlpDecodes", unfollowed := true, recurses := true, apart := false }
def RlpDecodesSaid : Prop := rlpDecodesRow.holds Try.pinned (OpenSpec.ofChange rlpDecodesSpec)

/-- ITS FALSE NEIGHBOUR: 'it returns false'. Refute it at one input. -/
def rlpDecodesWrong : ChangeSpec := { name := "rlpDecodes", fn := fun _ => fun
  | [d] => { results := [.lit (.bool false)], args := [d] }
  | _ => none }
def RlpDecodesWrongFalsely : Prop := rlpDecodesRow.holds Try.pinned (OpenSpec.ofChange rlpDecodesWrong)

/-- 'proctorlaw02.RlpFresh': WHATEVER THE INPUT: true; the input reads as it did. -/
def rlpFreshSpec : ChangeSpec := { name := "rlpFresh", fn := fun _ => fun
  | [d] => { results := [.lit (.bool true)], args := [d] }
  | _ => none }
def rlpFreshRow : OpenClaim := { program := "ytdjoekckhmggbaa", sum := "9c6b2036abbe864d5550d47af96925c67e1aec2577c99759760d2194cd7b81f4", func := "proctor/proctorlaw02.RlpFresh", spec := "rlpFresh", unfollowed := true, recurses := true, apart := false }
def RlpFreshSaid : Prop := rlpFreshRow.holds Try.pinned (OpenSpec.ofChange rlpFreshSpec)

/-- ITS FALSE NEIGHBOUR: 'it returns false'. Refute it at one input. -/
def rlpFreshWrong : ChangeSpec := { name := "rlpFresh", fn := fun _ => fun
  | [d] => { results := [.lit (.bool false)], args := [d] }
  | _ => none }
def RlpFreshWrongFalsely : Prop := rlpFreshRow.holds Try.pinned (OpenSpec.ofChange rlpFreshWrong)

/-- 'proctorlaw02.RlpNums': WHATEVER THE INPUT: true; the input reads as it did. -/
def rlpNumsSpec : ChangeSpec := { name := "rlpNums", fn := fun _ => fun
  | [d1, d2] => { results := [.lit (.bool true)], args := [d1, d2] }
  | _ => none }
def rlpNumsRow : OpenClaim := { program := "ytdjoekckhmggbaa", sum := "9c6b2036abbe864d5550d47af96925c67e1aec2577c99759760d2194cd7b81f4", func := "proctor/proctorlaw02.RlpNums", spec := "rlpNums", unfollowed := true, recurses := true, loops := true, apart := false }
def RlpNumsSaid : Prop := rlpNumsRow.holds Try.pinned (OpenSpec.ofChange rlpNumsSpec)

/-- ITS FALSE NEIGHBOUR: 'it returns false'. Refute it at one input. -/
def rlpNumsWrong : ChangeSpec := { name := "rlpNums", fn := fun _ => fun
  | [d1, d2] => { results := [.lit (.bool false)], args := [d1, d2] }
  | _ => none }
def RlpNumsWrongFalsely : Prop := rlpNumsRow.holds Try.pinned (OpenSpec.ofChange rlpNumsWrong)

/-- 'proctorlaw02.RlpForms': WHATEVER THE INPUT: true; the input reads as it did. -/
def rlpFormsSpec : ChangeSpec := { name := "rlpForms", fn := fun _ => fun
  | [d1, d2] => { results := [.lit (.bool true)], args := [d1, d2] }
  | _ => none }
def rlpFormsRow : OpenClaim := { program := "ytdjoekckhmggbaa", sum := "9c6b2036abbe864d5550d47af96925c67e1aec2577c99759760d2194cd7b81f4", func := "proctor/proctorlaw02.RlpForms", spec := "rlpForms", unfollowed := true, recurses := true, apart := false }
def RlpFormsSaid : Prop := rlpFormsRow.holds Try.pinned (OpenSpec.ofChange rlpFormsSpec)

/-- ITS FALSE NEIGHBOUR: 'it returns false'. Refute it at one input. -/
def rlpFormsWrong : ChangeSpec := { name := "rlpForms", fn := fun _ => fun
  | [d1, d2] => { results := [.lit (.bool false)], args := [d1, d2] }
  | _ => none }
def RlpFormsWrongFalsely : Prop := rlpFormsRow.holds Try.pinned (OpenSpec.ofChange rlpFormsWrong)

/-- 'proctorlaw02.RlpEncodes': WHATEVER THE INPUT: true; the input reads as it did. -/
def rlpEncodesSpec : ChangeSpec := { name := "rlpEncodes", fn := fun _ => fun
  | [d1, d2] => { results := [.lit (.bool true)], args := [d1, d2] }
  | _ => none }
def rlpEncodesRow : OpenClaim := { program := "ytdjoekckhmggbaa", sum := "9c6b2036abbe864d5550d47af96925c67e1aec2577c99759760d2194cd7b81f4", func := "proctor/proctorlaw02.RlpEncodes", spec := "rlpEncodes", unfollowed := true, recurses := true, loops := true, apart := false }
def RlpEncodesSaid : Prop := rlpEncodesRow.holds Try.pinned (OpenSpec.ofChange rlpEncodesSpec)

/-- ITS FALSE NEIGHBOUR: 'it returns false'. Refute it at one input. -/
def rlpEncodesWrong : ChangeSpec := { name := "rlpEncodes", fn := fun _ => fun
  | [d1, d2] => { results := [.lit (.bool false)], args := [d1, d2] }
  | _ => none }
def RlpEncodesWrongFalsely : Prop := rlpEncodesRow.holds Try.pinned (OpenSpec.ofChange rlpEncodesWrong)

/-- 'proctorlaw02.RlpBack': WHATEVER THE INPUT: true; the input reads as it did. -/
def rlpBackSpec : ChangeSpec := { name := "rlpBack", fn := fun _ => fun
  | [d1, d2] => { results := [.lit (.bool true)], args := [d1, d2] }
  | _ => none }
def rlpBackRow : OpenClaim := { program := "ytdjoekckhmggbaa", sum := "9c6b2036abbe864d5550d47af96925c67e1aec2577c99759760d2194cd7b81f4", func := "proctor/proctorlaw02.RlpBack", spec := "rlpBack", unfollowed := true, recurses := true, loops := true, apart := false }
def RlpBackSaid : Prop := rlpBackRow.holds Try.pinned (OpenSpec.ofChange rlpBackSpec)

/-- ITS FALSE NEIGHBOUR: 'it returns false'. Refute it at one input. -/
def rlpBackWrong : ChangeSpec := { name := "rlpBack", fn := fun _ => fun
  | [d1, d2] => { results := [.lit (.bool false)], args := [d1, d2] }
  | _ => none }
def RlpBackWrongFalsely : Prop := rlpBackRow.holds Try.pinned (OpenSpec.ofChange rlpBackWrong)

/-- 'proctorlaw03.FrameBytes': WHATEVER THE INPUT: true; the input reads as it did. -/
def frameBytesSpec : ChangeSpec := { name := "frameBytes", fn := fun _ => fun
  | [d1, d2] => { results := [.lit (.bool true)], args := [d1, d2] }
  | _ => none }
def frameBytesRow : OpenClaim := { program := "ytdjoekckhmggbaa", sum := "9c6b2036abbe864d5550d47af96925c67e1aec2577c99759760d2194cd7b81f4", func := "proctor/proctorlaw03.FrameBytes", spec := "frameBytes", unfollowed := true, recurses := true, apart := false }
def FrameBytesSaid : Prop := frameBytesRow.holds Try.pinned (OpenSpec.ofChange frameBytesSpec)

/-- ITS FALSE NEIGHBOUR: 'it returns false'. Refute it at one input. -/
def frameBytesWrong : ChangeSpec := { name := "frameBytes", fn := fun _ => fun
  | [d1, d2] => { results := [.lit (.bool false)], args := [d1, d2] }
  | _ => none }
def FrameBytesWrongFalsely : Prop := frameBytesRow.holds Try.pinned (OpenSpec.ofChange frameBytesWrong)

/-- 'proctorlaw03.FrameForms': WHATEVER THE INPUT: true; the input reads as it did. -/
def frameFormsSpec : ChangeSpec := { name := "frameForms", fn := fun _ => fun
  | [d1, d2] => { results := [.lit (.bool true)], args := [d1, d2] }
  | _ => none }
def frameFormsRow : OpenClaim := { program := "ytdjoekckhmggbaa", sum := "9c6b2036abbe864d5550d47af96925c67e1aec2577c99759760d2194cd7b81f4", func := "proctor/proctorlaw03.FrameForms", spec := "frameForms", unfollowed := true, recurses := true, apart := false }
def FrameFormsSaid : Prop := frameFormsRow.holds Try.pinned (OpenSpec.ofChange frameFormsSpec)

/-- ITS FALSE NEIGHBOUR: 'it returns false'. Refute it at one input. -/
def frameFormsWrong : ChangeSpec := { name := "frameForms", fn := fun _ => fun
  | [d1, d2] => { results := [.lit (.bool false)], args := [d1, d2] }
  | _ => none }
def FrameFormsWrongFalsely : Prop := frameFormsRow.holds Try.pinned (OpenSpec.ofChange frameFormsWrong)

/- THE SECOND FORM. 'bulk': how many values and letters a reading holds, each counted each time it is reached (what is shared counts as often as it is met; a slice's spare places count too). A statement '..UptoSaid' is the law's where the arguments, and the package variables that the reading takes, are together of bulk at most 1048576: NARROWER than '..Said'. Prove '..Said' where nothing that the law and all that it calls make is longer than what came in: it says more and counts as full. Else prove '..UptoSaid'. A law counts once. -/
mutual
def uptoBulk {H : Type} : DataW H → Nat
  | .lit (.string bytes) => bytes.length + 1
  | .lit _ => 1
  | .nil => 1
  | .ptr d => uptoBulk d + 1
  | .slice elems spare => uptoBulkAll elems + uptoBulkAll spare + 1
  | .agg parts => uptoBulkAll parts + 1
  | .iface _ d => uptoBulk d + 1
  | .map entries => uptoBulkEntries entries + 1
  | .held _ => 1
def uptoBulkAll {H : Type} : List (DataW H) → Nat
  | [] => 0
  | d :: r => uptoBulk d + uptoBulkAll r
def uptoBulkEntries {H : Type} : List (Lit × DataW H) → Nat
  | [] => 0
  | x :: r => uptoBulkEntry x + uptoBulkEntries r
def uptoBulkEntry {H : Type} : Lit × DataW H → Nat
  | (.string bytes, d) => bytes.length + uptoBulk d + 1
  | (_, d) => uptoBulk d + 1
 end
def uptoSmall : (H : Type) → List (DataW H) → Bool := fun _ ds => decide (uptoBulkAll ds ≤ 1048576)
def OpenSpec.upto (s : _root_.Go.ChangeSpec) : _root_.Go.OpenSpec := { _root_.Go.OpenSpec.ofChange s with cond := some uptoSmall }

/-- 'proctorlaw03.FrameJoins', WHERE WHAT IT READS IS OF BULK AT MOST 1048576: true; the input reads as it did. -/
def frameJoinsUptoRow : OpenClaim := { program := "ytdjoekckhmggbaa", sum := "9c6b2036abbe864d5550d47af96925c67e1aec2577c99759760d2194cd7b81f4", func := "proctor/proctorlaw03.FrameJoins", spec := "frameJoins", unfollowed := true, recurses := true, apart := false, narrowed := true }
def FrameJoinsUptoSaid : Prop := frameJoinsUptoRow.holds Try.pinned (OpenSpec.upto frameJoinsSpec)

/-- 'proctorlaw03.FrameBack', WHERE WHAT IT READS IS OF BULK AT MOST 1048576: true; the input reads as it did. -/
def frameBackUptoRow : OpenClaim := { program := "ytdjoekckhmggbaa", sum := "9c6b2036abbe864d5550d47af96925c67e1aec2577c99759760d2194cd7b81f4", func := "proctor/proctorlaw03.FrameBack", spec := "frameBack", unfollowed := true, recurses := true, apart := false, narrowed := true }
def FrameBackUptoSaid : Prop := frameBackUptoRow.holds Try.pinned (OpenSpec.upto frameBackSpec)

/-- 'proctorlaw03.FrameFresh', WHERE WHAT IT READS IS OF BULK AT MOST 1048576: true; the input reads as it did. -/
def frameFreshUptoRow : OpenClaim := { program := "ytdjoekckhmggbaa", sum := "9c6b2036abbe864d5550d47af96925c67e1aec2577c99759760d2194cd7b81f4", func := "proctor/proctorlaw03.FrameFresh", spec := "frameFresh", unfollowed := true, recurses := true, apart := false, narrowed := true }
def FrameFreshUptoSaid : Prop := frameFreshUptoRow.holds Try.pinned (OpenSpec.upto frameFreshSpec)

/-- 'proctorlaw02.RlpDecodes', WHERE WHAT IT READS IS OF BULK AT MOST 1048576: true; the input reads as it did. -/
def rlpDecodesUptoRow : OpenClaim := { program := "ytdjoekckhmggbaa", sum := "9c6b2036abbe864d5550d47af96925c67e1aec2577c99759760d2194cd7b81f4", func := "proctor/proctorlaw02.RlpDecodes", spec := "rlpDecodes", unfollowed := true, recurses := true, apart := false, narrowed := true }
def RlpDecodesUptoSaid : Prop := rlpDecodesUptoRow.holds Try.pinned (OpenSpec.upto rlpDecodesSpec)

/-- 'proctorlaw02.RlpFresh', WHERE WHAT IT READS IS OF BULK AT MOST 1048576: true; the input reads as it did. -/
def rlpFreshUptoRow : OpenClaim := { program := "ytdjoekckhmggbaa", sum := "9c6b2036abbe864d5550d47af96925c67e1aec2577c99759760d2194cd7b81f4", func := "proctor/proctorlaw02.RlpFresh", spec := "rlpFresh", unfollowed := true, recurses := true, apart := false, narrowed := true }
def RlpFreshUptoSaid : Prop := rlpFreshUptoRow.holds Try.pinned (OpenSpec.upto rlpFreshSpec)

/-- 'proctorlaw02.RlpNums', WHERE WHAT IT READS IS OF BULK AT MOST 1048576: true; the input reads as it did. -/
def rlpNumsUptoRow : OpenClaim := { program := "ytdjoekckhmggbaa", sum := "9c6b2036abbe864d5550d47af96925c67e1aec2577c99759760d2194cd7b81f4", func := "proctor/proctorlaw02.RlpNums", spec := "rlpNums", unfollowed := true, recurses := true, loops := true, apart := false, narrowed := true }
def RlpNumsUptoSaid : Prop := rlpNumsUptoRow.holds Try.pinned (OpenSpec.upto rlpNumsSpec)

/-- 'proctorlaw02.RlpForms', WHERE WHAT IT READS IS OF BULK AT MOST 1048576: true; the input reads as it did. -/
def rlpFormsUptoRow : OpenClaim := { program := "ytdjoekckhmggbaa", sum := "9c6b2036abbe864d5550d47af96925c67e1aec2577c99759760d2194cd7b81f4", func := "proctor/proctorlaw02.RlpForms", spec := "rlpForms", unfollowed := true, recurses := true, apart := false, narrowed := true }
def RlpFormsUptoSaid : Prop := rlpFormsUptoRow.holds Try.pinned (OpenSpec.upto rlpFormsSpec)

/-- 'proctorlaw02.RlpEncodes', WHERE WHAT IT READS IS OF BULK AT MOST 1048576: true; the input reads as it did. -/
def rlpEncodesUptoRow : OpenClaim := { program := "ytdjoekckhmggbaa", sum := "9c6b2036abbe864d5550d47af96925c67e1aec2577c99759760d2194cd7b81f4", func := "proctor/proctorlaw02.RlpEncodes", spec := "rlpEncodes", unfollowed := true, recurses := true, loops := true, apart := false, narrowed := true }
def RlpEncodesUptoSaid : Prop := rlpEncodesUptoRow.holds Try.pinned (OpenSpec.upto rlpEncodesSpec)

/-- 'proctorlaw02.RlpBack', WHERE WHAT IT READS IS OF BULK AT MOST 1048576: true; the input reads as it did. -/
def rlpBackUptoRow : OpenClaim := { program := "ytdjoekckhmggbaa", sum := "9c6b2036abbe864d5550d47af96925c67e1aec2577c99759760d2194cd7b81f4", func := "proctor/proctorlaw02.RlpBack", spec := "rlpBack", unfollowed := true, recurses := true, loops := true, apart := false, narrowed := true }
def RlpBackUptoSaid : Prop := rlpBackUptoRow.holds Try.pinned (OpenSpec.upto rlpBackSpec)

/-- 'proctorlaw03.FrameBytes', WHERE WHAT IT READS IS OF BULK AT MOST 1048576: true; the input reads as it did. -/
def frameBytesUptoRow : OpenClaim := { program := "ytdjoekckhmggbaa", sum := "9c6b2036abbe864d5550d47af96925c67e1aec2577c99759760d2194cd7b81f4", func := "proctor/proctorlaw03.FrameBytes", spec := "frameBytes", unfollowed := true, recurses := true, apart := false, narrowed := true }
def FrameBytesUptoSaid : Prop := frameBytesUptoRow.holds Try.pinned (OpenSpec.upto frameBytesSpec)

/-- 'proctorlaw03.FrameForms', WHERE WHAT IT READS IS OF BULK AT MOST 1048576: true; the input reads as it did. -/
def frameFormsUptoRow : OpenClaim := { program := "ytdjoekckhmggbaa", sum := "9c6b2036abbe864d5550d47af96925c67e1aec2577c99759760d2194cd7b81f4", func := "proctor/proctorlaw03.FrameForms", spec := "frameForms", unfollowed := true, recurses := true, apart := false, narrowed := true }
def FrameFormsUptoSaid : Prop := frameFormsUptoRow.holds Try.pinned (OpenSpec.upto frameFormsSpec)

end Rows
end Go.Proofs.Ytdjoekckhmggbaa
