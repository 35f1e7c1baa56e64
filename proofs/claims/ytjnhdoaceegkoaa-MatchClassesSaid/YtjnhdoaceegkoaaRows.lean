/-
  NARROWER THAN 'FOR EVERY INPUT', by the rows' own cells (each row's printed sentence says how): MatchTells: loops.
  DERIVED. THE GIVEN ROWS OF THIS SEAT. 8 by the template 'for every input the law returns true; each argument reads behind the call as it read before'; 0 by the template 'total and deterministic' (their statements: YtjnhdoaceegkoaaTotals.lean).
  GIVEN WITH THE SEED: the statements are not yours to turn. If you find one false, say at which input.
  Laid BY PROGRAM, IN A SANDBOX (cutbox-rows.mjs): the forced cells as the released guide's own fill.sh prints them over the translation 493e419b07296e1f… (all of the seat's roots in one cut). By AI agents, Wed Nov 11 2026. No macro, syntax, notation, axiom, sorry.
-/
import Derived.Test.YtjnhdoaceegkoaaChecked
import GoSem.Claim
import GoSem.ClaimJoined
import GoSem.ClaimMapViews
import Derived.JoinedTies
import Derived.KernelRfl
namespace Go.Proofs.Ytjnhdoaceegkoaa
/- THE CELL 'sum', in the pinned program and in every row, IS THE sha256 OF THE DUMP (.gsa) THAT YtjnhdoaceegkoaaProg.lean LOADS. Nothing in Lean hashes anything: it is a label: what it is worth is what the hold of that sum in a sandbox is worth. -/
noncomputable def Try.pinned : Pinned := { name := "ytjnhdoaceegkoaa", sum := "493e419b07296e1f2353193d17d105fdb4ce5594d065d33f5aab61a7699fbc9c", checked := Try.checked }
namespace Rows
def none {H : Type} : Left H := { results := [], args := [] }

/-- 'oriellaw31.GroupMakes': WHATEVER THE INPUT: true; the input reads as it did. -/
def groupMakesSpec : ChangeSpec := { name := "groupMakes", fn := fun _ => fun
  | [d] => { results := [.lit (.bool true)], args := [d] }
  | _ => none }
def groupMakesRow : OpenClaim := { program := "ytjnhdoaceegkoaa", sum := "493e419b07296e1f2353193d17d105fdb4ce5594d065d33f5aab61a7699fbc9c", func := "oriel/oriellaw31.GroupMakes", spec := "groupMakes", inPlace := ["internal/bytealg.IndexByteString", "internal/bytealg.IndexString"], unfollowed := true, recurses := true, named := ["internal/bytealg.MaxLen"], plainKeys := false, apart := false }
def GroupMakesSaid : Prop := groupMakesRow.holds Try.pinned (OpenSpec.ofChange groupMakesSpec)

/-- ITS FALSE NEIGHBOUR: 'it returns false'. Refute it at one input. -/
def groupMakesWrong : ChangeSpec := { name := "groupMakes", fn := fun _ => fun
  | [d] => { results := [.lit (.bool false)], args := [d] }
  | _ => none }
def GroupMakesWrongFalsely : Prop := groupMakesRow.holds Try.pinned (OpenSpec.ofChange groupMakesWrong)

/-- 'oriellaw31.GroupAlike': WHATEVER THE INPUT: true; the input reads as it did. -/
def groupAlikeSpec : ChangeSpec := { name := "groupAlike", fn := fun _ => fun
  | [d1, d2] => { results := [.lit (.bool true)], args := [d1, d2] }
  | _ => none }
def groupAlikeRow : OpenClaim := { program := "ytjnhdoaceegkoaa", sum := "493e419b07296e1f2353193d17d105fdb4ce5594d065d33f5aab61a7699fbc9c", func := "oriel/oriellaw31.GroupAlike", spec := "groupAlike", inPlace := ["internal/bytealg.IndexByteString", "internal/bytealg.IndexString"], unfollowed := true, recurses := true, named := ["internal/bytealg.MaxLen"], plainKeys := false, apart := false }
def GroupAlikeSaid : Prop := groupAlikeRow.holds Try.pinned (OpenSpec.ofChange groupAlikeSpec)

/-- ITS FALSE NEIGHBOUR: 'it returns false'. Refute it at one input. -/
def groupAlikeWrong : ChangeSpec := { name := "groupAlike", fn := fun _ => fun
  | [d1, d2] => { results := [.lit (.bool false)], args := [d1, d2] }
  | _ => none }
def GroupAlikeWrongFalsely : Prop := groupAlikeRow.holds Try.pinned (OpenSpec.ofChange groupAlikeWrong)

/-- 'oriellaw31.GroupWhole': WHATEVER THE INPUT: true; the input reads as it did. -/
def groupWholeSpec : ChangeSpec := { name := "groupWhole", fn := fun _ => fun
  | [d] => { results := [.lit (.bool true)], args := [d] }
  | _ => none }
def groupWholeRow : OpenClaim := { program := "ytjnhdoaceegkoaa", sum := "493e419b07296e1f2353193d17d105fdb4ce5594d065d33f5aab61a7699fbc9c", func := "oriel/oriellaw31.GroupWhole", spec := "groupWhole", inPlace := ["internal/bytealg.IndexByteString", "internal/bytealg.IndexString"], unfollowed := true, recurses := true, named := ["internal/bytealg.MaxLen"], plainKeys := false, apart := false }
def GroupWholeSaid : Prop := groupWholeRow.holds Try.pinned (OpenSpec.ofChange groupWholeSpec)

/-- ITS FALSE NEIGHBOUR: 'it returns false'. Refute it at one input. -/
def groupWholeWrong : ChangeSpec := { name := "groupWhole", fn := fun _ => fun
  | [d] => { results := [.lit (.bool false)], args := [d] }
  | _ => none }
def GroupWholeWrongFalsely : Prop := groupWholeRow.holds Try.pinned (OpenSpec.ofChange groupWholeWrong)

/-- 'oriellaw12.MatchLinks': WHATEVER THE INPUT: true; the input reads as it did. -/
def matchLinksSpec : ChangeSpec := { name := "matchLinks", fn := fun _ => fun
  | [d1, d2, d3, d4] => { results := [.lit (.bool true)], args := [d1, d2, d3, d4] }
  | _ => none }
def matchLinksRow : OpenClaim := { program := "ytjnhdoaceegkoaa", sum := "493e419b07296e1f2353193d17d105fdb4ce5594d065d33f5aab61a7699fbc9c", func := "oriel/oriellaw12.MatchLinks", spec := "matchLinks", unfollowed := true, recurses := true, plainKeys := false, apart := false }
def MatchLinksSaid : Prop := matchLinksRow.holds Try.pinned (OpenSpec.ofChange matchLinksSpec)

/-- ITS FALSE NEIGHBOUR: 'it returns false'. Refute it at one input. -/
def matchLinksWrong : ChangeSpec := { name := "matchLinks", fn := fun _ => fun
  | [d1, d2, d3, d4] => { results := [.lit (.bool false)], args := [d1, d2, d3, d4] }
  | _ => none }
def MatchLinksWrongFalsely : Prop := matchLinksRow.holds Try.pinned (OpenSpec.ofChange matchLinksWrong)

/-- 'oriellaw12.MatchClasses': WHATEVER THE INPUT: true; the input reads as it did. -/
def matchClassesSpec : ChangeSpec := { name := "matchClasses", fn := fun _ => fun
  | [d1, d2, d3, d4] => { results := [.lit (.bool true)], args := [d1, d2, d3, d4] }
  | _ => none }
def matchClassesRow : OpenClaim := { program := "ytjnhdoaceegkoaa", sum := "493e419b07296e1f2353193d17d105fdb4ce5594d065d33f5aab61a7699fbc9c", func := "oriel/oriellaw12.MatchClasses", spec := "matchClasses", unfollowed := true, recurses := true, plainKeys := false, apart := false }
def MatchClassesSaid : Prop := matchClassesRow.holds Try.pinned (OpenSpec.ofChange matchClassesSpec)

/-- ITS FALSE NEIGHBOUR: 'it returns false'. Refute it at one input. -/
def matchClassesWrong : ChangeSpec := { name := "matchClasses", fn := fun _ => fun
  | [d1, d2, d3, d4] => { results := [.lit (.bool false)], args := [d1, d2, d3, d4] }
  | _ => none }
def MatchClassesWrongFalsely : Prop := matchClassesRow.holds Try.pinned (OpenSpec.ofChange matchClassesWrong)

/-- 'oriellaw32.WhyPaths': WHATEVER THE INPUT: true; the input reads as it did. -/
def whyPathsSpec : ChangeSpec := { name := "whyPaths", fn := fun _ => fun
  | [d1, d2, d3] => { results := [.lit (.bool true)], args := [d1, d2, d3] }
  | _ => none }
def whyPathsRow : OpenClaim := { program := "ytjnhdoaceegkoaa", sum := "493e419b07296e1f2353193d17d105fdb4ce5594d065d33f5aab61a7699fbc9c", func := "oriel/oriellaw32.WhyPaths", spec := "whyPaths", unfollowed := true, recurses := true, plainKeys := false, apart := false }
def WhyPathsSaid : Prop := whyPathsRow.holds Try.pinned (OpenSpec.ofChange whyPathsSpec)

/-- ITS FALSE NEIGHBOUR: 'it returns false'. Refute it at one input. -/
def whyPathsWrong : ChangeSpec := { name := "whyPaths", fn := fun _ => fun
  | [d1, d2, d3] => { results := [.lit (.bool false)], args := [d1, d2, d3] }
  | _ => none }
def WhyPathsWrongFalsely : Prop := whyPathsRow.holds Try.pinned (OpenSpec.ofChange whyPathsWrong)

/-- 'oriellaw32.WhySteps': WHATEVER THE INPUT: true; the input reads as it did. -/
def whyStepsSpec : ChangeSpec := { name := "whySteps", fn := fun _ => fun
  | [d1, d2, d3, d4] => { results := [.lit (.bool true)], args := [d1, d2, d3, d4] }
  | _ => none }
def whyStepsRow : OpenClaim := { program := "ytjnhdoaceegkoaa", sum := "493e419b07296e1f2353193d17d105fdb4ce5594d065d33f5aab61a7699fbc9c", func := "oriel/oriellaw32.WhySteps", spec := "whySteps", unfollowed := true, recurses := true, plainKeys := false, apart := false }
def WhyStepsSaid : Prop := whyStepsRow.holds Try.pinned (OpenSpec.ofChange whyStepsSpec)

/-- ITS FALSE NEIGHBOUR: 'it returns false'. Refute it at one input. -/
def whyStepsWrong : ChangeSpec := { name := "whySteps", fn := fun _ => fun
  | [d1, d2, d3, d4] => { results := [.lit (.bool false)], args := [d1, d2, d3, d4] }
  | _ => none }
def WhyStepsWrongFalsely : Prop := whyStepsRow.holds Try.pinned (OpenSpec.ofChange whyStepsWrong)

/-- 'oriellaw12.MatchTells': WHATEVER THE INPUT: true; the input reads as it did. -/
def matchTellsSpec : ChangeSpec := { name := "matchTells", fn := fun _ => fun
  | [d1, d2] => { results := [.lit (.bool true)], args := [d1, d2] }
  | _ => none }
def matchTellsRow : OpenClaim := { program := "ytjnhdoaceegkoaa", sum := "493e419b07296e1f2353193d17d105fdb4ce5594d065d33f5aab61a7699fbc9c", func := "oriel/oriellaw12.MatchTells", spec := "matchTells", unfollowed := true, recurses := true, loops := true, plainKeys := false, apart := false }
def MatchTellsSaid : Prop := matchTellsRow.holds Try.pinned (OpenSpec.ofChange matchTellsSpec)

/-- ITS FALSE NEIGHBOUR: 'it returns false'. Refute it at one input. -/
def matchTellsWrong : ChangeSpec := { name := "matchTells", fn := fun _ => fun
  | [d1, d2] => { results := [.lit (.bool false)], args := [d1, d2] }
  | _ => none }
def MatchTellsWrongFalsely : Prop := matchTellsRow.holds Try.pinned (OpenSpec.ofChange matchTellsWrong)

/- THE SECOND FORM. 'bulk': how many values and letters a reading holds, each counted each time it is reached (what is shared counts as often as it is met; a slice's spare places count too). A statement '..UptoSaid' is the law's where the arguments, and the package variables that the reading takes, are together of bulk at most 1048576: NARROWER than '..Said'. Prove '..Said' where nothing that the law and all that it calls make is longer than what came in: it says more and counts as full. Else prove '..UptoSaid'. A law counts once. -/
mutual
def uptoBulk {H : Type} : DataW H → Nat
  | .lit (.string bytes) => bytes.length + 1
  | .lit _ => 1
  | .nil => 1
  | .ptr d => uptoBulk d + 1
  | .slice elems spare => uptoBulkAll elems + uptoBulkAll spare + 1
  | .agg parts => uptoBulkAll parts + 1
  | .iface _ d => uptoBulk d + 1
  | .map entries => uptoBulkEntries entries + 1
  | .held _ => 1
def uptoBulkAll {H : Type} : List (DataW H) → Nat
  | [] => 0
  | d :: r => uptoBulk d + uptoBulkAll r
def uptoBulkEntries {H : Type} : List (Lit × DataW H) → Nat
  | [] => 0
  | x :: r => uptoBulkEntry x + uptoBulkEntries r
def uptoBulkEntry {H : Type} : Lit × DataW H → Nat
  | (.string bytes, d) => bytes.length + uptoBulk d + 1
  | (_, d) => uptoBulk d + 1
 end
def uptoSmall : (H : Type) → List (DataW H) → Bool := fun _ ds => decide (uptoBulkAll ds ≤ 1048576)
def OpenSpec.upto (s : _root_.Go.ChangeSpec) : _root_.Go.OpenSpec := { _root_.Go.OpenSpec.ofChange s with cond := some uptoSmall }

/-- 'oriellaw31.GroupMakes', WHERE WHAT IT READS IS OF BULK AT MOST 1048576: true; the input reads as it did. -/
def groupMakesUptoRow : OpenClaim := { program := "ytjnhdoaceegkoaa", sum := "493e419b07296e1f2353193d17d105fdb4ce5594d065d33f5aab61a7699fbc9c", func := "oriel/oriellaw31.GroupMakes", spec := "groupMakes", inPlace := ["internal/bytealg.IndexByteString", "internal/bytealg.IndexString"], unfollowed := true, recurses := true, named := ["internal/bytealg.MaxLen"], plainKeys := false, apart := false, narrowed := true }
def GroupMakesUptoSaid : Prop := groupMakesUptoRow.holds Try.pinned (OpenSpec.upto groupMakesSpec)

/-- 'oriellaw31.GroupAlike', WHERE WHAT IT READS IS OF BULK AT MOST 1048576: true; the input reads as it did. -/
def groupAlikeUptoRow : OpenClaim := { program := "ytjnhdoaceegkoaa", sum := "493e419b07296e1f2353193d17d105fdb4ce5594d065d33f5aab61a7699fbc9c", func := "oriel/oriellaw31.GroupAlike", spec := "groupAlike", inPlace := ["internal/bytealg.IndexByteString", "internal/bytealg.IndexString"], unfollowed := true, recurses := true, named := ["internal/bytealg.MaxLen"], plainKeys := false, apart := false, narrowed := true }
def GroupAlikeUptoSaid : Prop := groupAlikeUptoRow.holds Try.pinned (OpenSpec.upto groupAlikeSpec)

/-- 'oriellaw31.GroupWhole', WHERE WHAT IT READS IS OF BULK AT MOST 1048576: true; the input reads as it did. -/
def groupWholeUptoRow : OpenClaim := { program := "ytjnhdoaceegkoaa", sum := "493e419b07296e1f2353193d17d105fdb4ce5594d065d33f5aab61a7699fbc9c", func := "oriel/oriellaw31.GroupWhole", spec := "groupWhole", inPlace := ["internal/bytealg.IndexByteString", "internal/bytealg.IndexString"], unfollowed := true, recurses := true, named := ["internal/bytealg.MaxLen"], plainKeys := false, apart := false, narrowed := true }
def GroupWholeUptoSaid : Prop := groupWholeUptoRow.holds Try.pinned (OpenSpec.upto groupWholeSpec)

/-- 'oriellaw12.MatchLinks', WHERE WHAT IT READS IS OF BULK AT MOST 1048576: true; the input reads as it did. -/
def matchLinksUptoRow : OpenClaim := { program := "ytjnhdoaceegkoaa", sum := "493e419b07296e1f2353193d17d105fdb4ce5594d065d33f5aab61a7699fbc9c", func := "oriel/oriellaw12.MatchLinks", spec := "matchLinks", unfollowed := true, recurses := true, plainKeys := false, apart := false, narrowed := true }
def MatchLinksUptoSaid : Prop := matchLinksUptoRow.holds Try.pinned (OpenSpec.upto matchLinksSpec)

/-- 'oriellaw12.MatchClasses', WHERE WHAT IT READS IS OF BULK AT MOST 1048576: true; the input reads as it did. -/
def matchClassesUptoRow : OpenClaim := { program := "ytjnhdoaceegkoaa", sum := "493e419b07296e1f2353193d17d105fdb4ce5594d065d33f5aab61a7699fbc9c", func := "oriel/oriellaw12.MatchClasses", spec := "matchClasses", unfollowed := true, recurses := true, plainKeys := false, apart := false, narrowed := true }
def MatchClassesUptoSaid : Prop := matchClassesUptoRow.holds Try.pinned (OpenSpec.upto matchClassesSpec)

/-- 'oriellaw32.WhyPaths', WHERE WHAT IT READS IS OF BULK AT MOST 1048576: true; the input reads as it did. -/
def whyPathsUptoRow : OpenClaim := { program := "ytjnhdoaceegkoaa", sum := "493e419b07296e1f2353193d17d105fdb4ce5594d065d33f5aab61a7699fbc9c", func := "oriel/oriellaw32.WhyPaths", spec := "whyPaths", unfollowed := true, recurses := true, plainKeys := false, apart := false, narrowed := true }
def WhyPathsUptoSaid : Prop := whyPathsUptoRow.holds Try.pinned (OpenSpec.upto whyPathsSpec)

/-- 'oriellaw32.WhySteps', WHERE WHAT IT READS IS OF BULK AT MOST 1048576: true; the input reads as it did. -/
def whyStepsUptoRow : OpenClaim := { program := "ytjnhdoaceegkoaa", sum := "493e419b07296e1f2353193d17d105fdb4ce5594d065d33f5aab61a7699fbc9c", func := "oriel/oriellaw32.WhySteps", spec := "whySteps", unfollowed := true, recurses := true, plainKeys := false, apart := false, narrowed := true }
def WhyStepsUptoSaid : Prop := whyStepsUptoRow.holds Try.pinned (OpenSpec.upto whyStepsSpec)

/-- 'oriellaw12.MatchTells', WHERE WHAT IT READS IS OF BULK AT MOST 1048576: true; the input reads as it did. -/
def matchTellsUptoRow : OpenClaim := { program := "ytjnhdoaceegkoaa", sum := "493e419b07296e1f2353193d17d105fdb4ce5594d065d33f5aab61a7699fbc9c", func := "oriel/oriellaw12.MatchTells", spec := "matchTells", unfollowed := true, recurses := true, loops := true, plainKeys := false, apart := false, narrowed := true }
def MatchTellsUptoSaid : Prop := matchTellsUptoRow.holds Try.pinned (OpenSpec.upto matchTellsSpec)

end Rows
end Go.Proofs.Ytjnhdoaceegkoaa
