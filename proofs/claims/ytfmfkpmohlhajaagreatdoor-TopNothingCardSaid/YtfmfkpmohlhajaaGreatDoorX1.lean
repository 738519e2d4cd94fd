/-
  The table's functions that are not taken by their own code: none so far.
-/
import Derived.Test.YtfmfkpmohlhajaaGreatDoorAMb
import Derived.Test.YtfmfkpmohlhajaaGreatDoorProg
namespace Go.AM
open Go

/-- A function of the shelf. -/
def extLib : FuncId → Option (List AV → Heap → Option (AV × Heap)) := fun _ => none

end Go.AM
