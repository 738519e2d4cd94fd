/-
  No cell of these rows narrows 'for every input' (looked for: loops, veiled, ifaces, maps, wideKeys, modest, calm, conditions, laid).
  DERIVED. THE GIVEN ROWS OF THIS SEAT. 26 by the template 'for every input the law returns true; each argument reads behind the call as it read before'; 0 by the template 'total and deterministic' (their statements: YtamidpfdiijjgaaTotals.lean).
  GIVEN WITH THE SEED: the statements are not yours to turn. If you find one false, say at which input.
  Laid BY PROGRAM, IN A SANDBOX (cutbox-rows.mjs): the forced cells as the released guide's own fill.sh prints them over the translation a9cdcb11dedaa768… (all of the seat's roots in one cut). By AI agents, Wed Nov 11 2026. No macro, syntax, notation, axiom, sorry.
-/
import Derived.Test.YtamidpfdiijjgaaChecked
import GoSem.Claim
import GoSem.ClaimJoined
import GoSem.ClaimMapViews
import Derived.JoinedTies
import Derived.KernelRfl
namespace Go.Proofs.Ytamidpfdiijjgaa
/- THE CELL 'sum', in the pinned program and in every row, IS THE sha256 OF THE DUMP (.gsa) THAT YtamidpfdiijjgaaProg.lean LOADS. Nothing in Lean hashes anything: it is a label: what it is worth is what the hold of that sum in a sandbox is worth. -/
noncomputable def Try.pinned : Pinned := { name := "ytamidpfdiijjgaa", sum := "a9cdcb11dedaa76884983aa992305e61d696d24e08243cf08eace89bba458c38", checked := Try.checked }
namespace Rows
def none {H : Type} : Left H := { results := [], args := [] }

/-- 'rampartlaw13.TrieOrder': WHATEVER THE INPUT: true; the input reads as it did. -/
def trieOrderSpec : ChangeSpec := { name := "trieOrder", fn := fun _ => fun
  | [d1, d2] => { results := [.lit (.bool true)], args := [d1, d2] }
  | _ => none }
def trieOrderRow : OpenClaim := { program := "ytamidpfdiijjgaa", sum := "a9cdcb11dedaa76884983aa992305e61d696d24e08243cf08eace89bba458c38", func := "rampart/rampartlaw13.TrieOrder", spec := "trieOrder", plainKeys := false, apart := false }
def TrieOrderSaid : Prop := trieOrderRow.holds Try.pinned (OpenSpec.ofChange trieOrderSpec)

/-- ITS FALSE NEIGHBOUR: 'it returns false'. Refute it at one input. -/
def trieOrderWrong : ChangeSpec := { name := "trieOrder", fn := fun _ => fun
  | [d1, d2] => { results := [.lit (.bool false)], args := [d1, d2] }
  | _ => none }
def TrieOrderWrongFalsely : Prop := trieOrderRow.holds Try.pinned (OpenSpec.ofChange trieOrderWrong)

/-- 'rampartlaw13.TrieDepths': WHATEVER THE INPUT: true; the input reads as it did. -/
def trieDepthsSpec : ChangeSpec := { name := "trieDepths", fn := fun _ => fun
  | [d1, d2] => { results := [.lit (.bool true)], args := [d1, d2] }
  | _ => none }
def trieDepthsRow : OpenClaim := { program := "ytamidpfdiijjgaa", sum := "a9cdcb11dedaa76884983aa992305e61d696d24e08243cf08eace89bba458c38", func := "rampart/rampartlaw13.TrieDepths", spec := "trieDepths", plainKeys := false, apart := false }
def TrieDepthsSaid : Prop := trieDepthsRow.holds Try.pinned (OpenSpec.ofChange trieDepthsSpec)

/-- ITS FALSE NEIGHBOUR: 'it returns false'. Refute it at one input. -/
def trieDepthsWrong : ChangeSpec := { name := "trieDepths", fn := fun _ => fun
  | [d1, d2] => { results := [.lit (.bool false)], args := [d1, d2] }
  | _ => none }
def TrieDepthsWrongFalsely : Prop := trieDepthsRow.holds Try.pinned (OpenSpec.ofChange trieDepthsWrong)

/-- 'rampartlaw13.TriePlays': WHATEVER THE INPUT: true; the input reads as it did. -/
def triePlaysSpec : ChangeSpec := { name := "triePlays", fn := fun _ => fun
  | [d1, d2, d3] => { results := [.lit (.bool true)], args := [d1, d2, d3] }
  | _ => none }
def triePlaysRow : OpenClaim := { program := "ytamidpfdiijjgaa", sum := "a9cdcb11dedaa76884983aa992305e61d696d24e08243cf08eace89bba458c38", func := "rampart/rampartlaw13.TriePlays", spec := "triePlays", plainKeys := false, apart := false }
def TriePlaysSaid : Prop := triePlaysRow.holds Try.pinned (OpenSpec.ofChange triePlaysSpec)

/-- ITS FALSE NEIGHBOUR: 'it returns false'. Refute it at one input. -/
def triePlaysWrong : ChangeSpec := { name := "triePlays", fn := fun _ => fun
  | [d1, d2, d3] => { results := [.lit (.bool false)], args := [d1, d2, d3] }
  | _ => none }
def TriePlaysWrongFalsely : Prop := triePlaysRow.holds Try.pinned (OpenSpec.ofChange triePlaysWrong)

/-- 'rampartlaw16.ChainAll': WHATEVER THE INPUT: true; the input reads as it did. -/
def chainAllSpec : ChangeSpec := { name := "chainAll", fn := fun _ => fun
  | [d1, d2] => { results := [.lit (.bool true)], args := [d1, d2] }
  | _ => none }
def chainAllRow : OpenClaim := { program := "ytamidpfdiijjgaa", sum := "a9cdcb11dedaa76884983aa992305e61d696d24e08243cf08eace89bba458c38", func := "rampart/rampartlaw16.ChainAll", spec := "chainAll", plainKeys := false, apart := false }
def ChainAllSaid : Prop := chainAllRow.holds Try.pinned (OpenSpec.ofChange chainAllSpec)

/-- ITS FALSE NEIGHBOUR: 'it returns false'. Refute it at one input. -/
def chainAllWrong : ChangeSpec := { name := "chainAll", fn := fun _ => fun
  | [d1, d2] => { results := [.lit (.bool false)], args := [d1, d2] }
  | _ => none }
def ChainAllWrongFalsely : Prop := chainAllRow.holds Try.pinned (OpenSpec.ofChange chainAllWrong)

/-- 'rampartlaw16.ChainNumbers': WHATEVER THE INPUT: true; the input reads as it did. -/
def chainNumbersSpec : ChangeSpec := { name := "chainNumbers", fn := fun _ => fun
  | [d1, d2, d3] => { results := [.lit (.bool true)], args := [d1, d2, d3] }
  | _ => none }
def chainNumbersRow : OpenClaim := { program := "ytamidpfdiijjgaa", sum := "a9cdcb11dedaa76884983aa992305e61d696d24e08243cf08eace89bba458c38", func := "rampart/rampartlaw16.ChainNumbers", spec := "chainNumbers", plainKeys := false, apart := false }
def ChainNumbersSaid : Prop := chainNumbersRow.holds Try.pinned (OpenSpec.ofChange chainNumbersSpec)

/-- ITS FALSE NEIGHBOUR: 'it returns false'. Refute it at one input. -/
def chainNumbersWrong : ChangeSpec := { name := "chainNumbers", fn := fun _ => fun
  | [d1, d2, d3] => { results := [.lit (.bool false)], args := [d1, d2, d3] }
  | _ => none }
def ChainNumbersWrongFalsely : Prop := chainNumbersRow.holds Try.pinned (OpenSpec.ofChange chainNumbersWrong)

/-- 'rampartlaw16.ChainGrows': WHATEVER THE INPUT: true; the input reads as it did. -/
def chainGrowsSpec : ChangeSpec := { name := "chainGrows", fn := fun _ => fun
  | [d1, d2, d3] => { results := [.lit (.bool true)], args := [d1, d2, d3] }
  | _ => none }
def chainGrowsRow : OpenClaim := { program := "ytamidpfdiijjgaa", sum := "a9cdcb11dedaa76884983aa992305e61d696d24e08243cf08eace89bba458c38", func := "rampart/rampartlaw16.ChainGrows", spec := "chainGrows", plainKeys := false, apart := false }
def ChainGrowsSaid : Prop := chainGrowsRow.holds Try.pinned (OpenSpec.ofChange chainGrowsSpec)

/-- ITS FALSE NEIGHBOUR: 'it returns false'. Refute it at one input. -/
def chainGrowsWrong : ChangeSpec := { name := "chainGrows", fn := fun _ => fun
  | [d1, d2, d3] => { results := [.lit (.bool false)], args := [d1, d2, d3] }
  | _ => none }
def ChainGrowsWrongFalsely : Prop := chainGrowsRow.holds Try.pinned (OpenSpec.ofChange chainGrowsWrong)

/-- 'rampartlaw16.ChainPlaces': WHATEVER THE INPUT: true; the input reads as it did. -/
def chainPlacesSpec : ChangeSpec := { name := "chainPlaces", fn := fun _ => fun
  | [d1, d2, d3, d4] => { results := [.lit (.bool true)], args := [d1, d2, d3, d4] }
  | _ => none }
def chainPlacesRow : OpenClaim := { program := "ytamidpfdiijjgaa", sum := "a9cdcb11dedaa76884983aa992305e61d696d24e08243cf08eace89bba458c38", func := "rampart/rampartlaw16.ChainPlaces", spec := "chainPlaces", plainKeys := false, apart := false }
def ChainPlacesSaid : Prop := chainPlacesRow.holds Try.pinned (OpenSpec.ofChange chainPlacesSpec)

/-- ITS FALSE NEIGHBOUR: 'it returns false'. Refute it at one input. -/
def chainPlacesWrong : ChangeSpec := { name := "chainPlaces", fn := fun _ => fun
  | [d1, d2, d3, d4] => { results := [.lit (.bool false)], args := [d1, d2, d3, d4] }
  | _ => none }
def ChainPlacesWrongFalsely : Prop := chainPlacesRow.holds Try.pinned (OpenSpec.ofChange chainPlacesWrong)

/-- 'rampartlaw16.ChainWithin': WHATEVER THE INPUT: true; the input reads as it did. -/
def chainWithinSpec : ChangeSpec := { name := "chainWithin", fn := fun _ => fun
  | [d1, d2, d3] => { results := [.lit (.bool true)], args := [d1, d2, d3] }
  | _ => none }
def chainWithinRow : OpenClaim := { program := "ytamidpfdiijjgaa", sum := "a9cdcb11dedaa76884983aa992305e61d696d24e08243cf08eace89bba458c38", func := "rampart/rampartlaw16.ChainWithin", spec := "chainWithin", plainKeys := false, apart := false }
def ChainWithinSaid : Prop := chainWithinRow.holds Try.pinned (OpenSpec.ofChange chainWithinSpec)

/-- ITS FALSE NEIGHBOUR: 'it returns false'. Refute it at one input. -/
def chainWithinWrong : ChangeSpec := { name := "chainWithin", fn := fun _ => fun
  | [d1, d2, d3] => { results := [.lit (.bool false)], args := [d1, d2, d3] }
  | _ => none }
def ChainWithinWrongFalsely : Prop := chainWithinRow.holds Try.pinned (OpenSpec.ofChange chainWithinWrong)

/-- 'rampartlaw16.ChainOrder': WHATEVER THE INPUT: true; the input reads as it did. -/
def chainOrderSpec : ChangeSpec := { name := "chainOrder", fn := fun _ => fun
  | [d1, d2, d3, d4] => { results := [.lit (.bool true)], args := [d1, d2, d3, d4] }
  | _ => none }
def chainOrderRow : OpenClaim := { program := "ytamidpfdiijjgaa", sum := "a9cdcb11dedaa76884983aa992305e61d696d24e08243cf08eace89bba458c38", func := "rampart/rampartlaw16.ChainOrder", spec := "chainOrder", plainKeys := false, apart := false }
def ChainOrderSaid : Prop := chainOrderRow.holds Try.pinned (OpenSpec.ofChange chainOrderSpec)

/-- ITS FALSE NEIGHBOUR: 'it returns false'. Refute it at one input. -/
def chainOrderWrong : ChangeSpec := { name := "chainOrder", fn := fun _ => fun
  | [d1, d2, d3, d4] => { results := [.lit (.bool false)], args := [d1, d2, d3, d4] }
  | _ => none }
def ChainOrderWrongFalsely : Prop := chainOrderRow.holds Try.pinned (OpenSpec.ofChange chainOrderWrong)

/-- 'rampartlaw14.AutoSame': WHATEVER THE INPUT: true; the input reads as it did. -/
def autoSameSpec : ChangeSpec := { name := "autoSame", fn := fun _ => fun
  | [d1, d2] => { results := [.lit (.bool true)], args := [d1, d2] }
  | _ => none }
def autoSameRow : OpenClaim := { program := "ytamidpfdiijjgaa", sum := "a9cdcb11dedaa76884983aa992305e61d696d24e08243cf08eace89bba458c38", func := "rampart/rampartlaw14.AutoSame", spec := "autoSame", recurses := true, plainKeys := false, apart := false }
def AutoSameSaid : Prop := autoSameRow.holds Try.pinned (OpenSpec.ofChange autoSameSpec)

/-- ITS FALSE NEIGHBOUR: 'it returns false'. Refute it at one input. -/
def autoSameWrong : ChangeSpec := { name := "autoSame", fn := fun _ => fun
  | [d1, d2] => { results := [.lit (.bool false)], args := [d1, d2] }
  | _ => none }
def AutoSameWrongFalsely : Prop := autoSameRow.holds Try.pinned (OpenSpec.ofChange autoSameWrong)

/-- 'rampartlaw14.AutoSteps': WHATEVER THE INPUT: true; the input reads as it did. -/
def autoStepsSpec : ChangeSpec := { name := "autoSteps", fn := fun _ => fun
  | [d1, d2] => { results := [.lit (.bool true)], args := [d1, d2] }
  | _ => none }
def autoStepsRow : OpenClaim := { program := "ytamidpfdiijjgaa", sum := "a9cdcb11dedaa76884983aa992305e61d696d24e08243cf08eace89bba458c38", func := "rampart/rampartlaw14.AutoSteps", spec := "autoSteps", recurses := true, plainKeys := false, apart := false }
def AutoStepsSaid : Prop := autoStepsRow.holds Try.pinned (OpenSpec.ofChange autoStepsSpec)

/-- ITS FALSE NEIGHBOUR: 'it returns false'. Refute it at one input. -/
def autoStepsWrong : ChangeSpec := { name := "autoSteps", fn := fun _ => fun
  | [d1, d2] => { results := [.lit (.bool false)], args := [d1, d2] }
  | _ => none }
def AutoStepsWrongFalsely : Prop := autoStepsRow.holds Try.pinned (OpenSpec.ofChange autoStepsWrong)

/-- 'rampartlaw14.AutoBudget': WHATEVER THE INPUT: true; the input reads as it did. -/
def autoBudgetSpec : ChangeSpec := { name := "autoBudget", fn := fun _ => fun
  | [d1, d2, d3] => { results := [.lit (.bool true)], args := [d1, d2, d3] }
  | _ => none }
def autoBudgetRow : OpenClaim := { program := "ytamidpfdiijjgaa", sum := "a9cdcb11dedaa76884983aa992305e61d696d24e08243cf08eace89bba458c38", func := "rampart/rampartlaw14.AutoBudget", spec := "autoBudget", recurses := true, plainKeys := false, apart := false }
def AutoBudgetSaid : Prop := autoBudgetRow.holds Try.pinned (OpenSpec.ofChange autoBudgetSpec)

/-- ITS FALSE NEIGHBOUR: 'it returns false'. Refute it at one input. -/
def autoBudgetWrong : ChangeSpec := { name := "autoBudget", fn := fun _ => fun
  | [d1, d2, d3] => { results := [.lit (.bool false)], args := [d1, d2, d3] }
  | _ => none }
def AutoBudgetWrongFalsely : Prop := autoBudgetRow.holds Try.pinned (OpenSpec.ofChange autoBudgetWrong)

/-- 'rampartlaw14.AutoFails': WHATEVER THE INPUT: true; the input reads as it did. -/
def autoFailsSpec : ChangeSpec := { name := "autoFails", fn := fun _ => fun
  | [d1, d2] => { results := [.lit (.bool true)], args := [d1, d2] }
  | _ => none }
def autoFailsRow : OpenClaim := { program := "ytamidpfdiijjgaa", sum := "a9cdcb11dedaa76884983aa992305e61d696d24e08243cf08eace89bba458c38", func := "rampart/rampartlaw14.AutoFails", spec := "autoFails", recurses := true, plainKeys := false, apart := false }
def AutoFailsSaid : Prop := autoFailsRow.holds Try.pinned (OpenSpec.ofChange autoFailsSpec)

/-- ITS FALSE NEIGHBOUR: 'it returns false'. Refute it at one input. -/
def autoFailsWrong : ChangeSpec := { name := "autoFails", fn := fun _ => fun
  | [d1, d2] => { results := [.lit (.bool false)], args := [d1, d2] }
  | _ => none }
def AutoFailsWrongFalsely : Prop := autoFailsRow.holds Try.pinned (OpenSpec.ofChange autoFailsWrong)

/-- 'rampartlaw15.ScanSteps': WHATEVER THE INPUT: true; the input reads as it did. -/
def scanStepsSpec : ChangeSpec := { name := "scanSteps", fn := fun _ => fun
  | [d1, d2, d3] => { results := [.lit (.bool true)], args := [d1, d2, d3] }
  | _ => none }
def scanStepsRow : OpenClaim := { program := "ytamidpfdiijjgaa", sum := "a9cdcb11dedaa76884983aa992305e61d696d24e08243cf08eace89bba458c38", func := "rampart/rampartlaw15.ScanSteps", spec := "scanSteps", recurses := true, plainKeys := false, apart := false }
def ScanStepsSaid : Prop := scanStepsRow.holds Try.pinned (OpenSpec.ofChange scanStepsSpec)

/-- ITS FALSE NEIGHBOUR: 'it returns false'. Refute it at one input. -/
def scanStepsWrong : ChangeSpec := { name := "scanSteps", fn := fun _ => fun
  | [d1, d2, d3] => { results := [.lit (.bool false)], args := [d1, d2, d3] }
  | _ => none }
def ScanStepsWrongFalsely : Prop := scanStepsRow.holds Try.pinned (OpenSpec.ofChange scanStepsWrong)

/-- 'rampartlaw15.ScanFolds': WHATEVER THE INPUT: true; the input reads as it did. -/
def scanFoldsSpec : ChangeSpec := { name := "scanFolds", fn := fun _ => fun
  | [d1, d2, d3] => { results := [.lit (.bool true)], args := [d1, d2, d3] }
  | _ => none }
def scanFoldsRow : OpenClaim := { program := "ytamidpfdiijjgaa", sum := "a9cdcb11dedaa76884983aa992305e61d696d24e08243cf08eace89bba458c38", func := "rampart/rampartlaw15.ScanFolds", spec := "scanFolds", recurses := true, plainKeys := false, apart := false }
def ScanFoldsSaid : Prop := scanFoldsRow.holds Try.pinned (OpenSpec.ofChange scanFoldsSpec)

/-- ITS FALSE NEIGHBOUR: 'it returns false'. Refute it at one input. -/
def scanFoldsWrong : ChangeSpec := { name := "scanFolds", fn := fun _ => fun
  | [d1, d2, d3] => { results := [.lit (.bool false)], args := [d1, d2, d3] }
  | _ => none }
def ScanFoldsWrongFalsely : Prop := scanFoldsRow.holds Try.pinned (OpenSpec.ofChange scanFoldsWrong)

/-- 'rampartlaw15.ScanNone': WHATEVER THE INPUT: true; the input reads as it did. -/
def scanNoneSpec : ChangeSpec := { name := "scanNone", fn := fun _ => fun
  | [d1, d2] => { results := [.lit (.bool true)], args := [d1, d2] }
  | _ => none }
def scanNoneRow : OpenClaim := { program := "ytamidpfdiijjgaa", sum := "a9cdcb11dedaa76884983aa992305e61d696d24e08243cf08eace89bba458c38", func := "rampart/rampartlaw15.ScanNone", spec := "scanNone", recurses := true, plainKeys := false, apart := false }
def ScanNoneSaid : Prop := scanNoneRow.holds Try.pinned (OpenSpec.ofChange scanNoneSpec)

/-- ITS FALSE NEIGHBOUR: 'it returns false'. Refute it at one input. -/
def scanNoneWrong : ChangeSpec := { name := "scanNone", fn := fun _ => fun
  | [d1, d2] => { results := [.lit (.bool false)], args := [d1, d2] }
  | _ => none }
def ScanNoneWrongFalsely : Prop := scanNoneRow.holds Try.pinned (OpenSpec.ofChange scanNoneWrong)

/-- 'rampartlaw15.ScanCopies': WHATEVER THE INPUT: true; the input reads as it did. -/
def scanCopiesSpec : ChangeSpec := { name := "scanCopies", fn := fun _ => fun
  | [d1, d2, d3, d4] => { results := [.lit (.bool true)], args := [d1, d2, d3, d4] }
  | _ => none }
def scanCopiesRow : OpenClaim := { program := "ytamidpfdiijjgaa", sum := "a9cdcb11dedaa76884983aa992305e61d696d24e08243cf08eace89bba458c38", func := "rampart/rampartlaw15.ScanCopies", spec := "scanCopies", recurses := true, plainKeys := false, apart := false }
def ScanCopiesSaid : Prop := scanCopiesRow.holds Try.pinned (OpenSpec.ofChange scanCopiesSpec)

/-- ITS FALSE NEIGHBOUR: 'it returns false'. Refute it at one input. -/
def scanCopiesWrong : ChangeSpec := { name := "scanCopies", fn := fun _ => fun
  | [d1, d2, d3, d4] => { results := [.lit (.bool false)], args := [d1, d2, d3, d4] }
  | _ => none }
def ScanCopiesWrongFalsely : Prop := scanCopiesRow.holds Try.pinned (OpenSpec.ofChange scanCopiesWrong)

/-- 'rampartlaw17.TrackSteps': WHATEVER THE INPUT: true; the input reads as it did. -/
def trackStepsSpec : ChangeSpec := { name := "trackSteps", fn := fun _ => fun
  | [d1, d2, d3] => { results := [.lit (.bool true)], args := [d1, d2, d3] }
  | _ => none }
def trackStepsRow : OpenClaim := { program := "ytamidpfdiijjgaa", sum := "a9cdcb11dedaa76884983aa992305e61d696d24e08243cf08eace89bba458c38", func := "rampart/rampartlaw17.TrackSteps", spec := "trackSteps", unfollowed := true, recurses := true, plainKeys := false, apart := false }
def TrackStepsSaid : Prop := trackStepsRow.holds Try.pinned (OpenSpec.ofChange trackStepsSpec)

/-- ITS FALSE NEIGHBOUR: 'it returns false'. Refute it at one input. -/
def trackStepsWrong : ChangeSpec := { name := "trackSteps", fn := fun _ => fun
  | [d1, d2, d3] => { results := [.lit (.bool false)], args := [d1, d2, d3] }
  | _ => none }
def TrackStepsWrongFalsely : Prop := trackStepsRow.holds Try.pinned (OpenSpec.ofChange trackStepsWrong)

/-- 'rampartlaw17.TrackNumbers': WHATEVER THE INPUT: true; the input reads as it did. -/
def trackNumbersSpec : ChangeSpec := { name := "trackNumbers", fn := fun _ => fun
  | [d1, d2, d3, d4] => { results := [.lit (.bool true)], args := [d1, d2, d3, d4] }
  | _ => none }
def trackNumbersRow : OpenClaim := { program := "ytamidpfdiijjgaa", sum := "a9cdcb11dedaa76884983aa992305e61d696d24e08243cf08eace89bba458c38", func := "rampart/rampartlaw17.TrackNumbers", spec := "trackNumbers", unfollowed := true, recurses := true, plainKeys := false, apart := false }
def TrackNumbersSaid : Prop := trackNumbersRow.holds Try.pinned (OpenSpec.ofChange trackNumbersSpec)

/-- ITS FALSE NEIGHBOUR: 'it returns false'. Refute it at one input. -/
def trackNumbersWrong : ChangeSpec := { name := "trackNumbers", fn := fun _ => fun
  | [d1, d2, d3, d4] => { results := [.lit (.bool false)], args := [d1, d2, d3, d4] }
  | _ => none }
def TrackNumbersWrongFalsely : Prop := trackNumbersRow.holds Try.pinned (OpenSpec.ofChange trackNumbersWrong)

/-- 'rampartlaw17.TrackStays': WHATEVER THE INPUT: true; the input reads as it did. -/
def trackStaysSpec : ChangeSpec := { name := "trackStays", fn := fun _ => fun
  | [d1, d2, d3] => { results := [.lit (.bool true)], args := [d1, d2, d3] }
  | _ => none }
def trackStaysRow : OpenClaim := { program := "ytamidpfdiijjgaa", sum := "a9cdcb11dedaa76884983aa992305e61d696d24e08243cf08eace89bba458c38", func := "rampart/rampartlaw17.TrackStays", spec := "trackStays", unfollowed := true, recurses := true, plainKeys := false, apart := false }
def TrackStaysSaid : Prop := trackStaysRow.holds Try.pinned (OpenSpec.ofChange trackStaysSpec)

/-- ITS FALSE NEIGHBOUR: 'it returns false'. Refute it at one input. -/
def trackStaysWrong : ChangeSpec := { name := "trackStays", fn := fun _ => fun
  | [d1, d2, d3] => { results := [.lit (.bool false)], args := [d1, d2, d3] }
  | _ => none }
def TrackStaysWrongFalsely : Prop := trackStaysRow.holds Try.pinned (OpenSpec.ofChange trackStaysWrong)

/-- 'rampartlaw17.TrackNots': WHATEVER THE INPUT: true; the input reads as it did. -/
def trackNotsSpec : ChangeSpec := { name := "trackNots", fn := fun _ => fun
  | [d1, d2, d3] => { results := [.lit (.bool true)], args := [d1, d2, d3] }
  | _ => none }
def trackNotsRow : OpenClaim := { program := "ytamidpfdiijjgaa", sum := "a9cdcb11dedaa76884983aa992305e61d696d24e08243cf08eace89bba458c38", func := "rampart/rampartlaw17.TrackNots", spec := "trackNots", unfollowed := true, recurses := true, plainKeys := false, apart := false }
def TrackNotsSaid : Prop := trackNotsRow.holds Try.pinned (OpenSpec.ofChange trackNotsSpec)

/-- ITS FALSE NEIGHBOUR: 'it returns false'. Refute it at one input. -/
def trackNotsWrong : ChangeSpec := { name := "trackNots", fn := fun _ => fun
  | [d1, d2, d3] => { results := [.lit (.bool false)], args := [d1, d2, d3] }
  | _ => none }
def TrackNotsWrongFalsely : Prop := trackNotsRow.holds Try.pinned (OpenSpec.ofChange trackNotsWrong)

/-- 'rampartlaw24.VerdictWorse': WHATEVER THE INPUT: true; the input reads as it did. -/
def verdictWorseSpec : ChangeSpec := { name := "verdictWorse", fn := fun _ => fun
  | [d1, d2, d3] => { results := [.lit (.bool true)], args := [d1, d2, d3] }
  | _ => none }
def verdictWorseRow : OpenClaim := { program := "ytamidpfdiijjgaa", sum := "a9cdcb11dedaa76884983aa992305e61d696d24e08243cf08eace89bba458c38", func := "rampart/rampartlaw24.VerdictWorse", spec := "verdictWorse", unfollowed := true, recurses := true, plainKeys := false, apart := false }
def VerdictWorseSaid : Prop := verdictWorseRow.holds Try.pinned (OpenSpec.ofChange verdictWorseSpec)

/-- ITS FALSE NEIGHBOUR: 'it returns false'. Refute it at one input. -/
def verdictWorseWrong : ChangeSpec := { name := "verdictWorse", fn := fun _ => fun
  | [d1, d2, d3] => { results := [.lit (.bool false)], args := [d1, d2, d3] }
  | _ => none }
def VerdictWorseWrongFalsely : Prop := verdictWorseRow.holds Try.pinned (OpenSpec.ofChange verdictWorseWrong)

/-- 'rampartlaw24.VerdictOnce': WHATEVER THE INPUT: true; the input reads as it did. -/
def verdictOnceSpec : ChangeSpec := { name := "verdictOnce", fn := fun _ => fun
  | [d1, d2, d3] => { results := [.lit (.bool true)], args := [d1, d2, d3] }
  | _ => none }
def verdictOnceRow : OpenClaim := { program := "ytamidpfdiijjgaa", sum := "a9cdcb11dedaa76884983aa992305e61d696d24e08243cf08eace89bba458c38", func := "rampart/rampartlaw24.VerdictOnce", spec := "verdictOnce", unfollowed := true, recurses := true, plainKeys := false, apart := false }
def VerdictOnceSaid : Prop := verdictOnceRow.holds Try.pinned (OpenSpec.ofChange verdictOnceSpec)

/-- ITS FALSE NEIGHBOUR: 'it returns false'. Refute it at one input. -/
def verdictOnceWrong : ChangeSpec := { name := "verdictOnce", fn := fun _ => fun
  | [d1, d2, d3] => { results := [.lit (.bool false)], args := [d1, d2, d3] }
  | _ => none }
def VerdictOnceWrongFalsely : Prop := verdictOnceRow.holds Try.pinned (OpenSpec.ofChange verdictOnceWrong)

/-- 'rampartlaw24.VerdictPicked': WHATEVER THE INPUT: true; the input reads as it did. -/
def verdictPickedSpec : ChangeSpec := { name := "verdictPicked", fn := fun _ => fun
  | [d1, d2] => { results := [.lit (.bool true)], args := [d1, d2] }
  | _ => none }
def verdictPickedRow : OpenClaim := { program := "ytamidpfdiijjgaa", sum := "a9cdcb11dedaa76884983aa992305e61d696d24e08243cf08eace89bba458c38", func := "rampart/rampartlaw24.VerdictPicked", spec := "verdictPicked", unfollowed := true, recurses := true, plainKeys := false, apart := false }
def VerdictPickedSaid : Prop := verdictPickedRow.holds Try.pinned (OpenSpec.ofChange verdictPickedSpec)

/-- ITS FALSE NEIGHBOUR: 'it returns false'. Refute it at one input. -/
def verdictPickedWrong : ChangeSpec := { name := "verdictPicked", fn := fun _ => fun
  | [d1, d2] => { results := [.lit (.bool false)], args := [d1, d2] }
  | _ => none }
def VerdictPickedWrongFalsely : Prop := verdictPickedRow.holds Try.pinned (OpenSpec.ofChange verdictPickedWrong)

/-- 'rampartlaw24.VerdictPlays': WHATEVER THE INPUT: true; the input reads as it did. -/
def verdictPlaysSpec : ChangeSpec := { name := "verdictPlays", fn := fun _ => fun
  | [d1, d2, d3, d4] => { results := [.lit (.bool true)], args := [d1, d2, d3, d4] }
  | _ => none }
def verdictPlaysRow : OpenClaim := { program := "ytamidpfdiijjgaa", sum := "a9cdcb11dedaa76884983aa992305e61d696d24e08243cf08eace89bba458c38", func := "rampart/rampartlaw24.VerdictPlays", spec := "verdictPlays", unfollowed := true, recurses := true, plainKeys := false, apart := false }
def VerdictPlaysSaid : Prop := verdictPlaysRow.holds Try.pinned (OpenSpec.ofChange verdictPlaysSpec)

/-- ITS FALSE NEIGHBOUR: 'it returns false'. Refute it at one input. -/
def verdictPlaysWrong : ChangeSpec := { name := "verdictPlays", fn := fun _ => fun
  | [d1, d2, d3, d4] => { results := [.lit (.bool false)], args := [d1, d2, d3, d4] }
  | _ => none }
def VerdictPlaysWrongFalsely : Prop := verdictPlaysRow.holds Try.pinned (OpenSpec.ofChange verdictPlaysWrong)

/-- 'rampartlaw24.VerdictEnds': WHATEVER THE INPUT: true; the input reads as it did. -/
def verdictEndsSpec : ChangeSpec := { name := "verdictEnds", fn := fun _ => fun
  | [d1, d2, d3] => { results := [.lit (.bool true)], args := [d1, d2, d3] }
  | _ => none }
def verdictEndsRow : OpenClaim := { program := "ytamidpfdiijjgaa", sum := "a9cdcb11dedaa76884983aa992305e61d696d24e08243cf08eace89bba458c38", func := "rampart/rampartlaw24.VerdictEnds", spec := "verdictEnds", unfollowed := true, recurses := true, plainKeys := false, apart := false }
def VerdictEndsSaid : Prop := verdictEndsRow.holds Try.pinned (OpenSpec.ofChange verdictEndsSpec)

/-- ITS FALSE NEIGHBOUR: 'it returns false'. Refute it at one input. -/
def verdictEndsWrong : ChangeSpec := { name := "verdictEnds", fn := fun _ => fun
  | [d1, d2, d3] => { results := [.lit (.bool false)], args := [d1, d2, d3] }
  | _ => none }
def VerdictEndsWrongFalsely : Prop := verdictEndsRow.holds Try.pinned (OpenSpec.ofChange verdictEndsWrong)

/- THE SECOND FORM. 'bulk': how many values and letters a reading holds, each counted each time it is reached (what is shared counts as often as it is met; a slice's spare places count too). A statement '..UptoSaid' is the law's where the arguments, and the package variables that the reading takes, are together of bulk at most 1048576: NARROWER than '..Said'. Prove '..Said' where nothing that the law and all that it calls make is longer than what came in: it says more and counts as full. Else prove '..UptoSaid'. A law counts once. -/
mutual
def uptoBulk {H : Type} : DataW H → Nat
  | .lit (.string bytes) => bytes.length + 1
  | .lit _ => 1
  | .nil => 1
  | .ptr d => uptoBulk d + 1
  | .slice elems spare => uptoBulkAll elems + uptoBulkAll spare + 1
  | .agg parts => uptoBulkAll parts + 1
  | .iface _ d => uptoBulk d + 1
  | .map entries => uptoBulkEntries entries + 1
  | .held _ => 1
def uptoBulkAll {H : Type} : List (DataW H) → Nat
  | [] => 0
  | d :: r => uptoBulk d + uptoBulkAll r
def uptoBulkEntries {H : Type} : List (Lit × DataW H) → Nat
  | [] => 0
  | x :: r => uptoBulkEntry x + uptoBulkEntries r
def uptoBulkEntry {H : Type} : Lit × DataW H → Nat
  | (.string bytes, d) => bytes.length + uptoBulk d + 1
  | (_, d) => uptoBulk d + 1
 end
def uptoSmall : (H : Type) → List (DataW H) → Bool := fun _ ds => decide (uptoBulkAll ds ≤ 1048576)
def OpenSpec.upto (s : _root_.Go.ChangeSpec) : _root_.Go.OpenSpec := { _root_.Go.OpenSpec.ofChange s with cond := some uptoSmall }

/-- 'rampartlaw13.TrieOrder', WHERE WHAT IT READS IS OF BULK AT MOST 1048576: true; the input reads as it did. -/
def trieOrderUptoRow : OpenClaim := { program := "ytamidpfdiijjgaa", sum := "a9cdcb11dedaa76884983aa992305e61d696d24e08243cf08eace89bba458c38", func := "rampart/rampartlaw13.TrieOrder", spec := "trieOrder", plainKeys := false, apart := false, narrowed := true }
def TrieOrderUptoSaid : Prop := trieOrderUptoRow.holds Try.pinned (OpenSpec.upto trieOrderSpec)

/-- 'rampartlaw13.TrieDepths', WHERE WHAT IT READS IS OF BULK AT MOST 1048576: true; the input reads as it did. -/
def trieDepthsUptoRow : OpenClaim := { program := "ytamidpfdiijjgaa", sum := "a9cdcb11dedaa76884983aa992305e61d696d24e08243cf08eace89bba458c38", func := "rampart/rampartlaw13.TrieDepths", spec := "trieDepths", plainKeys := false, apart := false, narrowed := true }
def TrieDepthsUptoSaid : Prop := trieDepthsUptoRow.holds Try.pinned (OpenSpec.upto trieDepthsSpec)

/-- 'rampartlaw13.TriePlays', WHERE WHAT IT READS IS OF BULK AT MOST 1048576: true; the input reads as it did. -/
def triePlaysUptoRow : OpenClaim := { program := "ytamidpfdiijjgaa", sum := "a9cdcb11dedaa76884983aa992305e61d696d24e08243cf08eace89bba458c38", func := "rampart/rampartlaw13.TriePlays", spec := "triePlays", plainKeys := false, apart := false, narrowed := true }
def TriePlaysUptoSaid : Prop := triePlaysUptoRow.holds Try.pinned (OpenSpec.upto triePlaysSpec)

/-- 'rampartlaw16.ChainAll', WHERE WHAT IT READS IS OF BULK AT MOST 1048576: true; the input reads as it did. -/
def chainAllUptoRow : OpenClaim := { program := "ytamidpfdiijjgaa", sum := "a9cdcb11dedaa76884983aa992305e61d696d24e08243cf08eace89bba458c38", func := "rampart/rampartlaw16.ChainAll", spec := "chainAll", plainKeys := false, apart := false, narrowed := true }
def ChainAllUptoSaid : Prop := chainAllUptoRow.holds Try.pinned (OpenSpec.upto chainAllSpec)

/-- 'rampartlaw16.ChainNumbers', WHERE WHAT IT READS IS OF BULK AT MOST 1048576: true; the input reads as it did. -/
def chainNumbersUptoRow : OpenClaim := { program := "ytamidpfdiijjgaa", sum := "a9cdcb11dedaa76884983aa992305e61d696d24e08243cf08eace89bba458c38", func := "rampart/rampartlaw16.ChainNumbers", spec := "chainNumbers", plainKeys := false, apart := false, narrowed := true }
def ChainNumbersUptoSaid : Prop := chainNumbersUptoRow.holds Try.pinned (OpenSpec.upto chainNumbersSpec)

/-- 'rampartlaw16.ChainGrows', WHERE WHAT IT READS IS OF BULK AT MOST 1048576: true; the input reads as it did. -/
def chainGrowsUptoRow : OpenClaim := { program := "ytamidpfdiijjgaa", sum := "a9cdcb11dedaa76884983aa992305e61d696d24e08243cf08eace89bba458c38", func := "rampart/rampartlaw16.ChainGrows", spec := "chainGrows", plainKeys := false, apart := false, narrowed := true }
def ChainGrowsUptoSaid : Prop := chainGrowsUptoRow.holds Try.pinned (OpenSpec.upto chainGrowsSpec)

/-- 'rampartlaw16.ChainPlaces', WHERE WHAT IT READS IS OF BULK AT MOST 1048576: true; the input reads as it did. -/
def chainPlacesUptoRow : OpenClaim := { program := "ytamidpfdiijjgaa", sum := "a9cdcb11dedaa76884983aa992305e61d696d24e08243cf08eace89bba458c38", func := "rampart/rampartlaw16.ChainPlaces", spec := "chainPlaces", plainKeys := false, apart := false, narrowed := true }
def ChainPlacesUptoSaid : Prop := chainPlacesUptoRow.holds Try.pinned (OpenSpec.upto chainPlacesSpec)

/-- 'rampartlaw16.ChainWithin', WHERE WHAT IT READS IS OF BULK AT MOST 1048576: true; the input reads as it did. -/
def chainWithinUptoRow : OpenClaim := { program := "ytamidpfdiijjgaa", sum := "a9cdcb11dedaa76884983aa992305e61d696d24e08243cf08eace89bba458c38", func := "rampart/rampartlaw16.ChainWithin", spec := "chainWithin", plainKeys := false, apart := false, narrowed := true }
def ChainWithinUptoSaid : Prop := chainWithinUptoRow.holds Try.pinned (OpenSpec.upto chainWithinSpec)

/-- 'rampartlaw16.ChainOrder', WHERE WHAT IT READS IS OF BULK AT MOST 1048576: true; the input reads as it did. -/
def chainOrderUptoRow : OpenClaim := { program := "ytamidpfdiijjgaa", sum := "a9cdcb11dedaa76884983aa992305e61d696d24e08243cf08eace89bba458c38", func := "rampart/rampartlaw16.ChainOrder", spec := "chainOrder", plainKeys := false, apart := false, narrowed := true }
def ChainOrderUptoSaid : Prop := chainOrderUptoRow.holds Try.pinned (OpenSpec.upto chainOrderSpec)

/-- 'rampartlaw14.AutoSame', WHERE WHAT IT READS IS OF BULK AT MOST 1048576: true; the input reads as it did. -/
def autoSameUptoRow : OpenClaim := { program := "ytamidpfdiijjgaa", sum := "a9cdcb11dedaa76884983aa992305e61d696d24e08243cf08eace89bba458c38", func := "rampart/rampartlaw14.AutoSame", spec := "autoSame", recurses := true, plainKeys := false, apart := false, narrowed := true }
def AutoSameUptoSaid : Prop := autoSameUptoRow.holds Try.pinned (OpenSpec.upto autoSameSpec)

/-- 'rampartlaw14.AutoSteps', WHERE WHAT IT READS IS OF BULK AT MOST 1048576: true; the input reads as it did. -/
def autoStepsUptoRow : OpenClaim := { program := "ytamidpfdiijjgaa", sum := "a9cdcb11dedaa76884983aa992305e61d696d24e08243cf08eace89bba458c38", func := "rampart/rampartlaw14.AutoSteps", spec := "autoSteps", recurses := true, plainKeys := false, apart := false, narrowed := true }
def AutoStepsUptoSaid : Prop := autoStepsUptoRow.holds Try.pinned (OpenSpec.upto autoStepsSpec)

/-- 'rampartlaw14.AutoBudget', WHERE WHAT IT READS IS OF BULK AT MOST 1048576: true; the input reads as it did. -/
def autoBudgetUptoRow : OpenClaim := { program := "ytamidpfdiijjgaa", sum := "a9cdcb11dedaa76884983aa992305e61d696d24e08243cf08eace89bba458c38", func := "rampart/rampartlaw14.AutoBudget", spec := "autoBudget", recurses := true, plainKeys := false, apart := false, narrowed := true }
def AutoBudgetUptoSaid : Prop := autoBudgetUptoRow.holds Try.pinned (OpenSpec.upto autoBudgetSpec)

/-- 'rampartlaw14.AutoFails', WHERE WHAT IT READS IS OF BULK AT MOST 1048576: true; the input reads as it did. -/
def autoFailsUptoRow : OpenClaim := { program := "ytamidpfdiijjgaa", sum := "a9cdcb11dedaa76884983aa992305e61d696d24e08243cf08eace89bba458c38", func := "rampart/rampartlaw14.AutoFails", spec := "autoFails", recurses := true, plainKeys := false, apart := false, narrowed := true }
def AutoFailsUptoSaid : Prop := autoFailsUptoRow.holds Try.pinned (OpenSpec.upto autoFailsSpec)

/-- 'rampartlaw15.ScanSteps', WHERE WHAT IT READS IS OF BULK AT MOST 1048576: true; the input reads as it did. -/
def scanStepsUptoRow : OpenClaim := { program := "ytamidpfdiijjgaa", sum := "a9cdcb11dedaa76884983aa992305e61d696d24e08243cf08eace89bba458c38", func := "rampart/rampartlaw15.ScanSteps", spec := "scanSteps", recurses := true, plainKeys := false, apart := false, narrowed := true }
def ScanStepsUptoSaid : Prop := scanStepsUptoRow.holds Try.pinned (OpenSpec.upto scanStepsSpec)

/-- 'rampartlaw15.ScanFolds', WHERE WHAT IT READS IS OF BULK AT MOST 1048576: true; the input reads as it did. -/
def scanFoldsUptoRow : OpenClaim := { program := "ytamidpfdiijjgaa", sum := "a9cdcb11dedaa76884983aa992305e61d696d24e08243cf08eace89bba458c38", func := "rampart/rampartlaw15.ScanFolds", spec := "scanFolds", recurses := true, plainKeys := false, apart := false, narrowed := true }
def ScanFoldsUptoSaid : Prop := scanFoldsUptoRow.holds Try.pinned (OpenSpec.upto scanFoldsSpec)

/-- 'rampartlaw15.ScanNone', WHERE WHAT IT READS IS OF BULK AT MOST 1048576: true; the input reads as it did. -/
def scanNoneUptoRow : OpenClaim := { program := "ytamidpfdiijjgaa", sum := "a9cdcb11dedaa76884983aa992305e61d696d24e08243cf08eace89bba458c38", func := "rampart/rampartlaw15.ScanNone", spec := "scanNone", recurses := true, plainKeys := false, apart := false, narrowed := true }
def ScanNoneUptoSaid : Prop := scanNoneUptoRow.holds Try.pinned (OpenSpec.upto scanNoneSpec)

/-- 'rampartlaw15.ScanCopies', WHERE WHAT IT READS IS OF BULK AT MOST 1048576: true; the input reads as it did. -/
def scanCopiesUptoRow : OpenClaim := { program := "ytamidpfdiijjgaa", sum := "a9cdcb11dedaa76884983aa992305e61d696d24e08243cf08eace89bba458c38", func := "rampart/rampartlaw15.ScanCopies", spec := "scanCopies", recurses := true, plainKeys := false, apart := false, narrowed := true }
def ScanCopiesUptoSaid : Prop := scanCopiesUptoRow.holds Try.pinned (OpenSpec.upto scanCopiesSpec)

/-- 'rampartlaw17.TrackSteps', WHERE WHAT IT READS IS OF BULK AT MOST 1048576: true; the input reads as it did. -/
def trackStepsUptoRow : OpenClaim := { program := "ytamidpfdiijjgaa", sum := "a9cdcb11dedaa76884983aa992305e61d696d24e08243cf08eace89bba458c38", func := "rampart/rampartlaw17.TrackSteps", spec := "trackSteps", unfollowed := true, recurses := true, plainKeys := false, apart := false, narrowed := true }
def TrackStepsUptoSaid : Prop := trackStepsUptoRow.holds Try.pinned (OpenSpec.upto trackStepsSpec)

/-- 'rampartlaw17.TrackNumbers', WHERE WHAT IT READS IS OF BULK AT MOST 1048576: true; the input reads as it did. -/
def trackNumbersUptoRow : OpenClaim := { program := "ytamidpfdiijjgaa", sum := "a9cdcb11dedaa76884983aa992305e61d696d24e08243cf08eace89bba458c38", func := "rampart/rampartlaw17.TrackNumbers", spec := "trackNumbers", unfollowed := true, recurses := true, plainKeys := false, apart := false, narrowed := true }
def TrackNumbersUptoSaid : Prop := trackNumbersUptoRow.holds Try.pinned (OpenSpec.upto trackNumbersSpec)

/-- 'rampartlaw17.TrackStays', WHERE WHAT IT READS IS OF BULK AT MOST 1048576: true; the input reads as it did. -/
def trackStaysUptoRow : OpenClaim := { program := "ytamidpfdiijjgaa", sum := "a9cdcb11dedaa76884983aa992305e61d696d24e08243cf08eace89bba458c38", func := "rampart/rampartlaw17.TrackStays", spec := "trackStays", unfollowed := true, recurses := true, plainKeys := false, apart := false, narrowed := true }
def TrackStaysUptoSaid : Prop := trackStaysUptoRow.holds Try.pinned (OpenSpec.upto trackStaysSpec)

/-- 'rampartlaw17.TrackNots', WHERE WHAT IT READS IS OF BULK AT MOST 1048576: true; the input reads as it did. -/
def trackNotsUptoRow : OpenClaim := { program := "ytamidpfdiijjgaa", sum := "a9cdcb11dedaa76884983aa992305e61d696d24e08243cf08eace89bba458c38", func := "rampart/rampartlaw17.TrackNots", spec := "trackNots", unfollowed := true, recurses := true, plainKeys := false, apart := false, narrowed := true }
def TrackNotsUptoSaid : Prop := trackNotsUptoRow.holds Try.pinned (OpenSpec.upto trackNotsSpec)

/-- 'rampartlaw24.VerdictWorse', WHERE WHAT IT READS IS OF BULK AT MOST 1048576: true; the input reads as it did. -/
def verdictWorseUptoRow : OpenClaim := { program := "ytamidpfdiijjgaa", sum := "a9cdcb11dedaa76884983aa992305e61d696d24e08243cf08eace89bba458c38", func := "rampart/rampartlaw24.VerdictWorse", spec := "verdictWorse", unfollowed := true, recurses := true, plainKeys := false, apart := false, narrowed := true }
def VerdictWorseUptoSaid : Prop := verdictWorseUptoRow.holds Try.pinned (OpenSpec.upto verdictWorseSpec)

/-- 'rampartlaw24.VerdictOnce', WHERE WHAT IT READS IS OF BULK AT MOST 1048576: true; the input reads as it did. -/
def verdictOnceUptoRow : OpenClaim := { program := "ytamidpfdiijjgaa", sum := "a9cdcb11dedaa76884983aa992305e61d696d24e08243cf08eace89bba458c38", func := "rampart/rampartlaw24.VerdictOnce", spec := "verdictOnce", unfollowed := true, recurses := true, plainKeys := false, apart := false, narrowed := true }
def VerdictOnceUptoSaid : Prop := verdictOnceUptoRow.holds Try.pinned (OpenSpec.upto verdictOnceSpec)

/-- 'rampartlaw24.VerdictPicked', WHERE WHAT IT READS IS OF BULK AT MOST 1048576: true; the input reads as it did. -/
def verdictPickedUptoRow : OpenClaim := { program := "ytamidpfdiijjgaa", sum := "a9cdcb11dedaa76884983aa992305e61d696d24e08243cf08eace89bba458c38", func := "rampart/rampartlaw24.VerdictPicked", spec := "verdictPicked", unfollowed := true, recurses := true, plainKeys := false, apart := false, narrowed := true }
def VerdictPickedUptoSaid : Prop := verdictPickedUptoRow.holds Try.pinned (OpenSpec.upto verdictPickedSpec)

/-- 'rampartlaw24.VerdictPlays', WHERE WHAT IT READS IS OF BULK AT MOST 1048576: true; the input reads as it did. -/
def verdictPlaysUptoRow : OpenClaim := { program := "ytamidpfdiijjgaa", sum := "a9cdcb11dedaa76884983aa992305e61d696d24e08243cf08eace89bba458c38", func := "rampart/rampartlaw24.VerdictPlays", spec := "verdictPlays", unfollowed := true, recurses := true, plainKeys := false, apart := false, narrowed := true }
def VerdictPlaysUptoSaid : Prop := verdictPlaysUptoRow.holds Try.pinned (OpenSpec.upto verdictPlaysSpec)

/-- 'rampartlaw24.VerdictEnds', WHERE WHAT IT READS IS OF BULK AT MOST 1048576: true; the input reads as it did. -/
def verdictEndsUptoRow : OpenClaim := { program := "ytamidpfdiijjgaa", sum := "a9cdcb11dedaa76884983aa992305e61d696d24e08243cf08eace89bba458c38", func := "rampart/rampartlaw24.VerdictEnds", spec := "verdictEnds", unfollowed := true, recurses := true, plainKeys := false, apart := false, narrowed := true }
def VerdictEndsUptoSaid : Prop := verdictEndsUptoRow.holds Try.pinned (OpenSpec.upto verdictEndsSpec)

end Rows
end Go.Proofs.Ytamidpfdiijjgaa
