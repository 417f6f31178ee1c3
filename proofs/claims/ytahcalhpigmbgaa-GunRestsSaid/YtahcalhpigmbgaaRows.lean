/-
  No cell of these rows narrows 'for every input' (looked for: loops, veiled, ifaces, maps, wideKeys, modest, calm, conditions, laid).
  DERIVED. THE GIVEN ROWS OF THIS SEAT. 6 by the template 'for every input the law returns true; each argument reads behind the call as it read before'; 0 by the template 'total and deterministic' (their statements: YtahcalhpigmbgaaTotals.lean).
  GIVEN WITH THE SEED: the statements are not yours to turn. If you find one false, say at which input.
  Laid BY PROGRAM, IN A SANDBOX (cutbox-rows.mjs): the forced cells as the released guide's own fill.sh prints them over the translation 6779fc3a19265d2e… (all of the seat's roots in one cut). By AI agents, Wed Nov 11 2026. No macro, syntax, notation, axiom, sorry.
-/
import Derived.Test.YtahcalhpigmbgaaChecked
import GoSem.Claim
import GoSem.ClaimJoined
import GoSem.ClaimMapViews
import Derived.JoinedTies
import Derived.KernelRfl
namespace Go.Proofs.Ytahcalhpigmbgaa
/- THE CELL 'sum', in the pinned program and in every row, IS THE sha256 OF THE DUMP (.gsa) THAT YtahcalhpigmbgaaProg.lean LOADS. Nothing in Lean hashes anything: it is a label: what it is worth is what the hold of that sum in a sandbox is worth. -/
noncomputable def Try.pinned : Pinned := { name := "ytahcalhpigmbgaa", sum := "6779fc3a19265d2ee5a05db61271d9414bf652d0b16fffa625ca944c0ffe0b93", checked := Try.checked }
namespace Rows
def none {H : Type} : Left H := { results := [], args := [] }

/-- 'skiarealaw42.GunRights': WHATEVER THE INPUT: true; the input reads as it did. -/
def gunRightsSpec : ChangeSpec := { name := "gunRights", fn := fun _ => fun
  | [d] => { results := [.lit (.bool true)], args := [d] }
  | _ => none }
def gunRightsRow : OpenClaim := { program := "ytahcalhpigmbgaa", sum := "6779fc3a19265d2ee5a05db61271d9414bf652d0b16fffa625ca944c0ffe0b93", func := "skiarea/skiarealaw42.GunRights", spec := "gunRights", unfollowed := true, recurses := true, apart := false }
def GunRightsSaid : Prop := gunRightsRow.holds Try.pinned (OpenSpec.ofChange gunRightsSpec)

/-- ITS FALSE NEIGHBOUR: 'it returns false'. Refute it at one input. -/
def gunRightsWrong : ChangeSpec := { name := "gunRights", fn := fun _ => fun
  | [d] => { results := [.lit (.bool false)], args := [d] }
  | _ => none }
def GunRightsWrongFalsely : Prop := gunRightsRow.holds Try.pinned (OpenSpec.ofChange gunRightsWrong)

/-- 'skiarealaw42.GunSwitches': WHATEVER THE INPUT: true; the input reads as it did. -/
def gunSwitchesSpec : ChangeSpec := { name := "gunSwitches", fn := fun _ => fun
  | [d1, d2] => { results := [.lit (.bool true)], args := [d1, d2] }
  | _ => none }
def gunSwitchesRow : OpenClaim := { program := "ytahcalhpigmbgaa", sum := "6779fc3a19265d2ee5a05db61271d9414bf652d0b16fffa625ca944c0ffe0b93", func := "skiarea/skiarealaw42.GunSwitches", spec := "gunSwitches", unfollowed := true, recurses := true, apart := false }
def GunSwitchesSaid : Prop := gunSwitchesRow.holds Try.pinned (OpenSpec.ofChange gunSwitchesSpec)

/-- ITS FALSE NEIGHBOUR: 'it returns false'. Refute it at one input. -/
def gunSwitchesWrong : ChangeSpec := { name := "gunSwitches", fn := fun _ => fun
  | [d1, d2] => { results := [.lit (.bool false)], args := [d1, d2] }
  | _ => none }
def GunSwitchesWrongFalsely : Prop := gunSwitchesRow.holds Try.pinned (OpenSpec.ofChange gunSwitchesWrong)

/-- 'skiarealaw42.GunOutputs': WHATEVER THE INPUT: true; the input reads as it did. -/
def gunOutputsSpec : ChangeSpec := { name := "gunOutputs", fn := fun _ => fun
  | [d1, d2] => { results := [.lit (.bool true)], args := [d1, d2] }
  | _ => none }
def gunOutputsRow : OpenClaim := { program := "ytahcalhpigmbgaa", sum := "6779fc3a19265d2ee5a05db61271d9414bf652d0b16fffa625ca944c0ffe0b93", func := "skiarea/skiarealaw42.GunOutputs", spec := "gunOutputs", unfollowed := true, recurses := true, apart := false }
def GunOutputsSaid : Prop := gunOutputsRow.holds Try.pinned (OpenSpec.ofChange gunOutputsSpec)

/-- ITS FALSE NEIGHBOUR: 'it returns false'. Refute it at one input. -/
def gunOutputsWrong : ChangeSpec := { name := "gunOutputs", fn := fun _ => fun
  | [d1, d2] => { results := [.lit (.bool false)], args := [d1, d2] }
  | _ => none }
def GunOutputsWrongFalsely : Prop := gunOutputsRow.holds Try.pinned (OpenSpec.ofChange gunOutputsWrong)

/-- 'skiarealaw42.GunRests': WHATEVER THE INPUT: true; the input reads as it did. -/
def gunRestsSpec : ChangeSpec := { name := "gunRests", fn := fun _ => fun
  | [d1, d2] => { results := [.lit (.bool true)], args := [d1, d2] }
  | _ => none }
def gunRestsRow : OpenClaim := { program := "ytahcalhpigmbgaa", sum := "6779fc3a19265d2ee5a05db61271d9414bf652d0b16fffa625ca944c0ffe0b93", func := "skiarea/skiarealaw42.GunRests", spec := "gunRests", unfollowed := true, recurses := true, apart := false }
def GunRestsSaid : Prop := gunRestsRow.holds Try.pinned (OpenSpec.ofChange gunRestsSpec)

/-- ITS FALSE NEIGHBOUR: 'it returns false'. Refute it at one input. -/
def gunRestsWrong : ChangeSpec := { name := "gunRests", fn := fun _ => fun
  | [d1, d2] => { results := [.lit (.bool false)], args := [d1, d2] }
  | _ => none }
def GunRestsWrongFalsely : Prop := gunRestsRow.holds Try.pinned (OpenSpec.ofChange gunRestsWrong)

/-- 'skiarealaw42.GunWeather': WHATEVER THE INPUT: true; the input reads as it did. -/
def gunWeatherSpec : ChangeSpec := { name := "gunWeather", fn := fun _ => fun
  | [d1, d2] => { results := [.lit (.bool true)], args := [d1, d2] }
  | _ => none }
def gunWeatherRow : OpenClaim := { program := "ytahcalhpigmbgaa", sum := "6779fc3a19265d2ee5a05db61271d9414bf652d0b16fffa625ca944c0ffe0b93", func := "skiarea/skiarealaw42.GunWeather", spec := "gunWeather", unfollowed := true, recurses := true, apart := false }
def GunWeatherSaid : Prop := gunWeatherRow.holds Try.pinned (OpenSpec.ofChange gunWeatherSpec)

/-- ITS FALSE NEIGHBOUR: 'it returns false'. Refute it at one input. -/
def gunWeatherWrong : ChangeSpec := { name := "gunWeather", fn := fun _ => fun
  | [d1, d2] => { results := [.lit (.bool false)], args := [d1, d2] }
  | _ => none }
def GunWeatherWrongFalsely : Prop := gunWeatherRow.holds Try.pinned (OpenSpec.ofChange gunWeatherWrong)

/-- 'skiarealaw42.GunParts': WHATEVER THE INPUT: true; the input reads as it did. -/
def gunPartsSpec : ChangeSpec := { name := "gunParts", fn := fun _ => fun
  | [d1, d2, d3] => { results := [.lit (.bool true)], args := [d1, d2, d3] }
  | _ => none }
def gunPartsRow : OpenClaim := { program := "ytahcalhpigmbgaa", sum := "6779fc3a19265d2ee5a05db61271d9414bf652d0b16fffa625ca944c0ffe0b93", func := "skiarea/skiarealaw42.GunParts", spec := "gunParts", unfollowed := true, recurses := true, apart := false }
def GunPartsSaid : Prop := gunPartsRow.holds Try.pinned (OpenSpec.ofChange gunPartsSpec)

/-- ITS FALSE NEIGHBOUR: 'it returns false'. Refute it at one input. -/
def gunPartsWrong : ChangeSpec := { name := "gunParts", fn := fun _ => fun
  | [d1, d2, d3] => { results := [.lit (.bool false)], args := [d1, d2, d3] }
  | _ => none }
def GunPartsWrongFalsely : Prop := gunPartsRow.holds Try.pinned (OpenSpec.ofChange gunPartsWrong)

/- THE SECOND FORM. 'bulk': how many values and letters a reading holds, each counted each time it is reached (what is shared counts as often as it is met; a slice's spare places count too). A statement '..UptoSaid' is the law's where the arguments, and the package variables that the reading takes, are together of bulk at most 1048576: NARROWER than '..Said'. Prove '..Said' where nothing that the law and all that it calls make is longer than what came in: it says more and counts as full. Else prove '..UptoSaid'. A law counts once. -/
mutual
def uptoBulk {H : Type} : DataW H → Nat
  | .lit (.string bytes) => bytes.length + 1
  | .lit _ => 1
  | .nil => 1
  | .ptr d => uptoBulk d + 1
  | .slice elems spare => uptoBulkAll elems + uptoBulkAll spare + 1
  | .agg parts => uptoBulkAll parts + 1
  | .iface _ d => uptoBulk d + 1
  | .map entries => uptoBulkEntries entries + 1
  | .held _ => 1
def uptoBulkAll {H : Type} : List (DataW H) → Nat
  | [] => 0
  | d :: r => uptoBulk d + uptoBulkAll r
def uptoBulkEntries {H : Type} : List (Lit × DataW H) → Nat
  | [] => 0
  | x :: r => uptoBulkEntry x + uptoBulkEntries r
def uptoBulkEntry {H : Type} : Lit × DataW H → Nat
  | (.string bytes, d) => bytes.length + uptoBulk d + 1
  | (_, d) => uptoBulk d + 1
 end
def uptoSmall : (H : Type) → List (DataW H) → Bool := fun _ ds => decide (uptoBulkAll ds ≤ 1048576)
def OpenSpec.upto (s : _root_.Go.ChangeSpec) : _root_.Go.OpenSpec := { _root_.Go.OpenSpec.ofChange s with cond := some uptoSmall }

/-- 'skiarealaw42.GunRights', WHERE WHAT IT READS IS OF BULK AT MOST 1048576: true; the input reads as it did. -/
def gunRightsUptoRow : OpenClaim := { program := "ytahcalhpigmbgaa", sum := "6779fc3a19265d2ee5a05db61271d9414bf652d0b16fffa625ca944c0ffe0b93", func := "skiarea/skiarealaw42.GunRights", spec := "gunRights", unfollowed := true, recurses := true, apart := false, narrowed := true }
def GunRightsUptoSaid : Prop := gunRightsUptoRow.holds Try.pinned (OpenSpec.upto gunRightsSpec)

/-- 'skiarealaw42.GunSwitches', WHERE WHAT IT READS IS OF BULK AT MOST 1048576: true; the input reads as it did. -/
def gunSwitchesUptoRow : OpenClaim := { program := "ytahcalhpigmbgaa", sum := "6779fc3a19265d2ee5a05db61271d9414bf652d0b16fffa625ca944c0ffe0b93", func := "skiarea/skiarealaw42.GunSwitches", spec := "gunSwitches", unfollowed := true, recurses := true, apart := false, narrowed := true }
def GunSwitchesUptoSaid : Prop := gunSwitchesUptoRow.holds Try.pinned (OpenSpec.upto gunSwitchesSpec)

/-- 'skiarealaw42.GunOutputs', WHERE WHAT IT READS IS OF BULK AT MOST 1048576: true; the input reads as it did. -/
def gunOutputsUptoRow : OpenClaim := { program := "ytahcalhpigmbgaa", sum := "6779fc3a19265d2ee5a05db61271d9414bf652d0b16fffa625ca944c0ffe0b93", func := "skiarea/skiarealaw42.GunOutputs", spec := "gunOutputs", unfollowed := true, recurses := true, apart := false, narrowed := true }
def GunOutputsUptoSaid : Prop := gunOutputsUptoRow.holds Try.pinned (OpenSpec.upto gunOutputsSpec)

/-- 'skiarealaw42.GunRests', WHERE WHAT IT READS IS OF BULK AT MOST 1048576: true; the input reads as it did. -/
def gunRestsUptoRow : OpenClaim := { program := "ytahcalhpigmbgaa", sum := "6779fc3a19265d2ee5a05db61271d9414bf652d0b16fffa625ca944c0ffe0b93", func := "skiarea/skiarealaw42.GunRests", spec := "gunRests", unfollowed := true, recurses := true, apart := false, narrowed := true }
def GunRestsUptoSaid : Prop := gunRestsUptoRow.holds Try.pinned (OpenSpec.upto gunRestsSpec)

/-- 'skiarealaw42.GunWeather', WHERE WHAT IT READS IS OF BULK AT MOST 1048576: true; the input reads as it did. -/
def gunWeatherUptoRow : OpenClaim := { program := "ytahcalhpigmbgaa", sum := "6779fc3a19265d2ee5a05db61271d9414bf652d0b16fffa625ca944c0ffe0b93", func := "skiarea/skiarealaw42.GunWeather", spec := "gunWeather", unfollowed := true, recurses := true, apart := false, narrowed := true }
def GunWeatherUptoSaid : Prop := gunWeatherUptoRow.holds Try.pinned (OpenSpec.upto gunWeatherSpec)

/-- 'skiarealaw42.GunParts', WHERE WHAT IT READS IS OF BULK AT MOST 1048576: true; the input reads as it did. -/
def gunPartsUptoRow : OpenClaim := { program := "ytahcalhpigmbgaa", sum := "6779fc3a19265d2ee5a05db61271d9414bf652d0b16fffa625ca944c0ffe0b93", func := "skiarea/skiarealaw42.GunParts", spec := "gunParts", unfollowed := true, recurses := true, apart := false, narrowed := true }
def GunPartsUptoSaid : Prop := gunPartsUptoRow.holds Try.pinned (OpenSpec.upto gunPartsSpec)

end Rows
end Go.Proofs.Ytahcalhpigmbgaa
