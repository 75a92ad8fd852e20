/-
  No cell of these rows narrows 'for every input' (looked for: loops, veiled, ifaces, maps, wideKeys, modest, calm, conditions, laid).
  DERIVED. THE GIVEN ROWS OF THIS SEAT. 10 by the template 'for every input the law returns true; each argument reads behind the call as it read before'; 0 by the template 'total and deterministic' (their statements: YtmlkkdopogcggaaTotals.lean).
  GIVEN WITH THE SEED: the statements are not yours to turn. If you find one false, say at which input.
  Laid BY PROGRAM, IN A SANDBOX (cutbox-rows.mjs): the forced cells as the released guide's own fill.sh prints them over the translation 40333914c69eeb05… (all of the seat's roots in one cut). By AI agents, Wed Nov 11 2026. No macro, syntax, notation, axiom, sorry.
-/
import Derived.Test.YtmlkkdopogcggaaChecked
import GoSem.Claim
import GoSem.ClaimJoined
import GoSem.ClaimMapViews
import Derived.JoinedTies
import Derived.KernelRfl
namespace Go.Proofs.Ytmlkkdopogcggaa
/- THE CELL 'sum', in the pinned program and in every row, IS THE sha256 OF THE DUMP (.gsa) THAT YtmlkkdopogcggaaProg.lean LOADS. Nothing in Lean hashes anything: it is a label: what it is worth is what the hold of that sum in a sandbox is worth. -/
noncomputable def Try.pinned : Pinned := { name := "ytmlkkdopogcggaa", sum := "40333914c69eeb059882f19db1678006e97f8da7b2eff5d830cb34d979c92200", checked := Try.checked }
namespace Rows
def none {H : Type} : Left H := { results := [], args := [] }

/-- 'wagtaillaw13.GeomPages': WHATEVER THE INPUT: true; the input reads as it did. -/
def geomPagesSpec : ChangeSpec := { name := "geomPages", fn := fun _ => fun
  | [d] => { results := [.lit (.bool true)], args := [d] }
  | _ => none }
def geomPagesRow : OpenClaim := { program := "ytmlkkdopogcggaa", sum := "40333914c69eeb059882f19db1678006e97f8da7b2eff5d830cb34d979c92200", func := "wagtail/wagtaillaw13.GeomPages", spec := "geomPages", unfollowed := true, recurses := true, apart := false }
def GeomPagesSaid : Prop := geomPagesRow.holds Try.pinned (OpenSpec.ofChange geomPagesSpec)

/-- ITS FALSE NEIGHBOUR: 'it returns false'. Refute it at one input. -/
def geomPagesWrong : ChangeSpec := { name := "geomPages", fn := fun _ => fun
  | [d] => { results := [.lit (.bool false)], args := [d] }
  | _ => none }
def GeomPagesWrongFalsely : Prop := geomPagesRow.holds Try.pinned (OpenSpec.ofChange geomPagesWrong)

/-- 'wagtaillaw13.GeomPlaces': WHATEVER THE INPUT: true; the input reads as it did. -/
def geomPlacesSpec : ChangeSpec := { name := "geomPlaces", fn := fun _ => fun
  | [d1, d2, d3] => { results := [.lit (.bool true)], args := [d1, d2, d3] }
  | _ => none }
def geomPlacesRow : OpenClaim := { program := "ytmlkkdopogcggaa", sum := "40333914c69eeb059882f19db1678006e97f8da7b2eff5d830cb34d979c92200", func := "wagtail/wagtaillaw13.GeomPlaces", spec := "geomPlaces", unfollowed := true, recurses := true, apart := false }
def GeomPlacesSaid : Prop := geomPlacesRow.holds Try.pinned (OpenSpec.ofChange geomPlacesSpec)

/-- ITS FALSE NEIGHBOUR: 'it returns false'. Refute it at one input. -/
def geomPlacesWrong : ChangeSpec := { name := "geomPlaces", fn := fun _ => fun
  | [d1, d2, d3] => { results := [.lit (.bool false)], args := [d1, d2, d3] }
  | _ => none }
def GeomPlacesWrongFalsely : Prop := geomPlacesRow.holds Try.pinned (OpenSpec.ofChange geomPlacesWrong)

/-- 'wagtaillaw02.ZerosCount': WHATEVER THE INPUT: true; the input reads as it did. -/
def zerosCountSpec : ChangeSpec := { name := "zerosCount", fn := fun _ => fun
  | [d1, d2] => { results := [.lit (.bool true)], args := [d1, d2] }
  | _ => none }
def zerosCountRow : OpenClaim := { program := "ytmlkkdopogcggaa", sum := "40333914c69eeb059882f19db1678006e97f8da7b2eff5d830cb34d979c92200", func := "wagtail/wagtaillaw02.ZerosCount", spec := "zerosCount", unfollowed := true, recurses := true, apart := false }
def ZerosCountSaid : Prop := zerosCountRow.holds Try.pinned (OpenSpec.ofChange zerosCountSpec)

/-- ITS FALSE NEIGHBOUR: 'it returns false'. Refute it at one input. -/
def zerosCountWrong : ChangeSpec := { name := "zerosCount", fn := fun _ => fun
  | [d1, d2] => { results := [.lit (.bool false)], args := [d1, d2] }
  | _ => none }
def ZerosCountWrongFalsely : Prop := zerosCountRow.holds Try.pinned (OpenSpec.ofChange zerosCountWrong)

/-- 'wagtaillaw02.ZerosProgram': WHATEVER THE INPUT: true; the input reads as it did. -/
def zerosProgramSpec : ChangeSpec := { name := "zerosProgram", fn := fun _ => fun
  | [d1, d2, d3] => { results := [.lit (.bool true)], args := [d1, d2, d3] }
  | _ => none }
def zerosProgramRow : OpenClaim := { program := "ytmlkkdopogcggaa", sum := "40333914c69eeb059882f19db1678006e97f8da7b2eff5d830cb34d979c92200", func := "wagtail/wagtaillaw02.ZerosProgram", spec := "zerosProgram", unfollowed := true, recurses := true, apart := false }
def ZerosProgramSaid : Prop := zerosProgramRow.holds Try.pinned (OpenSpec.ofChange zerosProgramSpec)

/-- ITS FALSE NEIGHBOUR: 'it returns false'. Refute it at one input. -/
def zerosProgramWrong : ChangeSpec := { name := "zerosProgram", fn := fun _ => fun
  | [d1, d2, d3] => { results := [.lit (.bool false)], args := [d1, d2, d3] }
  | _ => none }
def ZerosProgramWrongFalsely : Prop := zerosProgramRow.holds Try.pinned (OpenSpec.ofChange zerosProgramWrong)

/-- 'wagtaillaw02.ZerosErase': WHATEVER THE INPUT: true; the input reads as it did. -/
def zerosEraseSpec : ChangeSpec := { name := "zerosErase", fn := fun _ => fun
  | [d1, d2, d3] => { results := [.lit (.bool true)], args := [d1, d2, d3] }
  | _ => none }
def zerosEraseRow : OpenClaim := { program := "ytmlkkdopogcggaa", sum := "40333914c69eeb059882f19db1678006e97f8da7b2eff5d830cb34d979c92200", func := "wagtail/wagtaillaw02.ZerosErase", spec := "zerosErase", unfollowed := true, recurses := true, apart := false }
def ZerosEraseSaid : Prop := zerosEraseRow.holds Try.pinned (OpenSpec.ofChange zerosEraseSpec)

/-- ITS FALSE NEIGHBOUR: 'it returns false'. Refute it at one input. -/
def zerosEraseWrong : ChangeSpec := { name := "zerosErase", fn := fun _ => fun
  | [d1, d2, d3] => { results := [.lit (.bool false)], args := [d1, d2, d3] }
  | _ => none }
def ZerosEraseWrongFalsely : Prop := zerosEraseRow.holds Try.pinned (OpenSpec.ofChange zerosEraseWrong)

/-- 'wagtaillaw02.ZerosOneWay': WHATEVER THE INPUT: true; the input reads as it did. -/
def zerosOneWaySpec : ChangeSpec := { name := "zerosOneWay", fn := fun _ => fun
  | [d1, d2, d3] => { results := [.lit (.bool true)], args := [d1, d2, d3] }
  | _ => none }
def zerosOneWayRow : OpenClaim := { program := "ytmlkkdopogcggaa", sum := "40333914c69eeb059882f19db1678006e97f8da7b2eff5d830cb34d979c92200", func := "wagtail/wagtaillaw02.ZerosOneWay", spec := "zerosOneWay", unfollowed := true, recurses := true, apart := false }
def ZerosOneWaySaid : Prop := zerosOneWayRow.holds Try.pinned (OpenSpec.ofChange zerosOneWaySpec)

/-- ITS FALSE NEIGHBOUR: 'it returns false'. Refute it at one input. -/
def zerosOneWayWrong : ChangeSpec := { name := "zerosOneWay", fn := fun _ => fun
  | [d1, d2, d3] => { results := [.lit (.bool false)], args := [d1, d2, d3] }
  | _ => none }
def ZerosOneWayWrongFalsely : Prop := zerosOneWayRow.holds Try.pinned (OpenSpec.ofChange zerosOneWayWrong)

/-- 'wagtaillaw15.PagePuts': WHATEVER THE INPUT: true; the input reads as it did. -/
def pagePutsSpec : ChangeSpec := { name := "pagePuts", fn := fun _ => fun
  | [d1, d2] => { results := [.lit (.bool true)], args := [d1, d2] }
  | _ => none }
def pagePutsRow : OpenClaim := { program := "ytmlkkdopogcggaa", sum := "40333914c69eeb059882f19db1678006e97f8da7b2eff5d830cb34d979c92200", func := "wagtail/wagtaillaw15.PagePuts", spec := "pagePuts", unfollowed := true, recurses := true, apart := false }
def PagePutsSaid : Prop := pagePutsRow.holds Try.pinned (OpenSpec.ofChange pagePutsSpec)

/-- ITS FALSE NEIGHBOUR: 'it returns false'. Refute it at one input. -/
def pagePutsWrong : ChangeSpec := { name := "pagePuts", fn := fun _ => fun
  | [d1, d2] => { results := [.lit (.bool false)], args := [d1, d2] }
  | _ => none }
def PagePutsWrongFalsely : Prop := pagePutsRow.holds Try.pinned (OpenSpec.ofChange pagePutsWrong)

/-- 'wagtaillaw15.PageGets': WHATEVER THE INPUT: true; the input reads as it did. -/
def pageGetsSpec : ChangeSpec := { name := "pageGets", fn := fun _ => fun
  | [d] => { results := [.lit (.bool true)], args := [d] }
  | _ => none }
def pageGetsRow : OpenClaim := { program := "ytmlkkdopogcggaa", sum := "40333914c69eeb059882f19db1678006e97f8da7b2eff5d830cb34d979c92200", func := "wagtail/wagtaillaw15.PageGets", spec := "pageGets", unfollowed := true, recurses := true, apart := false }
def PageGetsSaid : Prop := pageGetsRow.holds Try.pinned (OpenSpec.ofChange pageGetsSpec)

/-- ITS FALSE NEIGHBOUR: 'it returns false'. Refute it at one input. -/
def pageGetsWrong : ChangeSpec := { name := "pageGets", fn := fun _ => fun
  | [d] => { results := [.lit (.bool false)], args := [d] }
  | _ => none }
def PageGetsWrongFalsely : Prop := pageGetsRow.holds Try.pinned (OpenSpec.ofChange pageGetsWrong)

/-- 'wagtaillaw15.PageTorn': WHATEVER THE INPUT: true; the input reads as it did. -/
def pageTornSpec : ChangeSpec := { name := "pageTorn", fn := fun _ => fun
  | [d1, d2, d3] => { results := [.lit (.bool true)], args := [d1, d2, d3] }
  | _ => none }
def pageTornRow : OpenClaim := { program := "ytmlkkdopogcggaa", sum := "40333914c69eeb059882f19db1678006e97f8da7b2eff5d830cb34d979c92200", func := "wagtail/wagtaillaw15.PageTorn", spec := "pageTorn", unfollowed := true, recurses := true, apart := false }
def PageTornSaid : Prop := pageTornRow.holds Try.pinned (OpenSpec.ofChange pageTornSpec)

/-- ITS FALSE NEIGHBOUR: 'it returns false'. Refute it at one input. -/
def pageTornWrong : ChangeSpec := { name := "pageTorn", fn := fun _ => fun
  | [d1, d2, d3] => { results := [.lit (.bool false)], args := [d1, d2, d3] }
  | _ => none }
def PageTornWrongFalsely : Prop := pageTornRow.holds Try.pinned (OpenSpec.ofChange pageTornWrong)

/-- 'wagtaillaw15.PageReopens': WHATEVER THE INPUT: true; the input reads as it did. -/
def pageReopensSpec : ChangeSpec := { name := "pageReopens", fn := fun _ => fun
  | [d] => { results := [.lit (.bool true)], args := [d] }
  | _ => none }
def pageReopensRow : OpenClaim := { program := "ytmlkkdopogcggaa", sum := "40333914c69eeb059882f19db1678006e97f8da7b2eff5d830cb34d979c92200", func := "wagtail/wagtaillaw15.PageReopens", spec := "pageReopens", unfollowed := true, recurses := true, apart := false }
def PageReopensSaid : Prop := pageReopensRow.holds Try.pinned (OpenSpec.ofChange pageReopensSpec)

/-- ITS FALSE NEIGHBOUR: 'it returns false'. Refute it at one input. -/
def pageReopensWrong : ChangeSpec := { name := "pageReopens", fn := fun _ => fun
  | [d] => { results := [.lit (.bool false)], args := [d] }
  | _ => none }
def PageReopensWrongFalsely : Prop := pageReopensRow.holds Try.pinned (OpenSpec.ofChange pageReopensWrong)

/- THE SECOND FORM. 'bulk': how many values and letters a reading holds, each counted each time it is reached (what is shared counts as often as it is met; a slice's spare places count too). A statement '..UptoSaid' is the law's where the arguments, and the package variables that the reading takes, are together of bulk at most 1048576: NARROWER than '..Said'. Prove '..Said' where nothing that the law and all that it calls make is longer than what came in: it says more and counts as full. Else prove '..UptoSaid'. A law counts once. -/
mutual
def uptoBulk {H : Type} : DataW H → Nat
  | .lit (.string bytes) => bytes.length + 1
  | .lit _ => 1
  | .nil => 1
  | .ptr d => uptoBulk d + 1
  | .slice elems spare => uptoBulkAll elems + uptoBulkAll spare + 1
  | .agg parts => uptoBulkAll parts + 1
  | .iface _ d => uptoBulk d + 1
  | .map entries => uptoBulkEntries entries + 1
  | .held _ => 1
def uptoBulkAll {H : Type} : List (DataW H) → Nat
  | [] => 0
  | d :: r => uptoBulk d + uptoBulkAll r
def uptoBulkEntries {H : Type} : List (Lit × DataW H) → Nat
  | [] => 0
  | x :: r => uptoBulkEntry x + uptoBulkEntries r
def uptoBulkEntry {H : Type} : Lit × DataW H → Nat
  | (.string bytes, d) => bytes.length + uptoBulk d + 1
  | (_, d) => uptoBulk d + 1
 end
def uptoSmall : (H : Type) → List (DataW H) → Bool := fun _ ds => decide (uptoBulkAll ds ≤ 1048576)
def OpenSpec.upto (s : _root_.Go.ChangeSpec) : _root_.Go.OpenSpec := { _root_.Go.OpenSpec.ofChange s with cond := some uptoSmall }

/-- 'wagtaillaw13.GeomPages', WHERE WHAT IT READS IS OF BULK AT MOST 1048576: true; the input reads as it did. -/
def geomPagesUptoRow : OpenClaim := { program := "ytmlkkdopogcggaa", sum := "40333914c69eeb059882f19db1678006e97f8da7b2eff5d830cb34d979c92200", func := "wagtail/wagtaillaw13.GeomPages", spec := "geomPages", unfollowed := true, recurses := true, apart := false, narrowed := true }
def GeomPagesUptoSaid : Prop := geomPagesUptoRow.holds Try.pinned (OpenSpec.upto geomPagesSpec)

/-- 'wagtaillaw13.GeomPlaces', WHERE WHAT IT READS IS OF BULK AT MOST 1048576: true; the input reads as it did. -/
def geomPlacesUptoRow : OpenClaim := { program := "ytmlkkdopogcggaa", sum := "40333914c69eeb059882f19db1678006e97f8da7b2eff5d830cb34d979c92200", func := "wagtail/wagtaillaw13.GeomPlaces", spec := "geomPlaces", unfollowed := true, recurses := true, apart := false, narrowed := true }
def GeomPlacesUptoSaid : Prop := geomPlacesUptoRow.holds Try.pinned (OpenSpec.upto geomPlacesSpec)

/-- 'wagtaillaw02.ZerosCount', WHERE WHAT IT READS IS OF BULK AT MOST 1048576: true; the input reads as it did. -/
def zerosCountUptoRow : OpenClaim := { program := "ytmlkkdopogcggaa", sum := "40333914c69eeb059882f19db1678006e97f8da7b2eff5d830cb34d979c92200", func := "wagtail/wagtaillaw02.ZerosCount", spec := "zerosCount", unfollowed := true, recurses := true, apart := false, narrowed := true }
def ZerosCountUptoSaid : Prop := zerosCountUptoRow.holds Try.pinned (OpenSpec.upto zerosCountSpec)

/-- 'wagtaillaw02.ZerosProgram', WHERE WHAT IT READS IS OF BULK AT MOST 1048576: true; the input reads as it did. -/
def zerosProgramUptoRow : OpenClaim := { program := "ytmlkkdopogcggaa", sum := "40333914c69eeb059882f19db1678006e97f8da7b2eff5d830cb34d979c92200", func := "wagtail/wagtaillaw02.ZerosProgram", spec := "zerosProgram", unfollowed := true, recurses := true, apart := false, narrowed := true }
def ZerosProgramUptoSaid : Prop := zerosProgramUptoRow.holds Try.pinned (OpenSpec.upto zerosProgramSpec)

/-- 'wagtaillaw02.ZerosErase', WHERE WHAT IT READS IS OF BULK AT MOST 1048576: true; the input reads as it did. -/
def zerosEraseUptoRow : OpenClaim := { program := "ytmlkkdopogcggaa", sum := "40333914c69eeb059882f19db1678006e97f8da7b2eff5d830cb34d979c92200", func := "wagtail/wagtaillaw02.ZerosErase", spec := "zerosErase", unfollowed := true, recurses := true, apart := false, narrowed := true }
def ZerosEraseUptoSaid : Prop := zerosEraseUptoRow.holds Try.pinned (OpenSpec.upto zerosEraseSpec)

/-- 'wagtaillaw02.ZerosOneWay', WHERE WHAT IT READS IS OF BULK AT MOST 1048576: true; the input reads as it did. -/
def zerosOneWayUptoRow : OpenClaim := { program := "ytmlkkdopogcggaa", sum := "40333914c69eeb059882f19db1678006e97f8da7b2eff5d830cb34d979c92200", func := "wagtail/wagtaillaw02.ZerosOneWay", spec := "zerosOneWay", unfollowed := true, recurses := true, apart := false, narrowed := true }
def ZerosOneWayUptoSaid : Prop := zerosOneWayUptoRow.holds Try.pinned (OpenSpec.upto zerosOneWaySpec)

/-- 'wagtaillaw15.PagePuts', WHERE WHAT IT READS IS OF BULK AT MOST 1048576: true; the input reads as it did. -/
def pagePutsUptoRow : OpenClaim := { program := "ytmlkkdopogcggaa", sum := "40333914c69eeb059882f19db1678006e97f8da7b2eff5d830cb34d979c92200", func := "wagtail/wagtaillaw15.PagePuts", spec := "pagePuts", unfollowed := true, recurses := true, apart := false, narrowed := true }
def PagePutsUptoSaid : Prop := pagePutsUptoRow.holds Try.pinned (OpenSpec.upto pagePutsSpec)

/-- 'wagtaillaw15.PageGets', WHERE WHAT IT READS IS OF BULK AT MOST 1048576: true; the input reads as it did. -/
def pageGetsUptoRow : OpenClaim := { program := "ytmlkkdopogcggaa", sum := "40333914c69eeb059882f19db1678006e97f8da7b2eff5d830cb34d979c92200", func := "wagtail/wagtaillaw15.PageGets", spec := "pageGets", unfollowed := true, recurses := true, apart := false, narrowed := true }
def PageGetsUptoSaid : Prop := pageGetsUptoRow.holds Try.pinned (OpenSpec.upto pageGetsSpec)

/-- 'wagtaillaw15.PageTorn', WHERE WHAT IT READS IS OF BULK AT MOST 1048576: true; the input reads as it did. -/
def pageTornUptoRow : OpenClaim := { program := "ytmlkkdopogcggaa", sum := "40333914c69eeb059882f19db1678006e97f8da7b2eff5d830cb34d979c92200", func := "wagtail/wagtaillaw15.PageTorn", spec := "pageTorn", unfollowed := true, recurses := true, apart := false, narrowed := true }
def PageTornUptoSaid : Prop := pageTornUptoRow.holds Try.pinned (OpenSpec.upto pageTornSpec)

/-- 'wagtaillaw15.PageReopens', WHERE WHAT IT READS IS OF BULK AT MOST 1048576: true; the input reads as it did. -/
def pageReopensUptoRow : OpenClaim := { program := "ytmlkkdopogcggaa", sum := "40333914c69eeb059882f19db1678006e97f8da7b2eff5d830cb34d979c92200", func := "wagtail/wagtaillaw15.PageReopens", spec := "pageReopens", unfollowed := true, recurses := true, apart := false, narrowed := true }
def PageReopensUptoSaid : Prop := pageReopensUptoRow.holds Try.pinned (OpenSpec.upto pageReopensSpec)

end Rows
end Go.Proofs.Ytmlkkdopogcggaa
