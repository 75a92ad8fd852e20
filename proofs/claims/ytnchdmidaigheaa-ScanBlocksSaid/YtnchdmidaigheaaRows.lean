/-
  No cell of these rows narrows 'for every input' (looked for: loops, veiled, ifaces, maps, wideKeys, modest, calm, conditions, laid).
  DERIVED. THE GIVEN ROWS OF THIS SEAT. 8 by the template 'for every input the law returns true; each argument reads behind the call as it read before'; 0 by the template 'total and deterministic' (their statements: YtnchdmidaigheaaTotals.lean).
  GIVEN WITH THE SEED: the statements are not yours to turn. If you find one false, say at which input.
  Laid BY PROGRAM, IN A SANDBOX (cutbox-rows.mjs): the forced cells as the released guide's own fill.sh prints them over the translation ddde4d3d4a562626… (all of the seat's roots in one cut). By AI agents, Wed Nov 11 2026. No macro, syntax, notation, axiom, sorry.
-/
import Derived.Test.YtnchdmidaigheaaChecked
import GoSem.Claim
import GoSem.ClaimJoined
import GoSem.ClaimMapViews
import Derived.JoinedTies
import Derived.KernelRfl
namespace Go.Proofs.Ytnchdmidaigheaa
/- THE CELL 'sum', in the pinned program and in every row, IS THE sha256 OF THE DUMP (.gsa) THAT YtnchdmidaigheaaProg.lean LOADS. Nothing in Lean hashes anything: it is a label: what it is worth is what the hold of that sum in a sandbox is worth. -/
noncomputable def Try.pinned : Pinned := { name := "ytnchdmidaigheaa", sum := "ddde4d3d4a562626770fb49714f14573eddd0e6fdabeb2c9e46462d38bae8d34", checked := Try.checked }
namespace Rows
def none {H : Type} : Left H := { results := [], args := [] }

/-- 'wagtaillaw14.NandOneWay': WHATEVER THE INPUT: true; the input reads as it did. -/
def nandOneWaySpec : ChangeSpec := { name := "nandOneWay", fn := fun _ => fun
  | [d1, d2] => { results := [.lit (.bool true)], args := [d1, d2] }
  | _ => none }
def nandOneWayRow : OpenClaim := { program := "ytnchdmidaigheaa", sum := "ddde4d3d4a562626770fb49714f14573eddd0e6fdabeb2c9e46462d38bae8d34", func := "wagtail/wagtaillaw14.NandOneWay", spec := "nandOneWay", unfollowed := true, recurses := true, apart := false }
def NandOneWaySaid : Prop := nandOneWayRow.holds Try.pinned (OpenSpec.ofChange nandOneWaySpec)

/-- ITS FALSE NEIGHBOUR: 'it returns false'. Refute it at one input. -/
def nandOneWayWrong : ChangeSpec := { name := "nandOneWay", fn := fun _ => fun
  | [d1, d2] => { results := [.lit (.bool false)], args := [d1, d2] }
  | _ => none }
def NandOneWayWrongFalsely : Prop := nandOneWayRow.holds Try.pinned (OpenSpec.ofChange nandOneWayWrong)

/-- 'wagtaillaw14.NandDoes': WHATEVER THE INPUT: true; the input reads as it did. -/
def nandDoesSpec : ChangeSpec := { name := "nandDoes", fn := fun _ => fun
  | [d1, d2] => { results := [.lit (.bool true)], args := [d1, d2] }
  | _ => none }
def nandDoesRow : OpenClaim := { program := "ytnchdmidaigheaa", sum := "ddde4d3d4a562626770fb49714f14573eddd0e6fdabeb2c9e46462d38bae8d34", func := "wagtail/wagtaillaw14.NandDoes", spec := "nandDoes", unfollowed := true, recurses := true, apart := false }
def NandDoesSaid : Prop := nandDoesRow.holds Try.pinned (OpenSpec.ofChange nandDoesSpec)

/-- ITS FALSE NEIGHBOUR: 'it returns false'. Refute it at one input. -/
def nandDoesWrong : ChangeSpec := { name := "nandDoes", fn := fun _ => fun
  | [d1, d2] => { results := [.lit (.bool false)], args := [d1, d2] }
  | _ => none }
def NandDoesWrongFalsely : Prop := nandDoesRow.holds Try.pinned (OpenSpec.ofChange nandDoesWrong)

/-- 'wagtaillaw14.NandNone': WHATEVER THE INPUT: true; the input reads as it did. -/
def nandNoneSpec : ChangeSpec := { name := "nandNone", fn := fun _ => fun
  | [d1, d2] => { results := [.lit (.bool true)], args := [d1, d2] }
  | _ => none }
def nandNoneRow : OpenClaim := { program := "ytnchdmidaigheaa", sum := "ddde4d3d4a562626770fb49714f14573eddd0e6fdabeb2c9e46462d38bae8d34", func := "wagtail/wagtaillaw14.NandNone", spec := "nandNone", unfollowed := true, recurses := true, apart := false }
def NandNoneSaid : Prop := nandNoneRow.holds Try.pinned (OpenSpec.ofChange nandNoneSpec)

/-- ITS FALSE NEIGHBOUR: 'it returns false'. Refute it at one input. -/
def nandNoneWrong : ChangeSpec := { name := "nandNone", fn := fun _ => fun
  | [d1, d2] => { results := [.lit (.bool false)], args := [d1, d2] }
  | _ => none }
def NandNoneWrongFalsely : Prop := nandNoneRow.holds Try.pinned (OpenSpec.ofChange nandNoneWrong)

/-- 'wagtaillaw43.DamageLooks': WHATEVER THE INPUT: true; the input reads as it did. -/
def damageLooksSpec : ChangeSpec := { name := "damageLooks", fn := fun _ => fun
  | [d] => { results := [.lit (.bool true)], args := [d] }
  | _ => none }
def damageLooksRow : OpenClaim := { program := "ytnchdmidaigheaa", sum := "ddde4d3d4a562626770fb49714f14573eddd0e6fdabeb2c9e46462d38bae8d34", func := "wagtail/wagtaillaw43.DamageLooks", spec := "damageLooks", unfollowed := true, recurses := true, apart := false }
def DamageLooksSaid : Prop := damageLooksRow.holds Try.pinned (OpenSpec.ofChange damageLooksSpec)

/-- ITS FALSE NEIGHBOUR: 'it returns false'. Refute it at one input. -/
def damageLooksWrong : ChangeSpec := { name := "damageLooks", fn := fun _ => fun
  | [d] => { results := [.lit (.bool false)], args := [d] }
  | _ => none }
def DamageLooksWrongFalsely : Prop := damageLooksRow.holds Try.pinned (OpenSpec.ofChange damageLooksWrong)

/-- 'wagtaillaw18.ScanDown': WHATEVER THE INPUT: true; the input reads as it did. -/
def scanDownSpec : ChangeSpec := { name := "scanDown", fn := fun _ => fun
  | [d1, d2] => { results := [.lit (.bool true)], args := [d1, d2] }
  | _ => none }
def scanDownRow : OpenClaim := { program := "ytnchdmidaigheaa", sum := "ddde4d3d4a562626770fb49714f14573eddd0e6fdabeb2c9e46462d38bae8d34", func := "wagtail/wagtaillaw18.ScanDown", spec := "scanDown", unfollowed := true, recurses := true, apart := false }
def ScanDownSaid : Prop := scanDownRow.holds Try.pinned (OpenSpec.ofChange scanDownSpec)

/-- ITS FALSE NEIGHBOUR: 'it returns false'. Refute it at one input. -/
def scanDownWrong : ChangeSpec := { name := "scanDown", fn := fun _ => fun
  | [d1, d2] => { results := [.lit (.bool false)], args := [d1, d2] }
  | _ => none }
def ScanDownWrongFalsely : Prop := scanDownRow.holds Try.pinned (OpenSpec.ofChange scanDownWrong)

/-- 'wagtaillaw18.ScanAll': WHATEVER THE INPUT: true; the input reads as it did. -/
def scanAllSpec : ChangeSpec := { name := "scanAll", fn := fun _ => fun
  | [d1, d2] => { results := [.lit (.bool true)], args := [d1, d2] }
  | _ => none }
def scanAllRow : OpenClaim := { program := "ytnchdmidaigheaa", sum := "ddde4d3d4a562626770fb49714f14573eddd0e6fdabeb2c9e46462d38bae8d34", func := "wagtail/wagtaillaw18.ScanAll", spec := "scanAll", unfollowed := true, recurses := true, apart := false }
def ScanAllSaid : Prop := scanAllRow.holds Try.pinned (OpenSpec.ofChange scanAllSpec)

/-- ITS FALSE NEIGHBOUR: 'it returns false'. Refute it at one input. -/
def scanAllWrong : ChangeSpec := { name := "scanAll", fn := fun _ => fun
  | [d1, d2] => { results := [.lit (.bool false)], args := [d1, d2] }
  | _ => none }
def ScanAllWrongFalsely : Prop := scanAllRow.holds Try.pinned (OpenSpec.ofChange scanAllWrong)

/-- 'wagtaillaw43.DamageDoes': WHATEVER THE INPUT: true; the input reads as it did. -/
def damageDoesSpec : ChangeSpec := { name := "damageDoes", fn := fun _ => fun
  | [d1, d2] => { results := [.lit (.bool true)], args := [d1, d2] }
  | _ => none }
def damageDoesRow : OpenClaim := { program := "ytnchdmidaigheaa", sum := "ddde4d3d4a562626770fb49714f14573eddd0e6fdabeb2c9e46462d38bae8d34", func := "wagtail/wagtaillaw43.DamageDoes", spec := "damageDoes", unfollowed := true, recurses := true, apart := false }
def DamageDoesSaid : Prop := damageDoesRow.holds Try.pinned (OpenSpec.ofChange damageDoesSpec)

/-- ITS FALSE NEIGHBOUR: 'it returns false'. Refute it at one input. -/
def damageDoesWrong : ChangeSpec := { name := "damageDoes", fn := fun _ => fun
  | [d1, d2] => { results := [.lit (.bool false)], args := [d1, d2] }
  | _ => none }
def DamageDoesWrongFalsely : Prop := damageDoesRow.holds Try.pinned (OpenSpec.ofChange damageDoesWrong)

/-- 'wagtaillaw18.ScanBlocks': WHATEVER THE INPUT: true; the input reads as it did. -/
def scanBlocksSpec : ChangeSpec := { name := "scanBlocks", fn := fun _ => fun
  | [d1, d2, d3] => { results := [.lit (.bool true)], args := [d1, d2, d3] }
  | _ => none }
def scanBlocksRow : OpenClaim := { program := "ytnchdmidaigheaa", sum := "ddde4d3d4a562626770fb49714f14573eddd0e6fdabeb2c9e46462d38bae8d34", func := "wagtail/wagtaillaw18.ScanBlocks", spec := "scanBlocks", unfollowed := true, recurses := true, apart := false }
def ScanBlocksSaid : Prop := scanBlocksRow.holds Try.pinned (OpenSpec.ofChange scanBlocksSpec)

/-- ITS FALSE NEIGHBOUR: 'it returns false'. Refute it at one input. -/
def scanBlocksWrong : ChangeSpec := { name := "scanBlocks", fn := fun _ => fun
  | [d1, d2, d3] => { results := [.lit (.bool false)], args := [d1, d2, d3] }
  | _ => none }
def ScanBlocksWrongFalsely : Prop := scanBlocksRow.holds Try.pinned (OpenSpec.ofChange scanBlocksWrong)

/- THE SECOND FORM. 'bulk': how many values and letters a reading holds, each counted each time it is reached (what is shared counts as often as it is met; a slice's spare places count too). A statement '..UptoSaid' is the law's where the arguments, and the package variables that the reading takes, are together of bulk at most 1048576: NARROWER than '..Said'. Prove '..Said' where nothing that the law and all that it calls make is longer than what came in: it says more and counts as full. Else prove '..UptoSaid'. A law counts once. -/
mutual
def uptoBulk {H : Type} : DataW H → Nat
  | .lit (.string bytes) => bytes.length + 1
  | .lit _ => 1
  | .nil => 1
  | .ptr d => uptoBulk d + 1
  | .slice elems spare => uptoBulkAll elems + uptoBulkAll spare + 1
  | .agg parts => uptoBulkAll parts + 1
  | .iface _ d => uptoBulk d + 1
  | .map entries => uptoBulkEntries entries + 1
  | .held _ => 1
def uptoBulkAll {H : Type} : List (DataW H) → Nat
  | [] => 0
  | d :: r => uptoBulk d + uptoBulkAll r
def uptoBulkEntries {H : Type} : List (Lit × DataW H) → Nat
  | [] => 0
  | x :: r => uptoBulkEntry x + uptoBulkEntries r
def uptoBulkEntry {H : Type} : Lit × DataW H → Nat
  | (.string bytes, d) => bytes.length + uptoBulk d + 1
  | (_, d) => uptoBulk d + 1
 end
def uptoSmall : (H : Type) → List (DataW H) → Bool := fun _ ds => decide (uptoBulkAll ds ≤ 1048576)
def OpenSpec.upto (s : _root_.Go.ChangeSpec) : _root_.Go.OpenSpec := { _root_.Go.OpenSpec.ofChange s with cond := some uptoSmall }

/-- 'wagtaillaw14.NandOneWay', WHERE WHAT IT READS IS OF BULK AT MOST 1048576: true; the input reads as it did. -/
def nandOneWayUptoRow : OpenClaim := { program := "ytnchdmidaigheaa", sum := "ddde4d3d4a562626770fb49714f14573eddd0e6fdabeb2c9e46462d38bae8d34", func := "wagtail/wagtaillaw14.NandOneWay", spec := "nandOneWay", unfollowed := true, recurses := true, apart := false, narrowed := true }
def NandOneWayUptoSaid : Prop := nandOneWayUptoRow.holds Try.pinned (OpenSpec.upto nandOneWaySpec)

/-- 'wagtaillaw14.NandDoes', WHERE WHAT IT READS IS OF BULK AT MOST 1048576: true; the input reads as it did. -/
def nandDoesUptoRow : OpenClaim := { program := "ytnchdmidaigheaa", sum := "ddde4d3d4a562626770fb49714f14573eddd0e6fdabeb2c9e46462d38bae8d34", func := "wagtail/wagtaillaw14.NandDoes", spec := "nandDoes", unfollowed := true, recurses := true, apart := false, narrowed := true }
def NandDoesUptoSaid : Prop := nandDoesUptoRow.holds Try.pinned (OpenSpec.upto nandDoesSpec)

/-- 'wagtaillaw14.NandNone', WHERE WHAT IT READS IS OF BULK AT MOST 1048576: true; the input reads as it did. -/
def nandNoneUptoRow : OpenClaim := { program := "ytnchdmidaigheaa", sum := "ddde4d3d4a562626770fb49714f14573eddd0e6fdabeb2c9e46462d38bae8d34", func := "wagtail/wagtaillaw14.NandNone", spec := "nandNone", unfollowed := true, recurses := true, apart := false, narrowed := true }
def NandNoneUptoSaid : Prop := nandNoneUptoRow.holds Try.pinned (OpenSpec.upto nandNoneSpec)

/-- 'wagtaillaw43.DamageLooks', WHERE WHAT IT READS IS OF BULK AT MOST 1048576: true; the input reads as it did. -/
def damageLooksUptoRow : OpenClaim := { program := "ytnchdmidaigheaa", sum := "ddde4d3d4a562626770fb49714f14573eddd0e6fdabeb2c9e46462d38bae8d34", func := "wagtail/wagtaillaw43.DamageLooks", spec := "damageLooks", unfollowed := true, recurses := true, apart := false, narrowed := true }
def DamageLooksUptoSaid : Prop := damageLooksUptoRow.holds Try.pinned (OpenSpec.upto damageLooksSpec)

/-- 'wagtaillaw18.ScanDown', WHERE WHAT IT READS IS OF BULK AT MOST 1048576: true; the input reads as it did. -/
def scanDownUptoRow : OpenClaim := { program := "ytnchdmidaigheaa", sum := "ddde4d3d4a562626770fb49714f14573eddd0e6fdabeb2c9e46462d38bae8d34", func := "wagtail/wagtaillaw18.ScanDown", spec := "scanDown", unfollowed := true, recurses := true, apart := false, narrowed := true }
def ScanDownUptoSaid : Prop := scanDownUptoRow.holds Try.pinned (OpenSpec.upto scanDownSpec)

/-- 'wagtaillaw18.ScanAll', WHERE WHAT IT READS IS OF BULK AT MOST 1048576: true; the input reads as it did. -/
def scanAllUptoRow : OpenClaim := { program := "ytnchdmidaigheaa", sum := "ddde4d3d4a562626770fb49714f14573eddd0e6fdabeb2c9e46462d38bae8d34", func := "wagtail/wagtaillaw18.ScanAll", spec := "scanAll", unfollowed := true, recurses := true, apart := false, narrowed := true }
def ScanAllUptoSaid : Prop := scanAllUptoRow.holds Try.pinned (OpenSpec.upto scanAllSpec)

/-- 'wagtaillaw43.DamageDoes', WHERE WHAT IT READS IS OF BULK AT MOST 1048576: true; the input reads as it did. -/
def damageDoesUptoRow : OpenClaim := { program := "ytnchdmidaigheaa", sum := "ddde4d3d4a562626770fb49714f14573eddd0e6fdabeb2c9e46462d38bae8d34", func := "wagtail/wagtaillaw43.DamageDoes", spec := "damageDoes", unfollowed := true, recurses := true, apart := false, narrowed := true }
def DamageDoesUptoSaid : Prop := damageDoesUptoRow.holds Try.pinned (OpenSpec.upto damageDoesSpec)

/-- 'wagtaillaw18.ScanBlocks', WHERE WHAT IT READS IS OF BULK AT MOST 1048576: true; the input reads as it did. -/
def scanBlocksUptoRow : OpenClaim := { program := "ytnchdmidaigheaa", sum := "ddde4d3d4a562626770fb49714f14573eddd0e6fdabeb2c9e46462d38bae8d34", func := "wagtail/wagtaillaw18.ScanBlocks", spec := "scanBlocks", unfollowed := true, recurses := true, apart := false, narrowed := true }
def ScanBlocksUptoSaid : Prop := scanBlocksUptoRow.holds Try.pinned (OpenSpec.upto scanBlocksSpec)

end Rows
end Go.Proofs.Ytnchdmidaigheaa
