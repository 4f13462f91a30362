/-
  No cell of these rows narrows 'for every input' (looked for: loops, veiled, ifaces, maps, wideKeys, modest, calm, conditions, laid).
  DERIVED. THE GIVEN ROWS OF THIS SEAT. 8 by the template 'for every input the law returns true; each argument reads behind the call as it read before'; 0 by the template 'total and deterministic' (their statements: YtjiojpconkhdmaaTotals.lean).
  GIVEN WITH THE SEED: the statements are not yours to turn. If you find one false, say at which input.
  Laid BY PROGRAM, IN A SANDBOX (cutbox-rows.mjs): the forced cells as the released guide's own fill.sh prints them over the translation 856e63b5b89c618a… (all of the seat's roots in one cut). By AI agents, Wed Nov 11 2026. No macro, syntax, notation, axiom, sorry.
-/
import Derived.Test.YtjiojpconkhdmaaChecked
import GoSem.Claim
import GoSem.ClaimJoined
import GoSem.ClaimMapViews
import Derived.JoinedTies
import Derived.KernelRfl
namespace Go.Proofs.Ytjiojpconkhdmaa
/- THE CELL 'sum', in the pinned program and in every row, IS THE sha256 OF THE DUMP (.gsa) THAT YtjiojpconkhdmaaProg.lean LOADS. Nothing in Lean hashes anything: it is a label: what it is worth is what the hold of that sum in a sandbox is worth. -/
noncomputable def Try.pinned : Pinned := { name := "ytjiojpconkhdmaa", sum := "856e63b5b89c618adce7df401b6c99ebd60e53b6551040c092782653c76410a4", checked := Try.checked }
namespace Rows
def none {H : Type} : Left H := { results := [], args := [] }

/-- 'pinfoldlaw7.Packets': WHATEVER THE INPUT: true; the input reads as it did. -/
def packetsSpec : ChangeSpec := { name := "packets", fn := fun _ => fun
  | [d1, d2] => { results := [.lit (.bool true)], args := [d1, d2] }
  | _ => none }
def packetsRow : OpenClaim := { program := "ytjiojpconkhdmaa", sum := "856e63b5b89c618adce7df401b6c99ebd60e53b6551040c092782653c76410a4", func := "pinfold/pinfoldlaw7.Packets", spec := "packets", inPlace := ["internal/abi.NoEscape", "internal/bytealg.MakeNoZero"], unfollowed := true, recurses := true, plainKeys := false, apart := false }
def PacketsSaid : Prop := packetsRow.holds Try.pinned (OpenSpec.ofChange packetsSpec)

/-- ITS FALSE NEIGHBOUR: 'it returns false'. Refute it at one input. -/
def packetsWrong : ChangeSpec := { name := "packets", fn := fun _ => fun
  | [d1, d2] => { results := [.lit (.bool false)], args := [d1, d2] }
  | _ => none }
def PacketsWrongFalsely : Prop := packetsRow.holds Try.pinned (OpenSpec.ofChange packetsWrong)

/-- 'pinfoldlaw7.PacketHeads': WHATEVER THE INPUT: true; the input reads as it did. -/
def packetHeadsSpec : ChangeSpec := { name := "packetHeads", fn := fun _ => fun
  | [d] => { results := [.lit (.bool true)], args := [d] }
  | _ => none }
def packetHeadsRow : OpenClaim := { program := "ytjiojpconkhdmaa", sum := "856e63b5b89c618adce7df401b6c99ebd60e53b6551040c092782653c76410a4", func := "pinfold/pinfoldlaw7.PacketHeads", spec := "packetHeads", inPlace := ["internal/abi.NoEscape", "internal/bytealg.MakeNoZero"], unfollowed := true, recurses := true, plainKeys := false, apart := false }
def PacketHeadsSaid : Prop := packetHeadsRow.holds Try.pinned (OpenSpec.ofChange packetHeadsSpec)

/-- ITS FALSE NEIGHBOUR: 'it returns false'. Refute it at one input. -/
def packetHeadsWrong : ChangeSpec := { name := "packetHeads", fn := fun _ => fun
  | [d] => { results := [.lit (.bool false)], args := [d] }
  | _ => none }
def PacketHeadsWrongFalsely : Prop := packetHeadsRow.holds Try.pinned (OpenSpec.ofChange packetHeadsWrong)

/-- 'pinfoldlaw5.Dnses': WHATEVER THE INPUT: true; the input reads as it did. -/
def dnsesSpec : ChangeSpec := { name := "dnses", fn := fun _ => fun
  | [d1, d2, d3] => { results := [.lit (.bool true)], args := [d1, d2, d3] }
  | _ => none }
def dnsesRow : OpenClaim := { program := "ytjiojpconkhdmaa", sum := "856e63b5b89c618adce7df401b6c99ebd60e53b6551040c092782653c76410a4", func := "pinfold/pinfoldlaw5.Dnses", spec := "dnses", inPlace := ["internal/bytealg.IndexByteString", "internal/bytealg.IndexString", "internal/abi.NoEscape", "internal/bytealg.MakeNoZero"], unfollowed := true, recurses := true, named := ["internal/bytealg.MaxLen"], plainKeys := false, apart := false }
def DnsesSaid : Prop := dnsesRow.holds Try.pinned (OpenSpec.ofChange dnsesSpec)

/-- ITS FALSE NEIGHBOUR: 'it returns false'. Refute it at one input. -/
def dnsesWrong : ChangeSpec := { name := "dnses", fn := fun _ => fun
  | [d1, d2, d3] => { results := [.lit (.bool false)], args := [d1, d2, d3] }
  | _ => none }
def DnsesWrongFalsely : Prop := dnsesRow.holds Try.pinned (OpenSpec.ofChange dnsesWrong)

/-- 'pinfoldlaw5.DnsBack': WHATEVER THE INPUT: true; the input reads as it did. -/
def dnsBackSpec : ChangeSpec := { name := "dnsBack", fn := fun _ => fun
  | [d1, d2] => { results := [.lit (.bool true)], args := [d1, d2] }
  | _ => none }
def dnsBackRow : OpenClaim := { program := "ytjiojpconkhdmaa", sum := "856e63b5b89c618adce7df401b6c99ebd60e53b6551040c092782653c76410a4", func := "pinfold/pinfoldlaw5.DnsBack", spec := "dnsBack", inPlace := ["internal/bytealg.IndexByteString", "internal/bytealg.IndexString", "internal/abi.NoEscape", "internal/bytealg.MakeNoZero"], unfollowed := true, recurses := true, named := ["internal/bytealg.MaxLen"], plainKeys := false, apart := false }
def DnsBackSaid : Prop := dnsBackRow.holds Try.pinned (OpenSpec.ofChange dnsBackSpec)

/-- ITS FALSE NEIGHBOUR: 'it returns false'. Refute it at one input. -/
def dnsBackWrong : ChangeSpec := { name := "dnsBack", fn := fun _ => fun
  | [d1, d2] => { results := [.lit (.bool false)], args := [d1, d2] }
  | _ => none }
def DnsBackWrongFalsely : Prop := dnsBackRow.holds Try.pinned (OpenSpec.ofChange dnsBackWrong)

/-- 'pinfoldlaw5.DnsForms': WHATEVER THE INPUT: true; the input reads as it did. -/
def dnsFormsSpec : ChangeSpec := { name := "dnsForms", fn := fun _ => fun
  | [d1, d2] => { results := [.lit (.bool true)], args := [d1, d2] }
  | _ => none }
def dnsFormsRow : OpenClaim := { program := "ytjiojpconkhdmaa", sum := "856e63b5b89c618adce7df401b6c99ebd60e53b6551040c092782653c76410a4", func := "pinfold/pinfoldlaw5.DnsForms", spec := "dnsForms", inPlace := ["internal/bytealg.IndexByteString", "internal/bytealg.IndexString", "internal/abi.NoEscape", "internal/bytealg.MakeNoZero"], unfollowed := true, recurses := true, named := ["internal/bytealg.MaxLen"], plainKeys := false, apart := false }
def DnsFormsSaid : Prop := dnsFormsRow.holds Try.pinned (OpenSpec.ofChange dnsFormsSpec)

/-- ITS FALSE NEIGHBOUR: 'it returns false'. Refute it at one input. -/
def dnsFormsWrong : ChangeSpec := { name := "dnsForms", fn := fun _ => fun
  | [d1, d2] => { results := [.lit (.bool false)], args := [d1, d2] }
  | _ => none }
def DnsFormsWrongFalsely : Prop := dnsFormsRow.holds Try.pinned (OpenSpec.ofChange dnsFormsWrong)

/-- 'pinfoldlaw5.DnsHeads': WHATEVER THE INPUT: true; the input reads as it did. -/
def dnsHeadsSpec : ChangeSpec := { name := "dnsHeads", fn := fun _ => fun
  | [d] => { results := [.lit (.bool true)], args := [d] }
  | _ => none }
def dnsHeadsRow : OpenClaim := { program := "ytjiojpconkhdmaa", sum := "856e63b5b89c618adce7df401b6c99ebd60e53b6551040c092782653c76410a4", func := "pinfold/pinfoldlaw5.DnsHeads", spec := "dnsHeads", inPlace := ["internal/bytealg.IndexByteString", "internal/bytealg.IndexString", "internal/abi.NoEscape", "internal/bytealg.MakeNoZero"], unfollowed := true, recurses := true, named := ["internal/bytealg.MaxLen"], plainKeys := false, apart := false }
def DnsHeadsSaid : Prop := dnsHeadsRow.holds Try.pinned (OpenSpec.ofChange dnsHeadsSpec)

/-- ITS FALSE NEIGHBOUR: 'it returns false'. Refute it at one input. -/
def dnsHeadsWrong : ChangeSpec := { name := "dnsHeads", fn := fun _ => fun
  | [d] => { results := [.lit (.bool false)], args := [d] }
  | _ => none }
def DnsHeadsWrongFalsely : Prop := dnsHeadsRow.holds Try.pinned (OpenSpec.ofChange dnsHeadsWrong)

/-- 'pinfoldlaw5.DnsCut': WHATEVER THE INPUT: true; the input reads as it did. -/
def dnsCutSpec : ChangeSpec := { name := "dnsCut", fn := fun _ => fun
  | [d1, d2, d3] => { results := [.lit (.bool true)], args := [d1, d2, d3] }
  | _ => none }
def dnsCutRow : OpenClaim := { program := "ytjiojpconkhdmaa", sum := "856e63b5b89c618adce7df401b6c99ebd60e53b6551040c092782653c76410a4", func := "pinfold/pinfoldlaw5.DnsCut", spec := "dnsCut", inPlace := ["internal/bytealg.IndexByteString", "internal/bytealg.IndexString", "internal/abi.NoEscape", "internal/bytealg.MakeNoZero"], unfollowed := true, recurses := true, named := ["internal/bytealg.MaxLen"], plainKeys := false, apart := false }
def DnsCutSaid : Prop := dnsCutRow.holds Try.pinned (OpenSpec.ofChange dnsCutSpec)

/-- ITS FALSE NEIGHBOUR: 'it returns false'. Refute it at one input. -/
def dnsCutWrong : ChangeSpec := { name := "dnsCut", fn := fun _ => fun
  | [d1, d2, d3] => { results := [.lit (.bool false)], args := [d1, d2, d3] }
  | _ => none }
def DnsCutWrongFalsely : Prop := dnsCutRow.holds Try.pinned (OpenSpec.ofChange dnsCutWrong)

/-- 'pinfoldlaw5.DnsRoom': WHATEVER THE INPUT: true; the input reads as it did. -/
def dnsRoomSpec : ChangeSpec := { name := "dnsRoom", fn := fun _ => fun
  | [d1, d2, d3] => { results := [.lit (.bool true)], args := [d1, d2, d3] }
  | _ => none }
def dnsRoomRow : OpenClaim := { program := "ytjiojpconkhdmaa", sum := "856e63b5b89c618adce7df401b6c99ebd60e53b6551040c092782653c76410a4", func := "pinfold/pinfoldlaw5.DnsRoom", spec := "dnsRoom", inPlace := ["internal/bytealg.IndexByteString", "internal/bytealg.IndexString", "internal/abi.NoEscape", "internal/bytealg.MakeNoZero"], unfollowed := true, recurses := true, named := ["internal/bytealg.MaxLen"], plainKeys := false, apart := false }
def DnsRoomSaid : Prop := dnsRoomRow.holds Try.pinned (OpenSpec.ofChange dnsRoomSpec)

/-- ITS FALSE NEIGHBOUR: 'it returns false'. Refute it at one input. -/
def dnsRoomWrong : ChangeSpec := { name := "dnsRoom", fn := fun _ => fun
  | [d1, d2, d3] => { results := [.lit (.bool false)], args := [d1, d2, d3] }
  | _ => none }
def DnsRoomWrongFalsely : Prop := dnsRoomRow.holds Try.pinned (OpenSpec.ofChange dnsRoomWrong)

/- THE SECOND FORM. 'bulk': how many values and letters a reading holds, each counted each time it is reached (what is shared counts as often as it is met; a slice's spare places count too). A statement '..UptoSaid' is the law's where the arguments, and the package variables that the reading takes, are together of bulk at most 1048576: NARROWER than '..Said'. Prove '..Said' where nothing that the law and all that it calls make is longer than what came in: it says more and counts as full. Else prove '..UptoSaid'. A law counts once. -/
mutual
def uptoBulk {H : Type} : DataW H → Nat
  | .lit (.string bytes) => bytes.length + 1
  | .lit _ => 1
  | .nil => 1
  | .ptr d => uptoBulk d + 1
  | .slice elems spare => uptoBulkAll elems + uptoBulkAll spare + 1
  | .agg parts => uptoBulkAll parts + 1
  | .iface _ d => uptoBulk d + 1
  | .map entries => uptoBulkEntries entries + 1
  | .held _ => 1
def uptoBulkAll {H : Type} : List (DataW H) → Nat
  | [] => 0
  | d :: r => uptoBulk d + uptoBulkAll r
def uptoBulkEntries {H : Type} : List (Lit × DataW H) → Nat
  | [] => 0
  | x :: r => uptoBulkEntry x + uptoBulkEntries r
def uptoBulkEntry {H : Type} : Lit × DataW H → Nat
  | (.string bytes, d) => bytes.length + uptoBulk d + 1
  | (_, d) => uptoBulk d + 1
 end
def uptoSmall : (H : Type) → List (DataW H) → Bool := fun _ ds => decide (uptoBulkAll ds ≤ 1048576)
def OpenSpec.upto (s : _root_.Go.ChangeSpec) : _root_.Go.OpenSpec := { _root_.Go.OpenSpec.ofChange s with cond := some uptoSmall }

/-- 'pinfoldlaw7.Packets', WHERE WHAT IT READS IS OF BULK AT MOST 1048576: true; the input reads as it did. -/
def packetsUptoRow : OpenClaim := { program := "ytjiojpconkhdmaa", sum := "856e63b5b89c618adce7df401b6c99ebd60e53b6551040c092782653c76410a4", func := "pinfold/pinfoldlaw7.Packets", spec := "packets", inPlace := ["internal/abi.NoEscape", "internal/bytealg.MakeNoZero"], unfollowed := true, recurses := true, plainKeys := false, apart := false, narrowed := true }
def PacketsUptoSaid : Prop := packetsUptoRow.holds Try.pinned (OpenSpec.upto packetsSpec)

/-- 'pinfoldlaw7.PacketHeads', WHERE WHAT IT READS IS OF BULK AT MOST 1048576: true; the input reads as it did. -/
def packetHeadsUptoRow : OpenClaim := { program := "ytjiojpconkhdmaa", sum := "856e63b5b89c618adce7df401b6c99ebd60e53b6551040c092782653c76410a4", func := "pinfold/pinfoldlaw7.PacketHeads", spec := "packetHeads", inPlace := ["internal/abi.NoEscape", "internal/bytealg.MakeNoZero"], unfollowed := true, recurses := true, plainKeys := false, apart := false, narrowed := true }
def PacketHeadsUptoSaid : Prop := packetHeadsUptoRow.holds Try.pinned (OpenSpec.upto packetHeadsSpec)

/-- 'pinfoldlaw5.Dnses', WHERE WHAT IT READS IS OF BULK AT MOST 1048576: true; the input reads as it did. -/
def dnsesUptoRow : OpenClaim := { program := "ytjiojpconkhdmaa", sum := "856e63b5b89c618adce7df401b6c99ebd60e53b6551040c092782653c76410a4", func := "pinfold/pinfoldlaw5.Dnses", spec := "dnses", inPlace := ["internal/bytealg.IndexByteString", "internal/bytealg.IndexString", "internal/abi.NoEscape", "internal/bytealg.MakeNoZero"], unfollowed := true, recurses := true, named := ["internal/bytealg.MaxLen"], plainKeys := false, apart := false, narrowed := true }
def DnsesUptoSaid : Prop := dnsesUptoRow.holds Try.pinned (OpenSpec.upto dnsesSpec)

/-- 'pinfoldlaw5.DnsBack', WHERE WHAT IT READS IS OF BULK AT MOST 1048576: true; the input reads as it did. -/
def dnsBackUptoRow : OpenClaim := { program := "ytjiojpconkhdmaa", sum := "856e63b5b89c618adce7df401b6c99ebd60e53b6551040c092782653c76410a4", func := "pinfold/pinfoldlaw5.DnsBack", spec := "dnsBack", inPlace := ["internal/bytealg.IndexByteString", "internal/bytealg.IndexString", "internal/abi.NoEscape", "internal/bytealg.MakeNoZero"], unfollowed := true, recurses := true, named := ["internal/bytealg.MaxLen"], plainKeys := false, apart := false, narrowed := true }
def DnsBackUptoSaid : Prop := dnsBackUptoRow.holds Try.pinned (OpenSpec.upto dnsBackSpec)

/-- 'pinfoldlaw5.DnsForms', WHERE WHAT IT READS IS OF BULK AT MOST 1048576: true; the input reads as it did. -/
def dnsFormsUptoRow : OpenClaim := { program := "ytjiojpconkhdmaa", sum := "856e63b5b89c618adce7df401b6c99ebd60e53b6551040c092782653c76410a4", func := "pinfold/pinfoldlaw5.DnsForms", spec := "dnsForms", inPlace := ["internal/bytealg.IndexByteString", "internal/bytealg.IndexString", "internal/abi.NoEscape", "internal/bytealg.MakeNoZero"], unfollowed := true, recurses := true, named := ["internal/bytealg.MaxLen"], plainKeys := false, apart := false, narrowed := true }
def DnsFormsUptoSaid : Prop := dnsFormsUptoRow.holds Try.pinned (OpenSpec.upto dnsFormsSpec)

/-- 'pinfoldlaw5.DnsHeads', WHERE WHAT IT READS IS OF BULK AT MOST 1048576: true; the input reads as it did. -/
def dnsHeadsUptoRow : OpenClaim := { program := "ytjiojpconkhdmaa", sum := "856e63b5b89c618adce7df401b6c99ebd60e53b6551040c092782653c76410a4", func := "pinfold/pinfoldlaw5.DnsHeads", spec := "dnsHeads", inPlace := ["internal/bytealg.IndexByteString", "internal/bytealg.IndexString", "internal/abi.NoEscape", "internal/bytealg.MakeNoZero"], unfollowed := true, recurses := true, named := ["internal/bytealg.MaxLen"], plainKeys := false, apart := false, narrowed := true }
def DnsHeadsUptoSaid : Prop := dnsHeadsUptoRow.holds Try.pinned (OpenSpec.upto dnsHeadsSpec)

/-- 'pinfoldlaw5.DnsCut', WHERE WHAT IT READS IS OF BULK AT MOST 1048576: true; the input reads as it did. -/
def dnsCutUptoRow : OpenClaim := { program := "ytjiojpconkhdmaa", sum := "856e63b5b89c618adce7df401b6c99ebd60e53b6551040c092782653c76410a4", func := "pinfold/pinfoldlaw5.DnsCut", spec := "dnsCut", inPlace := ["internal/bytealg.IndexByteString", "internal/bytealg.IndexString", "internal/abi.NoEscape", "internal/bytealg.MakeNoZero"], unfollowed := true, recurses := true, named := ["internal/bytealg.MaxLen"], plainKeys := false, apart := false, narrowed := true }
def DnsCutUptoSaid : Prop := dnsCutUptoRow.holds Try.pinned (OpenSpec.upto dnsCutSpec)

/-- 'pinfoldlaw5.DnsRoom', WHERE WHAT IT READS IS OF BULK AT MOST 1048576: true; the input reads as it did. -/
def dnsRoomUptoRow : OpenClaim := { program := "ytjiojpconkhdmaa", sum := "856e63b5b89c618adce7df401b6c99ebd60e53b6551040c092782653c76410a4", func := "pinfold/pinfoldlaw5.DnsRoom", spec := "dnsRoom", inPlace := ["internal/bytealg.IndexByteString", "internal/bytealg.IndexString", "internal/abi.NoEscape", "internal/bytealg.MakeNoZero"], unfollowed := true, recurses := true, named := ["internal/bytealg.MaxLen"], plainKeys := false, apart := false, narrowed := true }
def DnsRoomUptoSaid : Prop := dnsRoomUptoRow.holds Try.pinned (OpenSpec.upto dnsRoomSpec)

end Rows
end Go.Proofs.Ytjiojpconkhdmaa
