/-
  NARROWER THAN 'FOR EVERY INPUT', by the rows' own cells (each row's printed sentence says how): CacheChecksMatchSpec: laid · CacheSweptKeeps: laid · CacheMergesMatchSpec: laid · CacheMergedHasBoth: laid · CacheShrunkKeeps: laid · CacheAsksMatchSpec: laid · CacheSweepsMatchSpec: laid · CachePutIsThere: laid · CacheHeldStays: laid · CacheFindsWhole: laid · CacheKeepsRoom: laid · CacheLeasesHold: laid · CacheFollowsOn: laid · CacheFitsCanBePut: laid · CacheTextsComeBack: laid.
  DERIVED. THE GIVEN ROWS OF THIS SEAT. 15 by the template 'for every input the law returns true; each argument reads behind the call as it read before'; 0 by the template 'total and deterministic' (their statements: YtkjilepjblffeaaDoorTotals.lean).
  GIVEN WITH THE SEED: the statements are not yours to turn. If you find one false, say at which input.
  Laid BY PROGRAM, IN A SANDBOX (cutbox-rows.mjs): the forced cells as the released guide's own fill.sh prints them over the translation e7372e31c38b27f4… (all of the seat's roots in one cut). By AI agents, Wed Nov 11 2026. No macro, syntax, notation, axiom, sorry.
-/
import Derived.Test.YtkjilepjblffeaaDoorChecked
import GoSem.PinnedTables
import GoSem.Claim
import GoSem.ClaimJoined
import GoSem.ClaimMapViews
import Derived.JoinedTies
import Derived.KernelRfl
namespace Go.Proofs.YtkjilepjblffeaaDoor
/- THE CELL 'sum', in the pinned program and in every row, IS THE sha256 OF THE DUMP (.gsa) THAT YtkjilepjblffeaaDoorProg.lean LOADS. Nothing in Lean hashes anything: it is a label: what it is worth is what the hold of that sum in a sandbox is worth. -/
noncomputable def Tryd.pinned : Pinned := { name := "ytkjilepjblffeaadoor", sum := "e7372e31c38b27f4ff73f5a06eb1f535b55f8d63f8847226e22efc76280eb24a", checked := Tryd.checked }
namespace Rows
def none {H : Type} : Left H := { results := [], args := [] }

/- WHAT THE LISTED PACKAGE-LEVEL VARIABLES READ AS WHEN THE CALL BEGINS. Each datum BY PROGRAM (the guide's laid-datum.mjs) off the statement by which the dump's own 'gosem.cut.vars' lays the variable. In a bare row this is a premise. The card (YtkjilepjblffeaaDoorCards.lean) ties it to the program's text. -/
def laid_unicode_utf8_acceptRanges {H : Type} : DataW H := .agg [.agg [.lit (.int .u8 128), .lit (.int .u8 191)], .agg [.lit (.int .u8 160), .lit (.int .u8 191)], .agg [.lit (.int .u8 128), .lit (.int .u8 159)], .agg [.lit (.int .u8 144), .lit (.int .u8 191)], .agg [.lit (.int .u8 128), .lit (.int .u8 143)], .agg [.lit (.int .u8 0), .lit (.int .u8 0)], .agg [.lit (.int .u8 0), .lit (.int .u8 0)], .agg [.lit (.int .u8 0), .lit (.int .u8 0)], .agg [.lit (.int .u8 0), .lit (.int .u8 0)], .agg [.lit (.int .u8 0), .lit (.int .u8 0)], .agg [.lit (.int .u8 0), .lit (.int .u8 0)], .agg [.lit (.int .u8 0), .lit (.int .u8 0)], .agg [.lit (.int .u8 0), .lit (.int .u8 0)], .agg [.lit (.int .u8 0), .lit (.int .u8 0)], .agg [.lit (.int .u8 0), .lit (.int .u8 0)], .agg [.lit (.int .u8 0), .lit (.int .u8 0)]]
/-- One of Go's own tables, pinned by name: the form's constant. -/
def laid_unicode_utf8_first : DataW Unit := Go.Pinned.utf8First
def laid_math_bits_deBruijn32tab {H : Type} : DataW H := .agg [.lit (.int .u8 0), .lit (.int .u8 1), .lit (.int .u8 28), .lit (.int .u8 2), .lit (.int .u8 29), .lit (.int .u8 14), .lit (.int .u8 24), .lit (.int .u8 3), .lit (.int .u8 30), .lit (.int .u8 22), .lit (.int .u8 20), .lit (.int .u8 15), .lit (.int .u8 25), .lit (.int .u8 17), .lit (.int .u8 4), .lit (.int .u8 8), .lit (.int .u8 31), .lit (.int .u8 27), .lit (.int .u8 13), .lit (.int .u8 23), .lit (.int .u8 21), .lit (.int .u8 19), .lit (.int .u8 16), .lit (.int .u8 7), .lit (.int .u8 26), .lit (.int .u8 12), .lit (.int .u8 18), .lit (.int .u8 6), .lit (.int .u8 11), .lit (.int .u8 5), .lit (.int .u8 10), .lit (.int .u8 9)]
def laid_math_bits_deBruijn64tab {H : Type} : DataW H := .agg [.lit (.int .u8 0), .lit (.int .u8 1), .lit (.int .u8 56), .lit (.int .u8 2), .lit (.int .u8 57), .lit (.int .u8 49), .lit (.int .u8 28), .lit (.int .u8 3), .lit (.int .u8 61), .lit (.int .u8 58), .lit (.int .u8 42), .lit (.int .u8 50), .lit (.int .u8 38), .lit (.int .u8 29), .lit (.int .u8 17), .lit (.int .u8 4), .lit (.int .u8 62), .lit (.int .u8 47), .lit (.int .u8 59), .lit (.int .u8 36), .lit (.int .u8 45), .lit (.int .u8 43), .lit (.int .u8 51), .lit (.int .u8 22), .lit (.int .u8 53), .lit (.int .u8 39), .lit (.int .u8 33), .lit (.int .u8 30), .lit (.int .u8 24), .lit (.int .u8 18), .lit (.int .u8 12), .lit (.int .u8 5), .lit (.int .u8 63), .lit (.int .u8 55), .lit (.int .u8 48), .lit (.int .u8 27), .lit (.int .u8 60), .lit (.int .u8 41), .lit (.int .u8 37), .lit (.int .u8 16), .lit (.int .u8 46), .lit (.int .u8 35), .lit (.int .u8 44), .lit (.int .u8 21), .lit (.int .u8 52), .lit (.int .u8 32), .lit (.int .u8 23), .lit (.int .u8 11), .lit (.int .u8 54), .lit (.int .u8 26), .lit (.int .u8 40), .lit (.int .u8 15), .lit (.int .u8 34), .lit (.int .u8 20), .lit (.int .u8 31), .lit (.int .u8 10), .lit (.int .u8 25), .lit (.int .u8 14), .lit (.int .u8 19), .lit (.int .u8 9), .lit (.int .u8 13), .lit (.int .u8 8), .lit (.int .u8 7), .lit (.int .u8 6)]
def laid_internal_strconv_uint64pow10 {H : Type} : DataW H := .agg [.lit (.int .u64 1), .lit (.int .u64 10), .lit (.int .u64 100), .lit (.int .u64 1000), .lit (.int .u64 10000), .lit (.int .u64 100000), .lit (.int .u64 1000000), .lit (.int .u64 10000000), .lit (.int .u64 100000000), .lit (.int .u64 1000000000), .lit (.int .u64 10000000000), .lit (.int .u64 100000000000), .lit (.int .u64 1000000000000), .lit (.int .u64 10000000000000), .lit (.int .u64 100000000000000), .lit (.int .u64 1000000000000000), .lit (.int .u64 10000000000000000), .lit (.int .u64 100000000000000000), .lit (.int .u64 1000000000000000000), .lit (.int .u64 10000000000000000000)]
def laid_strconv_ErrRange {H : Type} : DataW H := .iface "*errors.errorString" (.ptr (.agg [.lit (.string [118, 97, 108, 117, 101, 32, 111, 117, 116, 32, 111, 102, 32, 114, 97, 110, 103, 101])]))
def laid_strconv_ErrSyntax {H : Type} : DataW H := .iface "*errors.errorString" (.ptr (.agg [.lit (.string [105, 110, 118, 97, 108, 105, 100, 32, 115, 121, 110, 116, 97, 120])]))

/-- 'smithyardlaw7.CacheChecksMatchSpec': WHATEVER THE INPUT: true; the input reads as it did. -/
def cacheChecksMatchSpecSpec : ChangeSpec := { name := "cacheChecksMatchSpec", fn := fun _ => fun
  | [d] => { results := [.lit (.bool true)], args := [d] }
  | _ => none }
def cacheChecksMatchSpecRow : OpenClaim := { program := "ytkjilepjblffeaadoor", sum := "e7372e31c38b27f4ff73f5a06eb1f535b55f8d63f8847226e22efc76280eb24a", func := "smithyard/smithyardlaw7.CacheChecksMatchSpec", spec := "cacheChecksMatchSpec", inPlace := ["internal/bytealg.IndexByteString", "internal/bytealg.IndexString", "internal/bytealg.abigen_runtime_cmpstring"], unfollowed := true, recurses := true, named := ["unicode/utf8.first", "unicode/utf8.acceptRanges", "internal/bytealg.MaxLen"], apart := false, laid := [("unicode/utf8.acceptRanges", laid_unicode_utf8_acceptRanges), ("unicode/utf8.first", laid_unicode_utf8_first)] }
def CacheChecksMatchSpecSaid : Prop := cacheChecksMatchSpecRow.holds Tryd.pinned (OpenSpec.ofChange cacheChecksMatchSpecSpec)

/-- ITS FALSE NEIGHBOUR: 'it returns false'. Refute it at one input. -/
def cacheChecksMatchSpecWrong : ChangeSpec := { name := "cacheChecksMatchSpec", fn := fun _ => fun
  | [d] => { results := [.lit (.bool false)], args := [d] }
  | _ => none }
def CacheChecksMatchSpecWrongFalsely : Prop := cacheChecksMatchSpecRow.holds Tryd.pinned (OpenSpec.ofChange cacheChecksMatchSpecWrong)

/-- 'smithyardlaw7.CacheSweptKeeps': WHATEVER THE INPUT: true; the input reads as it did. -/
def cacheSweptKeepsSpec : ChangeSpec := { name := "cacheSweptKeeps", fn := fun _ => fun
  | [d1, d2, d3] => { results := [.lit (.bool true)], args := [d1, d2, d3] }
  | _ => none }
def cacheSweptKeepsRow : OpenClaim := { program := "ytkjilepjblffeaadoor", sum := "e7372e31c38b27f4ff73f5a06eb1f535b55f8d63f8847226e22efc76280eb24a", func := "smithyard/smithyardlaw7.CacheSweptKeeps", spec := "cacheSweptKeeps", inPlace := ["internal/bytealg.IndexByteString", "internal/bytealg.IndexString", "internal/bytealg.abigen_runtime_cmpstring"], unfollowed := true, recurses := true, named := ["unicode/utf8.first", "unicode/utf8.acceptRanges", "internal/bytealg.MaxLen"], apart := false, laid := [("unicode/utf8.acceptRanges", laid_unicode_utf8_acceptRanges), ("unicode/utf8.first", laid_unicode_utf8_first)] }
def CacheSweptKeepsSaid : Prop := cacheSweptKeepsRow.holds Tryd.pinned (OpenSpec.ofChange cacheSweptKeepsSpec)

/-- ITS FALSE NEIGHBOUR: 'it returns false'. Refute it at one input. -/
def cacheSweptKeepsWrong : ChangeSpec := { name := "cacheSweptKeeps", fn := fun _ => fun
  | [d1, d2, d3] => { results := [.lit (.bool false)], args := [d1, d2, d3] }
  | _ => none }
def CacheSweptKeepsWrongFalsely : Prop := cacheSweptKeepsRow.holds Tryd.pinned (OpenSpec.ofChange cacheSweptKeepsWrong)

/-- 'smithyardlaw7.CacheMergesMatchSpec': WHATEVER THE INPUT: true; the input reads as it did. -/
def cacheMergesMatchSpecSpec : ChangeSpec := { name := "cacheMergesMatchSpec", fn := fun _ => fun
  | [d1, d2] => { results := [.lit (.bool true)], args := [d1, d2] }
  | _ => none }
def cacheMergesMatchSpecRow : OpenClaim := { program := "ytkjilepjblffeaadoor", sum := "e7372e31c38b27f4ff73f5a06eb1f535b55f8d63f8847226e22efc76280eb24a", func := "smithyard/smithyardlaw7.CacheMergesMatchSpec", spec := "cacheMergesMatchSpec", inPlace := ["internal/bytealg.IndexByteString", "internal/bytealg.IndexString", "internal/bytealg.abigen_runtime_cmpstring", "slices.overlaps[smithyard/api.Blob]", "slices.overlaps[smithyard/api.Entry]"], unfollowed := true, recurses := true, named := ["unicode/utf8.first", "unicode/utf8.acceptRanges", "internal/bytealg.MaxLen"], apart := false, laid := [("unicode/utf8.acceptRanges", laid_unicode_utf8_acceptRanges), ("unicode/utf8.first", laid_unicode_utf8_first)] }
def CacheMergesMatchSpecSaid : Prop := cacheMergesMatchSpecRow.holds Tryd.pinned (OpenSpec.ofChange cacheMergesMatchSpecSpec)

/-- ITS FALSE NEIGHBOUR: 'it returns false'. Refute it at one input. -/
def cacheMergesMatchSpecWrong : ChangeSpec := { name := "cacheMergesMatchSpec", fn := fun _ => fun
  | [d1, d2] => { results := [.lit (.bool false)], args := [d1, d2] }
  | _ => none }
def CacheMergesMatchSpecWrongFalsely : Prop := cacheMergesMatchSpecRow.holds Tryd.pinned (OpenSpec.ofChange cacheMergesMatchSpecWrong)

/-- 'smithyardlaw7.CacheMergedHasBoth': WHATEVER THE INPUT: true; the input reads as it did. -/
def cacheMergedHasBothSpec : ChangeSpec := { name := "cacheMergedHasBoth", fn := fun _ => fun
  | [d1, d2, d3] => { results := [.lit (.bool true)], args := [d1, d2, d3] }
  | _ => none }
def cacheMergedHasBothRow : OpenClaim := { program := "ytkjilepjblffeaadoor", sum := "e7372e31c38b27f4ff73f5a06eb1f535b55f8d63f8847226e22efc76280eb24a", func := "smithyard/smithyardlaw7.CacheMergedHasBoth", spec := "cacheMergedHasBoth", inPlace := ["internal/bytealg.IndexByteString", "internal/bytealg.IndexString", "internal/bytealg.abigen_runtime_cmpstring", "slices.overlaps[smithyard/api.Blob]", "slices.overlaps[smithyard/api.Entry]"], unfollowed := true, recurses := true, named := ["unicode/utf8.first", "unicode/utf8.acceptRanges", "internal/bytealg.MaxLen"], apart := false, laid := [("unicode/utf8.acceptRanges", laid_unicode_utf8_acceptRanges), ("unicode/utf8.first", laid_unicode_utf8_first)] }
def CacheMergedHasBothSaid : Prop := cacheMergedHasBothRow.holds Tryd.pinned (OpenSpec.ofChange cacheMergedHasBothSpec)

/-- ITS FALSE NEIGHBOUR: 'it returns false'. Refute it at one input. -/
def cacheMergedHasBothWrong : ChangeSpec := { name := "cacheMergedHasBoth", fn := fun _ => fun
  | [d1, d2, d3] => { results := [.lit (.bool false)], args := [d1, d2, d3] }
  | _ => none }
def CacheMergedHasBothWrongFalsely : Prop := cacheMergedHasBothRow.holds Tryd.pinned (OpenSpec.ofChange cacheMergedHasBothWrong)

/-- 'smithyardlaw7.CacheShrunkKeeps': WHATEVER THE INPUT: true; the input reads as it did. -/
def cacheShrunkKeepsSpec : ChangeSpec := { name := "cacheShrunkKeeps", fn := fun _ => fun
  | [d1, d2, d3] => { results := [.lit (.bool true)], args := [d1, d2, d3] }
  | _ => none }
def cacheShrunkKeepsRow : OpenClaim := { program := "ytkjilepjblffeaadoor", sum := "e7372e31c38b27f4ff73f5a06eb1f535b55f8d63f8847226e22efc76280eb24a", func := "smithyard/smithyardlaw7.CacheShrunkKeeps", spec := "cacheShrunkKeeps", inPlace := ["internal/bytealg.IndexByteString", "internal/bytealg.IndexString"], unfollowed := true, recurses := true, named := ["unicode/utf8.first", "unicode/utf8.acceptRanges", "internal/bytealg.MaxLen"], apart := false, laid := [("unicode/utf8.acceptRanges", laid_unicode_utf8_acceptRanges), ("unicode/utf8.first", laid_unicode_utf8_first)] }
def CacheShrunkKeepsSaid : Prop := cacheShrunkKeepsRow.holds Tryd.pinned (OpenSpec.ofChange cacheShrunkKeepsSpec)

/-- ITS FALSE NEIGHBOUR: 'it returns false'. Refute it at one input. -/
def cacheShrunkKeepsWrong : ChangeSpec := { name := "cacheShrunkKeeps", fn := fun _ => fun
  | [d1, d2, d3] => { results := [.lit (.bool false)], args := [d1, d2, d3] }
  | _ => none }
def CacheShrunkKeepsWrongFalsely : Prop := cacheShrunkKeepsRow.holds Tryd.pinned (OpenSpec.ofChange cacheShrunkKeepsWrong)

/-- 'smithyardlaw7.CacheAsksMatchSpec': WHATEVER THE INPUT: true; the input reads as it did. -/
def cacheAsksMatchSpecSpec : ChangeSpec := { name := "cacheAsksMatchSpec", fn := fun _ => fun
  | [d1, d2, d3, d4] => { results := [.lit (.bool true)], args := [d1, d2, d3, d4] }
  | _ => none }
def cacheAsksMatchSpecRow : OpenClaim := { program := "ytkjilepjblffeaadoor", sum := "e7372e31c38b27f4ff73f5a06eb1f535b55f8d63f8847226e22efc76280eb24a", func := "smithyard/smithyardlaw7.CacheAsksMatchSpec", spec := "cacheAsksMatchSpec", inPlace := ["internal/bytealg.IndexByteString", "internal/bytealg.IndexString", "internal/bytealg.abigen_runtime_cmpstring"], unfollowed := true, recurses := true, named := ["unicode/utf8.first", "unicode/utf8.acceptRanges", "internal/bytealg.MaxLen"], apart := false, laid := [("unicode/utf8.acceptRanges", laid_unicode_utf8_acceptRanges), ("unicode/utf8.first", laid_unicode_utf8_first)] }
def CacheAsksMatchSpecSaid : Prop := cacheAsksMatchSpecRow.holds Tryd.pinned (OpenSpec.ofChange cacheAsksMatchSpecSpec)

/-- ITS FALSE NEIGHBOUR: 'it returns false'. Refute it at one input. -/
def cacheAsksMatchSpecWrong : ChangeSpec := { name := "cacheAsksMatchSpec", fn := fun _ => fun
  | [d1, d2, d3, d4] => { results := [.lit (.bool false)], args := [d1, d2, d3, d4] }
  | _ => none }
def CacheAsksMatchSpecWrongFalsely : Prop := cacheAsksMatchSpecRow.holds Tryd.pinned (OpenSpec.ofChange cacheAsksMatchSpecWrong)

/-- 'smithyardlaw7.CacheSweepsMatchSpec': WHATEVER THE INPUT: true; the input reads as it did. -/
def cacheSweepsMatchSpecSpec : ChangeSpec := { name := "cacheSweepsMatchSpec", fn := fun _ => fun
  | [d1, d2, d3, d4] => { results := [.lit (.bool true)], args := [d1, d2, d3, d4] }
  | _ => none }
def cacheSweepsMatchSpecRow : OpenClaim := { program := "ytkjilepjblffeaadoor", sum := "e7372e31c38b27f4ff73f5a06eb1f535b55f8d63f8847226e22efc76280eb24a", func := "smithyard/smithyardlaw7.CacheSweepsMatchSpec", spec := "cacheSweepsMatchSpec", inPlace := ["internal/bytealg.IndexByteString", "internal/bytealg.IndexString", "internal/bytealg.abigen_runtime_cmpstring"], unfollowed := true, recurses := true, named := ["unicode/utf8.first", "unicode/utf8.acceptRanges", "internal/bytealg.MaxLen"], apart := false, laid := [("unicode/utf8.acceptRanges", laid_unicode_utf8_acceptRanges), ("unicode/utf8.first", laid_unicode_utf8_first)] }
def CacheSweepsMatchSpecSaid : Prop := cacheSweepsMatchSpecRow.holds Tryd.pinned (OpenSpec.ofChange cacheSweepsMatchSpecSpec)

/-- ITS FALSE NEIGHBOUR: 'it returns false'. Refute it at one input. -/
def cacheSweepsMatchSpecWrong : ChangeSpec := { name := "cacheSweepsMatchSpec", fn := fun _ => fun
  | [d1, d2, d3, d4] => { results := [.lit (.bool false)], args := [d1, d2, d3, d4] }
  | _ => none }
def CacheSweepsMatchSpecWrongFalsely : Prop := cacheSweepsMatchSpecRow.holds Tryd.pinned (OpenSpec.ofChange cacheSweepsMatchSpecWrong)

/-- 'smithyardlaw7.CachePutIsThere': WHATEVER THE INPUT: true; the input reads as it did. -/
def cachePutIsThereSpec : ChangeSpec := { name := "cachePutIsThere", fn := fun _ => fun
  | [d1, d2, d3, d4] => { results := [.lit (.bool true)], args := [d1, d2, d3, d4] }
  | _ => none }
def cachePutIsThereRow : OpenClaim := { program := "ytkjilepjblffeaadoor", sum := "e7372e31c38b27f4ff73f5a06eb1f535b55f8d63f8847226e22efc76280eb24a", func := "smithyard/smithyardlaw7.CachePutIsThere", spec := "cachePutIsThere", inPlace := ["internal/bytealg.IndexByteString", "internal/bytealg.IndexString", "internal/bytealg.abigen_runtime_cmpstring", "slices.overlaps[smithyard/api.Blob]", "slices.overlaps[smithyard/api.Entry]"], unfollowed := true, recurses := true, named := ["unicode/utf8.first", "unicode/utf8.acceptRanges", "internal/bytealg.MaxLen"], apart := false, laid := [("unicode/utf8.acceptRanges", laid_unicode_utf8_acceptRanges), ("unicode/utf8.first", laid_unicode_utf8_first)] }
def CachePutIsThereSaid : Prop := cachePutIsThereRow.holds Tryd.pinned (OpenSpec.ofChange cachePutIsThereSpec)

/-- ITS FALSE NEIGHBOUR: 'it returns false'. Refute it at one input. -/
def cachePutIsThereWrong : ChangeSpec := { name := "cachePutIsThere", fn := fun _ => fun
  | [d1, d2, d3, d4] => { results := [.lit (.bool false)], args := [d1, d2, d3, d4] }
  | _ => none }
def CachePutIsThereWrongFalsely : Prop := cachePutIsThereRow.holds Tryd.pinned (OpenSpec.ofChange cachePutIsThereWrong)

/-- 'smithyardlaw7.CacheHeldStays': WHATEVER THE INPUT: true; the input reads as it did. -/
def cacheHeldStaysSpec : ChangeSpec := { name := "cacheHeldStays", fn := fun _ => fun
  | [d1, d2] => { results := [.lit (.bool true)], args := [d1, d2] }
  | _ => none }
def cacheHeldStaysRow : OpenClaim := { program := "ytkjilepjblffeaadoor", sum := "e7372e31c38b27f4ff73f5a06eb1f535b55f8d63f8847226e22efc76280eb24a", func := "smithyard/smithyardlaw7.CacheHeldStays", spec := "cacheHeldStays", inPlace := ["internal/bytealg.IndexByteString", "internal/bytealg.IndexString", "internal/bytealg.abigen_runtime_cmpstring", "slices.overlaps[smithyard/api.Blob]", "slices.overlaps[smithyard/api.Entry]"], unfollowed := true, recurses := true, named := ["unicode/utf8.first", "unicode/utf8.acceptRanges", "internal/bytealg.MaxLen"], apart := false, laid := [("unicode/utf8.acceptRanges", laid_unicode_utf8_acceptRanges), ("unicode/utf8.first", laid_unicode_utf8_first)] }
def CacheHeldStaysSaid : Prop := cacheHeldStaysRow.holds Tryd.pinned (OpenSpec.ofChange cacheHeldStaysSpec)

/-- ITS FALSE NEIGHBOUR: 'it returns false'. Refute it at one input. -/
def cacheHeldStaysWrong : ChangeSpec := { name := "cacheHeldStays", fn := fun _ => fun
  | [d1, d2] => { results := [.lit (.bool false)], args := [d1, d2] }
  | _ => none }
def CacheHeldStaysWrongFalsely : Prop := cacheHeldStaysRow.holds Tryd.pinned (OpenSpec.ofChange cacheHeldStaysWrong)

/-- 'smithyardlaw7.CacheFindsWhole': WHATEVER THE INPUT: true; the input reads as it did. -/
def cacheFindsWholeSpec : ChangeSpec := { name := "cacheFindsWhole", fn := fun _ => fun
  | [d1, d2, d3, d4] => { results := [.lit (.bool true)], args := [d1, d2, d3, d4] }
  | _ => none }
def cacheFindsWholeRow : OpenClaim := { program := "ytkjilepjblffeaadoor", sum := "e7372e31c38b27f4ff73f5a06eb1f535b55f8d63f8847226e22efc76280eb24a", func := "smithyard/smithyardlaw7.CacheFindsWhole", spec := "cacheFindsWhole", inPlace := ["internal/bytealg.IndexByteString", "internal/bytealg.IndexString", "internal/bytealg.abigen_runtime_cmpstring", "slices.overlaps[smithyard/api.Blob]", "slices.overlaps[smithyard/api.Entry]"], unfollowed := true, recurses := true, named := ["unicode/utf8.first", "unicode/utf8.acceptRanges", "internal/bytealg.MaxLen"], apart := false, laid := [("unicode/utf8.acceptRanges", laid_unicode_utf8_acceptRanges), ("unicode/utf8.first", laid_unicode_utf8_first)] }
def CacheFindsWholeSaid : Prop := cacheFindsWholeRow.holds Tryd.pinned (OpenSpec.ofChange cacheFindsWholeSpec)

/-- ITS FALSE NEIGHBOUR: 'it returns false'. Refute it at one input. -/
def cacheFindsWholeWrong : ChangeSpec := { name := "cacheFindsWhole", fn := fun _ => fun
  | [d1, d2, d3, d4] => { results := [.lit (.bool false)], args := [d1, d2, d3, d4] }
  | _ => none }
def CacheFindsWholeWrongFalsely : Prop := cacheFindsWholeRow.holds Tryd.pinned (OpenSpec.ofChange cacheFindsWholeWrong)

/-- 'smithyardlaw7.CacheKeepsRoom': WHATEVER THE INPUT: true; the input reads as it did. -/
def cacheKeepsRoomSpec : ChangeSpec := { name := "cacheKeepsRoom", fn := fun _ => fun
  | [d1, d2] => { results := [.lit (.bool true)], args := [d1, d2] }
  | _ => none }
def cacheKeepsRoomRow : OpenClaim := { program := "ytkjilepjblffeaadoor", sum := "e7372e31c38b27f4ff73f5a06eb1f535b55f8d63f8847226e22efc76280eb24a", func := "smithyard/smithyardlaw7.CacheKeepsRoom", spec := "cacheKeepsRoom", inPlace := ["internal/bytealg.IndexByteString", "internal/bytealg.IndexString", "internal/bytealg.abigen_runtime_cmpstring", "slices.overlaps[smithyard/api.Blob]", "slices.overlaps[smithyard/api.Entry]"], unfollowed := true, recurses := true, named := ["unicode/utf8.first", "unicode/utf8.acceptRanges", "internal/bytealg.MaxLen"], apart := false, laid := [("unicode/utf8.acceptRanges", laid_unicode_utf8_acceptRanges), ("unicode/utf8.first", laid_unicode_utf8_first)] }
def CacheKeepsRoomSaid : Prop := cacheKeepsRoomRow.holds Tryd.pinned (OpenSpec.ofChange cacheKeepsRoomSpec)

/-- ITS FALSE NEIGHBOUR: 'it returns false'. Refute it at one input. -/
def cacheKeepsRoomWrong : ChangeSpec := { name := "cacheKeepsRoom", fn := fun _ => fun
  | [d1, d2] => { results := [.lit (.bool false)], args := [d1, d2] }
  | _ => none }
def CacheKeepsRoomWrongFalsely : Prop := cacheKeepsRoomRow.holds Tryd.pinned (OpenSpec.ofChange cacheKeepsRoomWrong)

/-- 'smithyardlaw7.CacheLeasesHold': WHATEVER THE INPUT: true; the input reads as it did. -/
def cacheLeasesHoldSpec : ChangeSpec := { name := "cacheLeasesHold", fn := fun _ => fun
  | [d1, d2, d3, d4] => { results := [.lit (.bool true)], args := [d1, d2, d3, d4] }
  | _ => none }
def cacheLeasesHoldRow : OpenClaim := { program := "ytkjilepjblffeaadoor", sum := "e7372e31c38b27f4ff73f5a06eb1f535b55f8d63f8847226e22efc76280eb24a", func := "smithyard/smithyardlaw7.CacheLeasesHold", spec := "cacheLeasesHold", inPlace := ["internal/bytealg.IndexByteString", "internal/bytealg.IndexString", "internal/bytealg.abigen_runtime_cmpstring", "slices.overlaps[smithyard/api.Blob]", "slices.overlaps[smithyard/api.Entry]"], unfollowed := true, recurses := true, named := ["unicode/utf8.first", "unicode/utf8.acceptRanges", "internal/bytealg.MaxLen"], apart := false, laid := [("unicode/utf8.acceptRanges", laid_unicode_utf8_acceptRanges), ("unicode/utf8.first", laid_unicode_utf8_first)] }
def CacheLeasesHoldSaid : Prop := cacheLeasesHoldRow.holds Tryd.pinned (OpenSpec.ofChange cacheLeasesHoldSpec)

/-- ITS FALSE NEIGHBOUR: 'it returns false'. Refute it at one input. -/
def cacheLeasesHoldWrong : ChangeSpec := { name := "cacheLeasesHold", fn := fun _ => fun
  | [d1, d2, d3, d4] => { results := [.lit (.bool false)], args := [d1, d2, d3, d4] }
  | _ => none }
def CacheLeasesHoldWrongFalsely : Prop := cacheLeasesHoldRow.holds Tryd.pinned (OpenSpec.ofChange cacheLeasesHoldWrong)

/-- 'smithyardlaw7.CacheFollowsOn': WHATEVER THE INPUT: true; the input reads as it did. -/
def cacheFollowsOnSpec : ChangeSpec := { name := "cacheFollowsOn", fn := fun _ => fun
  | [d1, d2, d3] => { results := [.lit (.bool true)], args := [d1, d2, d3] }
  | _ => none }
def cacheFollowsOnRow : OpenClaim := { program := "ytkjilepjblffeaadoor", sum := "e7372e31c38b27f4ff73f5a06eb1f535b55f8d63f8847226e22efc76280eb24a", func := "smithyard/smithyardlaw7.CacheFollowsOn", spec := "cacheFollowsOn", inPlace := ["internal/bytealg.IndexByteString", "internal/bytealg.IndexString", "internal/bytealg.abigen_runtime_cmpstring", "slices.overlaps[smithyard/api.Blob]", "slices.overlaps[smithyard/api.Entry]"], unfollowed := true, recurses := true, named := ["unicode/utf8.first", "unicode/utf8.acceptRanges", "internal/bytealg.MaxLen"], apart := false, laid := [("unicode/utf8.acceptRanges", laid_unicode_utf8_acceptRanges), ("unicode/utf8.first", laid_unicode_utf8_first)] }
def CacheFollowsOnSaid : Prop := cacheFollowsOnRow.holds Tryd.pinned (OpenSpec.ofChange cacheFollowsOnSpec)

/-- ITS FALSE NEIGHBOUR: 'it returns false'. Refute it at one input. -/
def cacheFollowsOnWrong : ChangeSpec := { name := "cacheFollowsOn", fn := fun _ => fun
  | [d1, d2, d3] => { results := [.lit (.bool false)], args := [d1, d2, d3] }
  | _ => none }
def CacheFollowsOnWrongFalsely : Prop := cacheFollowsOnRow.holds Tryd.pinned (OpenSpec.ofChange cacheFollowsOnWrong)

/-- 'smithyardlaw7.CacheFitsCanBePut': WHATEVER THE INPUT: true; the input reads as it did. -/
def cacheFitsCanBePutSpec : ChangeSpec := { name := "cacheFitsCanBePut", fn := fun _ => fun
  | [d1, d2, d3, d4] => { results := [.lit (.bool true)], args := [d1, d2, d3, d4] }
  | _ => none }
def cacheFitsCanBePutRow : OpenClaim := { program := "ytkjilepjblffeaadoor", sum := "e7372e31c38b27f4ff73f5a06eb1f535b55f8d63f8847226e22efc76280eb24a", func := "smithyard/smithyardlaw7.CacheFitsCanBePut", spec := "cacheFitsCanBePut", inPlace := ["internal/bytealg.IndexByteString", "internal/bytealg.IndexString", "internal/bytealg.abigen_runtime_cmpstring", "slices.overlaps[smithyard/api.Blob]", "slices.overlaps[smithyard/api.Entry]"], unfollowed := true, recurses := true, named := ["unicode/utf8.first", "unicode/utf8.acceptRanges", "internal/bytealg.MaxLen"], apart := false, laid := [("unicode/utf8.acceptRanges", laid_unicode_utf8_acceptRanges), ("unicode/utf8.first", laid_unicode_utf8_first)] }
def CacheFitsCanBePutSaid : Prop := cacheFitsCanBePutRow.holds Tryd.pinned (OpenSpec.ofChange cacheFitsCanBePutSpec)

/-- ITS FALSE NEIGHBOUR: 'it returns false'. Refute it at one input. -/
def cacheFitsCanBePutWrong : ChangeSpec := { name := "cacheFitsCanBePut", fn := fun _ => fun
  | [d1, d2, d3, d4] => { results := [.lit (.bool false)], args := [d1, d2, d3, d4] }
  | _ => none }
def CacheFitsCanBePutWrongFalsely : Prop := cacheFitsCanBePutRow.holds Tryd.pinned (OpenSpec.ofChange cacheFitsCanBePutWrong)

/-- 'smithyardlaw7.CacheTextsComeBack': WHATEVER THE INPUT: true; the input reads as it did. -/
def cacheTextsComeBackSpec : ChangeSpec := { name := "cacheTextsComeBack", fn := fun _ => fun
  | [d1, d2] => { results := [.lit (.bool true)], args := [d1, d2] }
  | _ => none }
def cacheTextsComeBackRow : OpenClaim := { program := "ytkjilepjblffeaadoor", sum := "e7372e31c38b27f4ff73f5a06eb1f535b55f8d63f8847226e22efc76280eb24a", func := "smithyard/smithyardlaw7.CacheTextsComeBack", spec := "cacheTextsComeBack", inPlace := ["internal/bytealg.IndexByteString", "internal/bytealg.IndexString", "internal/abi.NoEscape", "internal/bytealg.MakeNoZero", "internal/bytealg.CountString"], unfollowed := true, recurses := true, named := ["unicode/utf8.first", "unicode/utf8.acceptRanges", "internal/strconv.uint64pow10", "math/bits.deBruijn32tab", "math/bits.deBruijn64tab", "internal/bytealg.MaxLen", "strconv.ErrSyntax", "strconv.ErrRange"], apart := false, laid := [("math/bits.deBruijn32tab", laid_math_bits_deBruijn32tab), ("math/bits.deBruijn64tab", laid_math_bits_deBruijn64tab), ("internal/strconv.uint64pow10", laid_internal_strconv_uint64pow10), ("unicode/utf8.acceptRanges", laid_unicode_utf8_acceptRanges), ("strconv.ErrRange", laid_strconv_ErrRange), ("strconv.ErrSyntax", laid_strconv_ErrSyntax), ("unicode/utf8.first", laid_unicode_utf8_first)] }
def CacheTextsComeBackSaid : Prop := cacheTextsComeBackRow.holds Tryd.pinned (OpenSpec.ofChange cacheTextsComeBackSpec)

/-- ITS FALSE NEIGHBOUR: 'it returns false'. Refute it at one input. -/
def cacheTextsComeBackWrong : ChangeSpec := { name := "cacheTextsComeBack", fn := fun _ => fun
  | [d1, d2] => { results := [.lit (.bool false)], args := [d1, d2] }
  | _ => none }
def CacheTextsComeBackWrongFalsely : Prop := cacheTextsComeBackRow.holds Tryd.pinned (OpenSpec.ofChange cacheTextsComeBackWrong)

/- THE SECOND FORM. 'bulk': how many values and letters a reading holds, each counted each time it is reached (what is shared counts as often as it is met; a slice's spare places count too). A statement '..UptoSaid' is the law's where the arguments, and the package variables that the reading takes, are together of bulk at most 1048576: NARROWER than '..Said'. Prove '..Said' where nothing that the law and all that it calls make is longer than what came in: it says more and counts as full. Else prove '..UptoSaid'. A law counts once. -/
mutual
def uptoBulk {H : Type} : DataW H → Nat
  | .lit (.string bytes) => bytes.length + 1
  | .lit _ => 1
  | .nil => 1
  | .ptr d => uptoBulk d + 1
  | .slice elems spare => uptoBulkAll elems + uptoBulkAll spare + 1
  | .agg parts => uptoBulkAll parts + 1
  | .iface _ d => uptoBulk d + 1
  | .map entries => uptoBulkEntries entries + 1
  | .held _ => 1
def uptoBulkAll {H : Type} : List (DataW H) → Nat
  | [] => 0
  | d :: r => uptoBulk d + uptoBulkAll r
def uptoBulkEntries {H : Type} : List (Lit × DataW H) → Nat
  | [] => 0
  | x :: r => uptoBulkEntry x + uptoBulkEntries r
def uptoBulkEntry {H : Type} : Lit × DataW H → Nat
  | (.string bytes, d) => bytes.length + uptoBulk d + 1
  | (_, d) => uptoBulk d + 1
 end
def uptoSmall : (H : Type) → List (DataW H) → Bool := fun _ ds => decide (uptoBulkAll ds ≤ 1048576)
def OpenSpec.upto (s : _root_.Go.ChangeSpec) : _root_.Go.OpenSpec := { _root_.Go.OpenSpec.ofChange s with cond := some uptoSmall }

/-- 'smithyardlaw7.CacheChecksMatchSpec', WHERE WHAT IT READS IS OF BULK AT MOST 1048576: true; the input reads as it did. -/
def cacheChecksMatchSpecUptoRow : OpenClaim := { program := "ytkjilepjblffeaadoor", sum := "e7372e31c38b27f4ff73f5a06eb1f535b55f8d63f8847226e22efc76280eb24a", func := "smithyard/smithyardlaw7.CacheChecksMatchSpec", spec := "cacheChecksMatchSpec", inPlace := ["internal/bytealg.IndexByteString", "internal/bytealg.IndexString", "internal/bytealg.abigen_runtime_cmpstring"], unfollowed := true, recurses := true, named := ["unicode/utf8.first", "unicode/utf8.acceptRanges", "internal/bytealg.MaxLen"], apart := false, laid := [("unicode/utf8.acceptRanges", laid_unicode_utf8_acceptRanges), ("unicode/utf8.first", laid_unicode_utf8_first)], narrowed := true }
def CacheChecksMatchSpecUptoSaid : Prop := cacheChecksMatchSpecUptoRow.holds Tryd.pinned (OpenSpec.upto cacheChecksMatchSpecSpec)

/-- 'smithyardlaw7.CacheSweptKeeps', WHERE WHAT IT READS IS OF BULK AT MOST 1048576: true; the input reads as it did. -/
def cacheSweptKeepsUptoRow : OpenClaim := { program := "ytkjilepjblffeaadoor", sum := "e7372e31c38b27f4ff73f5a06eb1f535b55f8d63f8847226e22efc76280eb24a", func := "smithyard/smithyardlaw7.CacheSweptKeeps", spec := "cacheSweptKeeps", inPlace := ["internal/bytealg.IndexByteString", "internal/bytealg.IndexString", "internal/bytealg.abigen_runtime_cmpstring"], unfollowed := true, recurses := true, named := ["unicode/utf8.first", "unicode/utf8.acceptRanges", "internal/bytealg.MaxLen"], apart := false, laid := [("unicode/utf8.acceptRanges", laid_unicode_utf8_acceptRanges), ("unicode/utf8.first", laid_unicode_utf8_first)], narrowed := true }
def CacheSweptKeepsUptoSaid : Prop := cacheSweptKeepsUptoRow.holds Tryd.pinned (OpenSpec.upto cacheSweptKeepsSpec)

/-- 'smithyardlaw7.CacheMergesMatchSpec', WHERE WHAT IT READS IS OF BULK AT MOST 1048576: true; the input reads as it did. -/
def cacheMergesMatchSpecUptoRow : OpenClaim := { program := "ytkjilepjblffeaadoor", sum := "e7372e31c38b27f4ff73f5a06eb1f535b55f8d63f8847226e22efc76280eb24a", func := "smithyard/smithyardlaw7.CacheMergesMatchSpec", spec := "cacheMergesMatchSpec", inPlace := ["internal/bytealg.IndexByteString", "internal/bytealg.IndexString", "internal/bytealg.abigen_runtime_cmpstring", "slices.overlaps[smithyard/api.Blob]", "slices.overlaps[smithyard/api.Entry]"], unfollowed := true, recurses := true, named := ["unicode/utf8.first", "unicode/utf8.acceptRanges", "internal/bytealg.MaxLen"], apart := false, laid := [("unicode/utf8.acceptRanges", laid_unicode_utf8_acceptRanges), ("unicode/utf8.first", laid_unicode_utf8_first)], narrowed := true }
def CacheMergesMatchSpecUptoSaid : Prop := cacheMergesMatchSpecUptoRow.holds Tryd.pinned (OpenSpec.upto cacheMergesMatchSpecSpec)

/-- 'smithyardlaw7.CacheMergedHasBoth', WHERE WHAT IT READS IS OF BULK AT MOST 1048576: true; the input reads as it did. -/
def cacheMergedHasBothUptoRow : OpenClaim := { program := "ytkjilepjblffeaadoor", sum := "e7372e31c38b27f4ff73f5a06eb1f535b55f8d63f8847226e22efc76280eb24a", func := "smithyard/smithyardlaw7.CacheMergedHasBoth", spec := "cacheMergedHasBoth", inPlace := ["internal/bytealg.IndexByteString", "internal/bytealg.IndexString", "internal/bytealg.abigen_runtime_cmpstring", "slices.overlaps[smithyard/api.Blob]", "slices.overlaps[smithyard/api.Entry]"], unfollowed := true, recurses := true, named := ["unicode/utf8.first", "unicode/utf8.acceptRanges", "internal/bytealg.MaxLen"], apart := false, laid := [("unicode/utf8.acceptRanges", laid_unicode_utf8_acceptRanges), ("unicode/utf8.first", laid_unicode_utf8_first)], narrowed := true }
def CacheMergedHasBothUptoSaid : Prop := cacheMergedHasBothUptoRow.holds Tryd.pinned (OpenSpec.upto cacheMergedHasBothSpec)

/-- 'smithyardlaw7.CacheShrunkKeeps', WHERE WHAT IT READS IS OF BULK AT MOST 1048576: true; the input reads as it did. -/
def cacheShrunkKeepsUptoRow : OpenClaim := { program := "ytkjilepjblffeaadoor", sum := "e7372e31c38b27f4ff73f5a06eb1f535b55f8d63f8847226e22efc76280eb24a", func := "smithyard/smithyardlaw7.CacheShrunkKeeps", spec := "cacheShrunkKeeps", inPlace := ["internal/bytealg.IndexByteString", "internal/bytealg.IndexString"], unfollowed := true, recurses := true, named := ["unicode/utf8.first", "unicode/utf8.acceptRanges", "internal/bytealg.MaxLen"], apart := false, laid := [("unicode/utf8.acceptRanges", laid_unicode_utf8_acceptRanges), ("unicode/utf8.first", laid_unicode_utf8_first)], narrowed := true }
def CacheShrunkKeepsUptoSaid : Prop := cacheShrunkKeepsUptoRow.holds Tryd.pinned (OpenSpec.upto cacheShrunkKeepsSpec)

/-- 'smithyardlaw7.CacheAsksMatchSpec', WHERE WHAT IT READS IS OF BULK AT MOST 1048576: true; the input reads as it did. -/
def cacheAsksMatchSpecUptoRow : OpenClaim := { program := "ytkjilepjblffeaadoor", sum := "e7372e31c38b27f4ff73f5a06eb1f535b55f8d63f8847226e22efc76280eb24a", func := "smithyard/smithyardlaw7.CacheAsksMatchSpec", spec := "cacheAsksMatchSpec", inPlace := ["internal/bytealg.IndexByteString", "internal/bytealg.IndexString", "internal/bytealg.abigen_runtime_cmpstring"], unfollowed := true, recurses := true, named := ["unicode/utf8.first", "unicode/utf8.acceptRanges", "internal/bytealg.MaxLen"], apart := false, laid := [("unicode/utf8.acceptRanges", laid_unicode_utf8_acceptRanges), ("unicode/utf8.first", laid_unicode_utf8_first)], narrowed := true }
def CacheAsksMatchSpecUptoSaid : Prop := cacheAsksMatchSpecUptoRow.holds Tryd.pinned (OpenSpec.upto cacheAsksMatchSpecSpec)

/-- 'smithyardlaw7.CacheSweepsMatchSpec', WHERE WHAT IT READS IS OF BULK AT MOST 1048576: true; the input reads as it did. -/
def cacheSweepsMatchSpecUptoRow : OpenClaim := { program := "ytkjilepjblffeaadoor", sum := "e7372e31c38b27f4ff73f5a06eb1f535b55f8d63f8847226e22efc76280eb24a", func := "smithyard/smithyardlaw7.CacheSweepsMatchSpec", spec := "cacheSweepsMatchSpec", inPlace := ["internal/bytealg.IndexByteString", "internal/bytealg.IndexString", "internal/bytealg.abigen_runtime_cmpstring"], unfollowed := true, recurses := true, named := ["unicode/utf8.first", "unicode/utf8.acceptRanges", "internal/bytealg.MaxLen"], apart := false, laid := [("unicode/utf8.acceptRanges", laid_unicode_utf8_acceptRanges), ("unicode/utf8.first", laid_unicode_utf8_first)], narrowed := true }
def CacheSweepsMatchSpecUptoSaid : Prop := cacheSweepsMatchSpecUptoRow.holds Tryd.pinned (OpenSpec.upto cacheSweepsMatchSpecSpec)

/-- 'smithyardlaw7.CachePutIsThere', WHERE WHAT IT READS IS OF BULK AT MOST 1048576: true; the input reads as it did. -/
def cachePutIsThereUptoRow : OpenClaim := { program := "ytkjilepjblffeaadoor", sum := "e7372e31c38b27f4ff73f5a06eb1f535b55f8d63f8847226e22efc76280eb24a", func := "smithyard/smithyardlaw7.CachePutIsThere", spec := "cachePutIsThere", inPlace := ["internal/bytealg.IndexByteString", "internal/bytealg.IndexString", "internal/bytealg.abigen_runtime_cmpstring", "slices.overlaps[smithyard/api.Blob]", "slices.overlaps[smithyard/api.Entry]"], unfollowed := true, recurses := true, named := ["unicode/utf8.first", "unicode/utf8.acceptRanges", "internal/bytealg.MaxLen"], apart := false, laid := [("unicode/utf8.acceptRanges", laid_unicode_utf8_acceptRanges), ("unicode/utf8.first", laid_unicode_utf8_first)], narrowed := true }
def CachePutIsThereUptoSaid : Prop := cachePutIsThereUptoRow.holds Tryd.pinned (OpenSpec.upto cachePutIsThereSpec)

/-- 'smithyardlaw7.CacheHeldStays', WHERE WHAT IT READS IS OF BULK AT MOST 1048576: true; the input reads as it did. -/
def cacheHeldStaysUptoRow : OpenClaim := { program := "ytkjilepjblffeaadoor", sum := "e7372e31c38b27f4ff73f5a06eb1f535b55f8d63f8847226e22efc76280eb24a", func := "smithyard/smithyardlaw7.CacheHeldStays", spec := "cacheHeldStays", inPlace := ["internal/bytealg.IndexByteString", "internal/bytealg.IndexString", "internal/bytealg.abigen_runtime_cmpstring", "slices.overlaps[smithyard/api.Blob]", "slices.overlaps[smithyard/api.Entry]"], unfollowed := true, recurses := true, named := ["unicode/utf8.first", "unicode/utf8.acceptRanges", "internal/bytealg.MaxLen"], apart := false, laid := [("unicode/utf8.acceptRanges", laid_unicode_utf8_acceptRanges), ("unicode/utf8.first", laid_unicode_utf8_first)], narrowed := true }
def CacheHeldStaysUptoSaid : Prop := cacheHeldStaysUptoRow.holds Tryd.pinned (OpenSpec.upto cacheHeldStaysSpec)

/-- 'smithyardlaw7.CacheFindsWhole', WHERE WHAT IT READS IS OF BULK AT MOST 1048576: true; the input reads as it did. -/
def cacheFindsWholeUptoRow : OpenClaim := { program := "ytkjilepjblffeaadoor", sum := "e7372e31c38b27f4ff73f5a06eb1f535b55f8d63f8847226e22efc76280eb24a", func := "smithyard/smithyardlaw7.CacheFindsWhole", spec := "cacheFindsWhole", inPlace := ["internal/bytealg.IndexByteString", "internal/bytealg.IndexString", "internal/bytealg.abigen_runtime_cmpstring", "slices.overlaps[smithyard/api.Blob]", "slices.overlaps[smithyard/api.Entry]"], unfollowed := true, recurses := true, named := ["unicode/utf8.first", "unicode/utf8.acceptRanges", "internal/bytealg.MaxLen"], apart := false, laid := [("unicode/utf8.acceptRanges", laid_unicode_utf8_acceptRanges), ("unicode/utf8.first", laid_unicode_utf8_first)], narrowed := true }
def CacheFindsWholeUptoSaid : Prop := cacheFindsWholeUptoRow.holds Tryd.pinned (OpenSpec.upto cacheFindsWholeSpec)

/-- 'smithyardlaw7.CacheKeepsRoom', WHERE WHAT IT READS IS OF BULK AT MOST 1048576: true; the input reads as it did. -/
def cacheKeepsRoomUptoRow : OpenClaim := { program := "ytkjilepjblffeaadoor", sum := "e7372e31c38b27f4ff73f5a06eb1f535b55f8d63f8847226e22efc76280eb24a", func := "smithyard/smithyardlaw7.CacheKeepsRoom", spec := "cacheKeepsRoom", inPlace := ["internal/bytealg.IndexByteString", "internal/bytealg.IndexString", "internal/bytealg.abigen_runtime_cmpstring", "slices.overlaps[smithyard/api.Blob]", "slices.overlaps[smithyard/api.Entry]"], unfollowed := true, recurses := true, named := ["unicode/utf8.first", "unicode/utf8.acceptRanges", "internal/bytealg.MaxLen"], apart := false, laid := [("unicode/utf8.acceptRanges", laid_unicode_utf8_acceptRanges), ("unicode/utf8.first", laid_unicode_utf8_first)], narrowed := true }
def CacheKeepsRoomUptoSaid : Prop := cacheKeepsRoomUptoRow.holds Tryd.pinned (OpenSpec.upto cacheKeepsRoomSpec)

/-- 'smithyardlaw7.CacheLeasesHold', WHERE WHAT IT READS IS OF BULK AT MOST 1048576: true; the input reads as it did. -/
def cacheLeasesHoldUptoRow : OpenClaim := { program := "ytkjilepjblffeaadoor", sum := "e7372e31c38b27f4ff73f5a06eb1f535b55f8d63f8847226e22efc76280eb24a", func := "smithyard/smithyardlaw7.CacheLeasesHold", spec := "cacheLeasesHold", inPlace := ["internal/bytealg.IndexByteString", "internal/bytealg.IndexString", "internal/bytealg.abigen_runtime_cmpstring", "slices.overlaps[smithyard/api.Blob]", "slices.overlaps[smithyard/api.Entry]"], unfollowed := true, recurses := true, named := ["unicode/utf8.first", "unicode/utf8.acceptRanges", "internal/bytealg.MaxLen"], apart := false, laid := [("unicode/utf8.acceptRanges", laid_unicode_utf8_acceptRanges), ("unicode/utf8.first", laid_unicode_utf8_first)], narrowed := true }
def CacheLeasesHoldUptoSaid : Prop := cacheLeasesHoldUptoRow.holds Tryd.pinned (OpenSpec.upto cacheLeasesHoldSpec)

/-- 'smithyardlaw7.CacheFollowsOn', WHERE WHAT IT READS IS OF BULK AT MOST 1048576: true; the input reads as it did. -/
def cacheFollowsOnUptoRow : OpenClaim := { program := "ytkjilepjblffeaadoor", sum := "e7372e31c38b27f4ff73f5a06eb1f535b55f8d63f8847226e22efc76280eb24a", func := "smithyard/smithyardlaw7.CacheFollowsOn", spec := "cacheFollowsOn", inPlace := ["internal/bytealg.IndexByteString", "internal/bytealg.IndexString", "internal/bytealg.abigen_runtime_cmpstring", "slices.overlaps[smithyard/api.Blob]", "slices.overlaps[smithyard/api.Entry]"], unfollowed := true, recurses := true, named := ["unicode/utf8.first", "unicode/utf8.acceptRanges", "internal/bytealg.MaxLen"], apart := false, laid := [("unicode/utf8.acceptRanges", laid_unicode_utf8_acceptRanges), ("unicode/utf8.first", laid_unicode_utf8_first)], narrowed := true }
def CacheFollowsOnUptoSaid : Prop := cacheFollowsOnUptoRow.holds Tryd.pinned (OpenSpec.upto cacheFollowsOnSpec)

/-- 'smithyardlaw7.CacheFitsCanBePut', WHERE WHAT IT READS IS OF BULK AT MOST 1048576: true; the input reads as it did. -/
def cacheFitsCanBePutUptoRow : OpenClaim := { program := "ytkjilepjblffeaadoor", sum := "e7372e31c38b27f4ff73f5a06eb1f535b55f8d63f8847226e22efc76280eb24a", func := "smithyard/smithyardlaw7.CacheFitsCanBePut", spec := "cacheFitsCanBePut", inPlace := ["internal/bytealg.IndexByteString", "internal/bytealg.IndexString", "internal/bytealg.abigen_runtime_cmpstring", "slices.overlaps[smithyard/api.Blob]", "slices.overlaps[smithyard/api.Entry]"], unfollowed := true, recurses := true, named := ["unicode/utf8.first", "unicode/utf8.acceptRanges", "internal/bytealg.MaxLen"], apart := false, laid := [("unicode/utf8.acceptRanges", laid_unicode_utf8_acceptRanges), ("unicode/utf8.first", laid_unicode_utf8_first)], narrowed := true }
def CacheFitsCanBePutUptoSaid : Prop := cacheFitsCanBePutUptoRow.holds Tryd.pinned (OpenSpec.upto cacheFitsCanBePutSpec)

/-- 'smithyardlaw7.CacheTextsComeBack', WHERE WHAT IT READS IS OF BULK AT MOST 1048576: true; the input reads as it did. -/
def cacheTextsComeBackUptoRow : OpenClaim := { program := "ytkjilepjblffeaadoor", sum := "e7372e31c38b27f4ff73f5a06eb1f535b55f8d63f8847226e22efc76280eb24a", func := "smithyard/smithyardlaw7.CacheTextsComeBack", spec := "cacheTextsComeBack", inPlace := ["internal/bytealg.IndexByteString", "internal/bytealg.IndexString", "internal/abi.NoEscape", "internal/bytealg.MakeNoZero", "internal/bytealg.CountString"], unfollowed := true, recurses := true, named := ["unicode/utf8.first", "unicode/utf8.acceptRanges", "internal/strconv.uint64pow10", "math/bits.deBruijn32tab", "math/bits.deBruijn64tab", "internal/bytealg.MaxLen", "strconv.ErrSyntax", "strconv.ErrRange"], apart := false, laid := [("math/bits.deBruijn32tab", laid_math_bits_deBruijn32tab), ("math/bits.deBruijn64tab", laid_math_bits_deBruijn64tab), ("internal/strconv.uint64pow10", laid_internal_strconv_uint64pow10), ("unicode/utf8.acceptRanges", laid_unicode_utf8_acceptRanges), ("strconv.ErrRange", laid_strconv_ErrRange), ("strconv.ErrSyntax", laid_strconv_ErrSyntax), ("unicode/utf8.first", laid_unicode_utf8_first)], narrowed := true }
def CacheTextsComeBackUptoSaid : Prop := cacheTextsComeBackUptoRow.holds Tryd.pinned (OpenSpec.upto cacheTextsComeBackSpec)

end Rows
end Go.Proofs.YtkjilepjblffeaaDoor
